/-
Of the row RecordReads: printed walks and plain laws, merged (wip/claim2.py).
-/
import Derived.Test.YtkcdmoghnoodmaaQRecordReads3
import Derived.Test.YtkcdmoghnoodmaaQRecordReads7
import Derived.Test.YtkcdmoghnoodmaaQRecordReads8
import Derived.Test.YtkcdmoghnoodmaaQRecordReads9
import Derived.Test.YtkcdmoghnoodmaaQRecordReads10
import Derived.Test.YtkcdmoghnoodmaaQRecordReads12
import Derived.Test.YtkcdmoghnoodmaaQRecordReads14
import Derived.Test.YtkcdmoghnoodmaaQRecordReads17
set_option linter.unusedVariables false
set_option linter.unusedSimpArgs false
namespace Go.Proofs.Ytkcdmoghnoodmaa.Tk
open Go.RowKit Go.Proofs.Ytkcdmoghnoodmaa.B Go.Proofs.YtkcdmoghnoodmaaW.PrintWords Go.Proofs.YtkcdmoghnoodmaaW.PrintLast Go.Proofs.YtkcdmoghnoodmaaW.PrintMore Go.Proofs.YtkcdmoghnoodmaaW.Mine Go.Proofs.YtkcdmoghnoodmaaW.Hp
open Go.Proofs.Ytkcdmoghnoodmaa.Cod Go.Proofs.Ytkcdmoghnoodmaa.Rd Go.Proofs.Ytkcdmoghnoodmaa.Wr

theorem P_zero {l : List Int} {n s e : Int} (h : P l = (n, s, e)) (he : e ≠ 0) : n = 0 ∧ s = 0 := by
  cases l with
  | nil =>
    simp only [P, Prod.mk.injEq] at h
    exact ⟨h.1.symm, h.2.1.symm⟩
  | cons a t =>
    simp only [P, par, fin] at h
    (repeat' split at h) <;> (simp only [Prod.mk.injEq] at h; obtain ⟨rfl, rfl, rfl⟩ := h; first | exact ⟨rfl, rfl⟩ | exact absurd rfl he)
theorem P_in {l : List Int} (hl : Bytes l) {n s e : Int} (h : P l = (n, s, e)) : 0 ≤ s ∧ s ≤ l.length := by
  by_cases he : e = 0
  · subst he
    obtain ⟨_, h1, h2, _⟩ := P_ok hl h
    omega
  · obtain ⟨_, rfl⟩ := P_zero h he
    omega
theorem F_in {l : List Int} (hl : Bytes l) {n : Bool} {s e : Int} (h : F l = (n, s, e)) : (0 ≤ s ∧ s ≤ l.length) ∧ (e ≠ 0 → n = false ∧ s = 0) := by
  obtain ⟨⟨n0, s0, e0⟩, hP⟩ : ∃ q, P l = q := ⟨_, rfl⟩
  have hi := P_in hl hP
  unfold F at h
  rw [hP] at h
  dsimp only at h hi
  (repeat' split at h) <;> (simp only [Prod.mk.injEq] at h; obtain ⟨rfl, rfl, rfl⟩ := h; exact ⟨by omega, fun he => by first | exact ⟨rfl, rfl⟩ | exact absurd rfl he⟩)
def TB (l : List Int) : List Int × Int × Int :=
  if (P l).2.2 = 0 then (if (P l).1 < 0 then ([], 0, 11) else if (P l).1 > (l.length : Int) - (P l).2.1 then ([], 0, 10) else ((l.take ((P l).2.1 + (P l).1).toNat).drop (P l).2.1.toNat, (P l).2.1 + (P l).1, 0)) else ([], 0, (P l).2.2)
theorem T_TB (l : List Int) : T l = (strOfNums (TB l).1, (TB l).2.1, (TB l).2.2) := by
  unfold T TB
  (repeat' split) <;> rfl
theorem TB_in {l : List Int} (hl : Bytes l) {t : List Int} {s e : Int} (h : TB l = (t, s, e)) : (0 ≤ s ∧ s ≤ l.length) ∧ (e ≠ 0 → t = [] ∧ s = 0) := by
  obtain ⟨⟨n0, s0, e0⟩, hP⟩ : ∃ q, P l = q := ⟨_, rfl⟩
  have hi := P_in hl hP
  unfold TB at h
  rw [hP] at h
  dsimp only at h hi
  (repeat' split at h) <;> (simp only [Prod.mk.injEq] at h; obtain ⟨rfl, rfl, rfl⟩ := h; exact ⟨by omega, fun he => by first | exact ⟨rfl, rfl⟩ | exact absurd rfl he⟩)
theorem parsebytes_ev (l : List Int) (hl : Bytes l) (hn : l.length ≤ 140737488351232) : Ev (fun q => cressetref01_ParseBytes.f q l) (TB l) := by
  unfold cressetref01_ParseBytes.f TB
  refine Ev.bind (parse_ev l hl (by omega)) ?_
  generalize hP : P l = p
  obtain ⟨n, s, e⟩ := p
  simp only
  by_cases c : e = 0
  · subst c
    obtain ⟨⟨n0, n1⟩, hs, hle, _⟩ := P_ok hl hP
    simp only [eq_self, if_true]
    by_cases c1 : n < 0
    · simp only [if_pos c1]
      exact Ev.now _
    · simp only [if_neg c1]
      rw [wr1 (x := (l.length : Int) - s) (by omega) (by omega)]
      by_cases c2 : n > (l.length : Int) - s
      · simp only [if_pos c2]
        exact Ev.now _
      · simp only [if_neg c2]
        refine Ev.congr (f := fun _ => some _) (fun k => ?_) (Ev.now _)
        rw [wr1 (x := s + n) (by omega) (by omega), if_pos (by omega), if_pos (by omega), if_pos (by omega), if_pos (by simp; omega)]
        rfl
  · simp only [if_neg c]
    exact Ev.now _
theorem refflag_ev (l : List Int) (hl : Bytes l) (hn : l.length ≤ 9223372036854775000) : Ev (fun q => cressetref01_ParseFlag.f q l) (F l) := by
  unfold cressetref01_ParseFlag.f F
  refine Ev.bind (parse_ev l hl hn) ?_
  generalize hP : P l = p
  obtain ⟨n, s, e⟩ := p
  simp only
  by_cases c : e = 0
  · subst c
    simp only [eq_self, if_true]
    by_cases c1 : n = 0
    · rw [if_pos (.inl c1)]
      refine Ev.congr (fun k => if_pos c1) ?_
      exact Ev.step (f := fun _ => some _) (fun k => by simp only [cressetref01_ParseFlag.j0]; rfl) (Ev.now _)
    · refine Ev.congr (fun k => if_neg c1) ?_
      by_cases c2 : n = 1
      · rw [if_pos (.inr c2)]
        subst c2
        exact Ev.step (f := fun _ => some _) (fun k => by simp only [cressetref01_ParseFlag.j0]; rfl) (Ev.now _)
      · rw [if_neg (by omega), bne_iff_ne.mpr c2]
        exact Ev.step (f := fun _ => some _) (fun k => by simp only [cressetref01_ParseFlag.j0]; rfl) (Ev.now _)
  · simp only [if_neg c]
    refine Ev.step (f := fun _ => some _) (fun k => ?_) (Ev.now _)
    simp only [cressetref01_ParseFlag.j0]
    rw [if_neg (by decide), if_neg c]
abbrev U8 : Kd Int := Kd.int .u8
def Leads (A : Option Addr) (xs : List Int) (A' : Option Addr) (ys : List Int) : Prop := ∀ W ok, Kd.F U8 W ok A xs.length xs → Kd.F U8 W ok A' ys.length ys
theorem leads_cut {A : Option Addr} {c : Nat} {xs : List Int} (hc : xs.length ≤ c) {s : Int} (h0 : 0 ≤ s) (h1 : s ≤ xs.length) : ∃ A', Leads A xs A' (xs.drop s.toNat) ∧ (xs.drop s.toNat).length ≤ c - s.toNat ∧ ∀ W : World, (Instr.slice 42 (.slice A xs.length c) (some (.int .i64 s)) none none).run Try.prog W = .ok (.slice A' (xs.drop s.toNat).length (c - s.toNat)) W := by
  obtain ⟨i0, hi0, _, hsz, _⟩ := info_parts info5
  have h := cut_from (P := Try.prog) 42 5 .i64 Try.underlying42 hi0 1 hsz A xs.length c s h0 (by omega)
  refine ⟨(if c = s.toNat then A else A.map (·.add (s.toNat * 1))), fun W ok hf => Kd.F_cut hf (by omega) hc, ?_, ?_⟩
  · rw [List.length_drop]; omega
  · intro W
    rw [h W, List.length_drop]
set_option maxHeartbeats 4000000 in
set_option maxRecDepth 100000 in
theorem rint_tr (rb : Nat) (A : Option Addr) (c : Nat) (xs : List Int) (hbx : Bytes xs) (hlx : xs.length ≤ 140737488351232) (hc : xs.length ≤ c) :
    Tr Try.prog 76 #[.pointer (some ⟨rb, 0, none⟩)] (Asn.rd U8 A xs.length xs) (Asn.box rb #[.slice A xs.length c] 95) (fun r => Asn.ex fun x : Option Addr × Nat => Asn.and (Asn.lift (r = .tuple #[.int .i64 (P xs).1, .int .i64 (P xs).2.2] ∧ (xs.drop (P xs).2.1.toNat).length ≤ x.2 ∧ Leads A xs x.1 (xs.drop (P xs).2.1.toNat))) (Asn.box rb #[.slice x.1 (xs.drop (P xs).2.1.toNat).length x.2] 95)) := by
  refine Tr.intro fun w U H => ?_
  obtain ⟨k, hk⟩ := (parse_ev xs hbx (by omega)).rounds
  obtain ⟨⟨n, s, e⟩, hP⟩ : ∃ q, P xs = q := ⟨_, rfl⟩
  rw [hP] at hk ⊢
  obtain ⟨hs0, hs1⟩ := P_in hbx hP
  obtain ⟨A', hld, hcl, hcut⟩ := leads_cut (A := A) hc hs0 hs1
  dsimp only
  generalize xs.drop s.toNat = ys at *
  generalize c - s.toNat = c' at *
  have z0 := H.cell 2 rfl 0 (v := .slice A xs.length c) rfl
  have u0 := H.unfrozen 2 rfl 0
  have HK := Aside0.mk hk
  clear hk hs0 hs1 hP
  go_enter Try.func76, Try.ntmps76
  go_wp2_with (go_at_call 87; refine (cressetref01_ParseInt.calls k A c xs n s e _ (H.reads 1 rfl) hc HK.out).mono ?_; rintro e' w1 ⟨rfl, ⟨nd, rfl⟩⟩)
  go_ret2
  have H1 := (H.drewN nd).box_set 2 rfl rfl 0 (.slice A' ys.length c')
  exact ⟨_, rfl, (H1.imp 2 (A' := Asn.ex fun x : Option Addr × Nat => Asn.and (Asn.lift (Value.tuple #[.int .i64 n, .int .i64 e] = Value.tuple #[.int .i64 n, .int .i64 e] ∧ ys.length ≤ x.2 ∧ Leads A xs x.1 ys)) (Asn.box rb #[.slice x.1 ys.length x.2] 95)) rfl (fun S h => ⟨(A', c'), ⟨rfl, hcl, hld⟩, h⟩)).keep [0, 2]⟩
set_option maxHeartbeats 4000000 in
set_option maxRecDepth 100000 in
theorem rflag_tr (rb : Nat) (A : Option Addr) (c : Nat) (xs : List Int) (hbx : Bytes xs) (hlx : xs.length ≤ 140737488351232) (hc : xs.length ≤ c) :
    Tr Try.prog 82 #[.pointer (some ⟨rb, 0, none⟩)] (Asn.rd U8 A xs.length xs) (Asn.box rb #[.slice A xs.length c] 95) (fun r => Asn.ex fun x : Option Addr × Nat => Asn.and (Asn.lift (r = .tuple #[.bool (F xs).1, .int .i64 (F xs).2.2] ∧ (xs.drop (F xs).2.1.toNat).length ≤ x.2 ∧ Leads A xs x.1 (xs.drop (F xs).2.1.toNat))) (Asn.box rb #[.slice x.1 (xs.drop (F xs).2.1.toNat).length x.2] 95)) := by
  refine Tr.intro fun w U H => ?_
  obtain ⟨k, hk⟩ := (refflag_ev xs hbx (by omega)).rounds
  obtain ⟨⟨n, s, e⟩, hP⟩ : ∃ q, F xs = q := ⟨_, rfl⟩
  rw [hP] at hk ⊢
  obtain ⟨hs0, hs1⟩ := (F_in hbx hP).1
  obtain ⟨A', hld, hcl, hcut⟩ := leads_cut (A := A) hc hs0 hs1
  dsimp only
  generalize xs.drop s.toNat = ys at *
  generalize c - s.toNat = c' at *
  have z0 := H.cell 2 rfl 0 (v := .slice A xs.length c) rfl
  have u0 := H.unfrozen 2 rfl 0
  have HK := Aside0.mk hk
  clear hk hs0 hs1 hP
  go_enter Try.func82, Try.ntmps82
  go_wp2_with (go_at_call 88; refine (cressetref01_ParseFlag.calls k A c xs n s e _ (H.reads 1 rfl) hc HK.out).mono ?_; rintro e' w1 ⟨rfl, ⟨nd, rfl⟩⟩)
  go_ret2
  have H1 := (H.drewN nd).box_set 2 rfl rfl 0 (.slice A' ys.length c')
  exact ⟨_, rfl, (H1.imp 2 (A' := Asn.ex fun x : Option Addr × Nat => Asn.and (Asn.lift (Value.tuple #[.bool n, .int .i64 e] = Value.tuple #[.bool n, .int .i64 e] ∧ ys.length ≤ x.2 ∧ Leads A xs x.1 ys)) (Asn.box rb #[.slice x.1 ys.length x.2] 95)) rfl (fun S h => ⟨(A', c'), ⟨rfl, hcl, hld⟩, h⟩)).keep [0, 2]⟩
set_option maxHeartbeats 4000000 in
set_option maxRecDepth 100000 in
theorem rbytes_tr (rb : Nat) (A : Option Addr) (c : Nat) (xs : List Int) (hbx : Bytes xs) (hlx : xs.length ≤ 140737488351232) (hc : xs.length ≤ c) :
    Tr Try.prog 83 #[.pointer (some ⟨rb, 0, none⟩)] (Asn.rd U8 A xs.length xs) (Asn.box rb #[.slice A xs.length c] 95) (fun r => Asn.ex fun x : Option Addr × Nat × Option Addr × Nat => Asn.and (Asn.lift (r = .tuple #[.slice x.2.2.1 (TB xs).1.length x.2.2.2, .int .i64 (TB xs).2.2] ∧ (xs.drop (TB xs).2.1.toNat).length ≤ x.2.1 ∧ Leads A xs x.1 (xs.drop (TB xs).2.1.toNat))) (Asn.star (Asn.box rb #[.slice x.1 (xs.drop (TB xs).2.1.toNat).length x.2.1] 95) (Asn.row U8 5 (.slice x.2.2.1 (TB xs).1.length x.2.2.2) (TB xs).1))) := by
  refine Tr.intro fun w U H => ?_
  obtain ⟨k, hk⟩ := (parsebytes_ev xs hbx (by omega)).rounds
  obtain ⟨⟨n, s, e⟩, hP⟩ : ∃ q, TB xs = q := ⟨_, rfl⟩
  rw [hP] at hk ⊢
  obtain ⟨hs0, hs1⟩ := (TB_in hbx hP).1
  obtain ⟨A', hld, hcl, hcut⟩ := leads_cut (A := A) hc hs0 hs1
  dsimp only
  generalize xs.drop s.toNat = ys at *
  generalize c - s.toNat = c' at *
  have z0 := H.cell 2 rfl 0 (v := .slice A xs.length c) rfl
  have HK := Aside0.mk hk
  clear hk hs0 hs1 hP
  go_enter Try.func83, Try.ntmps83
  go_wp2_with (go_at_call 89; refine (cressetref01_ParseBytes.calls k A c xs n s e _ (H.reads 1 rfl) hc HK.out).mono ?_; rintro e' w1 ⟨v1, rfl, hR, hb⟩; have H1 := H.made 3 hb hR; obtain ⟨Ab, cb, rfl⟩ := Kd.R_slice hR; clear hR hb; have y0 := H1.cell 2 rfl 0 (v := .slice A xs.length c) rfl; have u0 := H1.unfrozen 2 rfl 0)
  go_ret2
  have H2 := H1.box_set 2 rfl rfl 0 (.slice A' ys.length c')
  have H3 := H2.join 2 3 rfl rfl (by decide) rfl rfl
  exact ⟨_, rfl, (H3.imp 2 (A' := Asn.ex fun x : Option Addr × Nat × Option Addr × Nat => Asn.and (Asn.lift (Value.tuple #[.slice Ab n.length cb, .int .i64 e] = Value.tuple #[.slice x.2.2.1 n.length x.2.2.2, .int .i64 e] ∧ ys.length ≤ x.2.1 ∧ Leads A xs x.1 ys)) (Asn.star (Asn.box rb #[.slice x.1 ys.length x.2.1] 95) (Asn.row U8 5 (.slice x.2.2.1 n.length x.2.2.2) n))) rfl (fun S h => ⟨(A', c', Ab, cb), ⟨rfl, hcl, hld⟩, h⟩)).keep [0, 2]⟩
def isTk (p : Nat) (A0 : Option Addr) (b : List Int) (a e : Int) : Asn := Asn.ex fun x : Nat × Option Addr × Nat => Asn.and (Asn.lift ((dr b a).length ≤ x.2.2 ∧ Leads A0 b x.2.1 (dr b a))) (Asn.star (Asn.box p #[.pointer (some ⟨x.1, 0, none⟩), .int .i64 e] 97) (Asn.box x.1 #[.slice x.2.1 (dr b a).length x.2.2] 95))
section
variable {w0 w : World} {U : Nat → Prop} {X : Asn} {p rb : Nat} {A0 A : Option Addr} {c : Nat} {b : List Int} {a e : Int} {r : Value}
theorem tk_open (H : Hp w0 w [(0, Asn.old w0 U), (0, Asn.rd U8 A0 b.length b), (1, isTk p A0 b a e)]) : ∃ rb A c, (dr b a).length ≤ c ∧ Leads A0 b A (dr b a) ∧ Hp w0 w [(0, Asn.old w0 U), (0, Asn.rd U8 A0 b.length b), (1, Asn.box p #[.pointer (some ⟨rb, 0, none⟩), .int .i64 e] 97), (2, Asn.box rb #[.slice A (dr b a).length c] 95), (0, Asn.rd U8 A (dr b a).length (dr b a))] := by
  obtain ⟨⟨rb, A, c⟩, H1⟩ := H.open_ 2 rfl
  obtain ⟨hc, hl⟩ := H1.fact 2 rfl (fun S h => h.1)
  have H2 := (H1.imp 2 (A' := Asn.star (Asn.box p #[.pointer (some ⟨rb, 0, none⟩), .int .i64 e] 97) (Asn.box rb #[.slice A (dr b a).length c] 95)) rfl (fun S h => h.2)).split 2 2 rfl rfl (by decide)
  exact ⟨rb, A, c, hc, hl, (H2.keep [0, 1, 2, 3, 1]).imp 4 rfl (fun S h => hl _ _ h)⟩
theorem tk_shut (H : Hp w0 w [(0, Asn.old w0 U), (0, X), (1, Asn.box p #[.pointer (some ⟨rb, 0, none⟩), .int .i64 e] 97), (2, Asn.box rb #[.slice A (dr b a).length c] 95)]) (hc : (dr b a).length ≤ c) (hl : Leads A0 b A (dr b a)) : Hp w0 w [(0, Asn.old w0 U), (1, Asn.and (Asn.lift (r = r)) (isTk p A0 b a e))] :=
  ((H.join 2 3 rfl rfl (by decide) rfl rfl).imp 2 (A' := Asn.and (Asn.lift (r = r)) (isTk p A0 b a e)) rfl (fun S h => ⟨rfl, (rb, A, c), ⟨hc, hl⟩, h⟩)).keep [0, 2]
end
theorem Leads.trans {A0 A A' : Option Addr} {b xs ys : List Int} (h : Leads A0 b A xs) (k : Leads A xs A' ys) : Leads A0 b A' ys := fun W ok hf => k W ok (h W ok hf)
theorem dr_le {b : List Int} (hb : Bytes b) (hl : b.length ≤ 140737488351232) {a : Int} (ha : In b a) : (dr b a).length ≤ 140737488351232 := by have := dr_len ha; have := ha.1; omega
theorem RN_eq {b : List Int} (hb : Bytes b) (hl : b.length ≤ 140737488351232) {a : Int} (ha : In b a) : RN b a 0 = ((P (dr b a)).1, a + (P (dr b a)).2.1, (P (dr b a)).2.2) := by
  unfold RN
  rw [if_pos rfl]
  obtain ⟨⟨n, s, e⟩, hP⟩ : ∃ q, P (dr b a) = q := ⟨_, rfl⟩
  rw [hP]
  by_cases he : e = 0
  · subst he; rw [if_pos rfl]
  · obtain ⟨rfl, rfl⟩ := P_zero hP he
    rw [if_neg he]; simp
theorem RF_eq {b : List Int} (hb : Bytes b) (hl : b.length ≤ 140737488351232) {a : Int} (ha : In b a) : RF b a 0 = ((F (dr b a)).1, a + (F (dr b a)).2.1, (F (dr b a)).2.2) := by
  unfold RF
  rw [if_pos rfl]
  obtain ⟨⟨n, s, e⟩, hP⟩ : ∃ q, F (dr b a) = q := ⟨_, rfl⟩
  rw [hP]
  by_cases he : e = 0
  · subst he; rw [if_pos rfl]
  · obtain ⟨rfl, rfl⟩ := (F_in (dr_bytes hb a) hP).2 he
    rw [if_neg he]; simp
theorem RT_eq {b : List Int} (hb : Bytes b) (hl : b.length ≤ 140737488351232) {a : Int} (ha : In b a) : RT b a 0 = (strOfNums (TB (dr b a)).1, a + (TB (dr b a)).2.1, (TB (dr b a)).2.2) := by
  unfold RT
  rw [if_pos rfl, T_TB]
  obtain ⟨⟨n, s, e⟩, hP⟩ : ∃ q, TB (dr b a) = q := ⟨_, rfl⟩
  rw [hP]
  by_cases he : e = 0
  · subst he; rw [if_pos rfl]
  · obtain ⟨rfl, rfl⟩ := (TB_in (dr_bytes hb a) hP).2 he
    rw [if_neg he]; simp [strOfNums]
section
variable {b : List Int} (hb : Bytes b) (hl : b.length ≤ 140737488351232) {p : Nat} {A0 : Option Addr} {a : Int} (ha : In b a)
include hb hl ha
set_option maxHeartbeats 4000000 in
set_option maxRecDepth 100000 in
theorem num_tr (e : Int) : Tr Try.prog 59 #[.pointer (some ⟨p, 0, none⟩)] (Asn.rd U8 A0 b.length b) (isTk p A0 b a e) (fun r => Asn.and (Asn.lift (r = .int .i64 (RN b a e).1)) (isTk p A0 b (RN b a e).2.1 (RN b a e).2.2)) := by
  refine Tr.intro fun w U H0 => ?_
  obtain ⟨rb, A, c, hc, hld, H⟩ := tk_open H0
  clear H0
  have z0 := H.cell 2 rfl 0 rfl
  have z1 := H.cell 2 rfl 1 (v := .int .i64 e) rfl
  by_cases he : e = 0
  · subst he
    rw [RN_eq hb hl ha]
    have hdl := dr_le hb hl ha
    obtain ⟨⟨n, s, e1⟩, hP⟩ : ∃ q, P (dr b a) = q := ⟨_, rfl⟩
    have hs := P_in (dr_bytes hb a) hP
    have hd : (dr b a).drop s.toNat = dr b (a + s) := (dr_dr ha.1 hs.1).symm
    have HT := rint_tr rb A c (dr b a) (dr_bytes hb a) hdl hc
    rw [hP] at HT ⊢
    dsimp only at HT ⊢
    rw [hd] at HT
    have HTA := Aside0.mk HT
    clear HT hP hd hs
    go_enter Try.func59, Try.ntmps59
    go_wp2_with (go_at_call 76; refine (H.call HTA.out 3 rfl rfl (fun lab h => (Asn.rd U8 A _ _).mono (h.get (p := 4) rfl) (fun k _ hk => by have h2 : lab k = 0 := hk; omega))).mono ?_; rintro e' w1 ⟨r, rfl, H1⟩; obtain ⟨⟨A', c'⟩, H2⟩ := H1.open_ 3 rfl; obtain ⟨rfl, hc', hl'⟩ := H2.fact 3 rfl (fun S h => h.1); have H3 := H2.imp 3 (A' := Asn.box rb #[.slice A' (dr b (a + s)).length c'] 95) rfl (fun S h => h.2); have u1 := H3.unfrozen 2 rfl 1; have y1 := H3.cell 2 rfl 1 (v := .int .i64 0) rfl)
    go_ret
    exact ⟨_, rfl, tk_shut ((H3.box_set 2 rfl rfl 1 (.int .i64 e1)).keep [0, 1, 2, 3]) hc' (hld.trans hl')⟩
  · have hR : RN b a e = (0, a, e) := by unfold RN; rw [if_neg he]
    rw [hR]
    have q1 : (e == 0) = false := beq_eq_false_iff_ne.mpr he
    have q2 : (e != 0) = true := bne_iff_ne.mpr he
    go_enter Try.func59, Try.ntmps59
    go_wp2
    go_ret
    exact ⟨_, rfl, tk_shut (H.keep [0, 1, 2, 3]) hc hld⟩
set_option maxHeartbeats 4000000 in
set_option maxRecDepth 100000 in
theorem flag_tr (e : Int) : Tr Try.prog 69 #[.pointer (some ⟨p, 0, none⟩)] (Asn.rd U8 A0 b.length b) (isTk p A0 b a e) (fun r => Asn.and (Asn.lift (r = .bool (RF b a e).1)) (isTk p A0 b (RF b a e).2.1 (RF b a e).2.2)) := by
  refine Tr.intro fun w U H0 => ?_
  obtain ⟨rb, A, c, hc, hld, H⟩ := tk_open H0
  clear H0
  have z0 := H.cell 2 rfl 0 rfl
  have z1 := H.cell 2 rfl 1 (v := .int .i64 e) rfl
  by_cases he : e = 0
  · subst he
    rw [RF_eq hb hl ha]
    have hdl := dr_le hb hl ha
    obtain ⟨⟨n, s, e1⟩, hP⟩ : ∃ q, F (dr b a) = q := ⟨_, rfl⟩
    have hs := (F_in (dr_bytes hb a) hP).1
    have hd : (dr b a).drop s.toNat = dr b (a + s) := (dr_dr ha.1 hs.1).symm
    have HT := rflag_tr rb A c (dr b a) (dr_bytes hb a) hdl hc
    rw [hP] at HT ⊢
    dsimp only at HT ⊢
    rw [hd] at HT
    have HTA := Aside0.mk HT
    clear HT hP hd hs
    go_enter Try.func69, Try.ntmps69
    go_wp2_with (go_at_call 82; refine (H.call HTA.out 3 rfl rfl (fun lab h => (Asn.rd U8 A _ _).mono (h.get (p := 4) rfl) (fun k _ hk => by have h2 : lab k = 0 := hk; omega))).mono ?_; rintro e' w1 ⟨r, rfl, H1⟩; obtain ⟨⟨A', c'⟩, H2⟩ := H1.open_ 3 rfl; obtain ⟨rfl, hc', hl'⟩ := H2.fact 3 rfl (fun S h => h.1); have H3 := H2.imp 3 (A' := Asn.box rb #[.slice A' (dr b (a + s)).length c'] 95) rfl (fun S h => h.2); have u1 := H3.unfrozen 2 rfl 1; have y1 := H3.cell 2 rfl 1 (v := .int .i64 0) rfl)
    go_ret
    exact ⟨_, rfl, tk_shut ((H3.box_set 2 rfl rfl 1 (.int .i64 e1)).keep [0, 1, 2, 3]) hc' (hld.trans hl')⟩
  · have hR : RF b a e = (false, a, e) := by unfold RF; rw [if_neg he]
    rw [hR]
    have q1 : (e == 0) = false := beq_eq_false_iff_ne.mpr he
    have q2 : (e != 0) = true := bne_iff_ne.mpr he
    go_enter Try.func69, Try.ntmps69
    go_wp2
    go_ret
    exact ⟨_, rfl, tk_shut (H.keep [0, 1, 2, 3]) hc hld⟩
set_option maxHeartbeats 4000000 in
set_option maxRecDepth 100000 in
theorem text_tr (e : Int) : Tr Try.prog 70 #[.pointer (some ⟨p, 0, none⟩)] (Asn.rd U8 A0 b.length b) (isTk p A0 b a e) (fun r => Asn.and (Asn.lift (r = .string (RT b a e).1)) (isTk p A0 b (RT b a e).2.1 (RT b a e).2.2)) := by
  refine Tr.intro fun w U H0 => ?_
  obtain ⟨rb, A, c, hc, hld, H⟩ := tk_open H0
  clear H0
  have z0 := H.cell 2 rfl 0 rfl
  have z1 := H.cell 2 rfl 1 (v := .int .i64 e) rfl
  by_cases he : e = 0
  · subst he
    rw [RT_eq hb hl ha]
    have hdl := dr_le hb hl ha
    obtain ⟨⟨n, s, e1⟩, hP⟩ : ∃ q, TB (dr b a) = q := ⟨_, rfl⟩
    have hs := (TB_in (dr_bytes hb a) hP).1
    have hd : (dr b a).drop s.toNat = dr b (a + s) := (dr_dr ha.1 hs.1).symm
    have HT := rbytes_tr rb A c (dr b a) (dr_bytes hb a) hdl hc
    rw [hP] at HT ⊢
    dsimp only at HT ⊢
    rw [hd] at HT
    have HTA := Aside0.mk HT
    clear HT hP hd hs
    go_enter Try.func70, Try.ntmps70
    go_wp2_with (go_at_call 83; refine (H.call HTA.out 3 rfl rfl (fun lab h => (Asn.rd U8 A _ _).mono (h.get (p := 4) rfl) (fun k _ hk => by have h2 : lab k = 0 := hk; omega))).mono ?_; rintro e' w1 ⟨r, rfl, H1⟩; obtain ⟨⟨A', c', Ab, cb⟩, H2⟩ := H1.open_ 3 rfl; obtain ⟨rfl, hc', hl'⟩ := H2.fact 3 rfl (fun S h => h.1); have H3 := (H2.imp 3 (A' := Asn.star (Asn.box rb #[.slice A' (dr b (a + s)).length c'] 95) (Asn.row U8 5 (.slice Ab n.length cb) n)) rfl (fun S h => h.2)).split 3 5 rfl rfl (by decide); have u1 := H3.unfrozen 2 rfl 1; have y1 := H3.cell 2 rfl 1 (v := .int .i64 0) rfl; have H4 := H3.box_set 2 rfl rfl 1 (.int .i64 e1); have hcv := Kd.C_string (P := Try.prog) (A := Ab) (c := cb) Try.underlying42 Try.underlying5 Try.underlying9 (H4.row_C 5 rfl).2.2)
    go_ret
    exact ⟨_, rfl, tk_shut (H4.keep [0, 1, 2, 3]) hc' (hld.trans hl')⟩
  · have hR : RT b a e = (⟨#[]⟩, a, e) := by unfold RT; rw [if_neg he]
    rw [hR]
    have q1 : (e == 0) = false := beq_eq_false_iff_ne.mpr he
    have q2 : (e != 0) = true := bne_iff_ne.mpr he
    go_enter Try.func70, Try.ntmps70
    go_wp2
    go_ret
    exact ⟨_, rfl, tk_shut (H.keep [0, 1, 2, 3]) hc hld⟩
end
end Go.Proofs.Ytkcdmoghnoodmaa.Tk

set_option linter.unusedVariables false
set_option linter.unusedSimpArgs false
namespace Go.Proofs.Ytkcdmoghnoodmaa.Tk
open Go.RowKit Go.Proofs.Ytkcdmoghnoodmaa.B Go.Proofs.YtkcdmoghnoodmaaW.PrintWords Go.Proofs.YtkcdmoghnoodmaaW.PrintLast Go.Proofs.YtkcdmoghnoodmaaW.PrintMore Go.Proofs.YtkcdmoghnoodmaaW.Mine Go.Proofs.YtkcdmoghnoodmaaW.Hp
open Go.Proofs.Ytkcdmoghnoodmaa.Lib Go.Proofs.Ytkcdmoghnoodmaa.Cod Go.Proofs.Ytkcdmoghnoodmaa.Rd Go.Proofs.Ytkcdmoghnoodmaa.Wr

section
variable {b : List Int} (hb : Bytes b) (hl : b.length ≤ 140737488351232) {p : Nat} {A0 : Option Addr} {a : Int}
set_option maxHeartbeats 4000000 in
set_option maxRecDepth 100000 in
theorem fails_tr (e2 : Int) : Tr Try.prog 77 #[.pointer (some ⟨p, 0, none⟩), .int .i64 e2] (Asn.rd U8 A0 b.length b) (isTk p A0 b a 0) (fun _ => isTk p A0 b a e2) := by
  refine Tr.intro fun w U H0 => ?_
  obtain ⟨rb, A, c, hc, hld, H⟩ := tk_open H0
  clear H0
  have z1 := H.cell 2 rfl 1 (v := .int .i64 0) rfl
  have u1 := H.unfrozen 2 rfl 1
  go_enter Try.func77, Try.ntmps77
  go_wp2
  exact bodyPost_end (results_none rfl _ _ _) rfl ⟨_, rfl, (tk_shut (r := .bool true) ((H.box_set 2 rfl rfl 1 (.int .i64 e2)).keep [0, 1, 2, 3]) hc hld).imp 1 rfl (fun S h => h.2)⟩
include hb hl
set_option maxHeartbeats 4000000 in
set_option maxRecDepth 100000 in
theorem count_tr (ha : In b a) (e most : Int) (hm : 0 ≤ most) : Tr Try.prog 60 #[.pointer (some ⟨p, 0, none⟩), .int .i64 most] (Asn.rd U8 A0 b.length b) (isTk p A0 b a e) (fun r => Asn.and (Asn.lift (r = .int .i64 (RM b a e most).1)) (isTk p A0 b (RM b a e most).2.1 (RM b a e most).2.2)) := by
  refine Tr.intro fun w U H => ?_
  have HT := num_tr hb hl (p := p) (A0 := A0) ha e
  have hz : (RN b a e).2.2 ≠ 0 → (RN b a e).1 = 0 := by
    intro he
    by_cases h : e = 0
    · subst h
      rw [RN_eq hb hl ha] at he ⊢
      exact (P_zero (l := dr b a) rfl he).1
    · unfold RN; rw [if_neg h]
  unfold RM
  obtain ⟨⟨n, a1, e1⟩, hR⟩ : ∃ q, RN b a e = q := ⟨_, rfl⟩
  rw [hR] at HT hz ⊢
  dsimp only at HT hz ⊢
  have HTA := Aside0.mk HT
  clear HT hR
  by_cases he : e1 = 0
  · subst he
    rw [if_pos rfl]
    by_cases hbad : n < 0 ∨ n > most
    · rw [if_pos hbad]
      have hd : (decide (n < 0) = true) ∨ (decide (n < 0) = false ∧ decide (most < n) = true) := by
        by_cases h : n < 0
        · exact .inl (decide_eq_true h)
        · exact .inr ⟨decide_eq_false h, decide_eq_true (by omega)⟩
      clear hz hbad
      rcases hd with h1 | ⟨h1, h2⟩
      all_goals
        (go_enter Try.func60, Try.ntmps60
         go_wp2_with (first
           | (go_at_call 59; refine (H.call HTA.out 2 rfl rfl (fun lab h => (Asn.rd U8 A0 _ _).mono (h.get (p := 1) rfl) (fun k _ hk => by have h2 : lab k = 0 := hk; omega))).mono ?_; rintro e' w1 ⟨r, rfl, H1⟩; obtain rfl := H1.fact 2 rfl (fun S h => h.1); have H2 := H1.imp 2 (A' := isTk p A0 b a1 0) rfl (fun S h => h.2); clear H1)
           | (go_at_call 77; refine (H2.call (fails_tr 32) 2 rfl rfl (fun lab h => (Asn.rd U8 A0 _ _).mono (h.get (p := 1) rfl) (fun k _ hk => by have h2 : lab k = 0 := hk; omega))).mono ?_; rintro e' w2 ⟨r2, rfl, H3⟩; obtain ⟨rb, A, c, hc, hld, H5⟩ := tk_open (H3.keep [0, 1, 2]); have y1 := H5.cell 2 rfl 1 (v := .int .i64 32) rfl))
         go_ret
         exact ⟨_, rfl, tk_shut (H5.keep [0, 1, 2, 3]) hc hld⟩)
    · rw [if_neg hbad]
      have h1 : decide (n < 0) = false := decide_eq_false (by omega)
      have h2 : decide (most < n) = false := decide_eq_false (by omega)
      clear hz hbad
      go_enter Try.func60, Try.ntmps60
      go_wp2_with (go_at_call 59; refine (H.call HTA.out 2 rfl rfl (fun lab h => (Asn.rd U8 A0 _ _).mono (h.get (p := 1) rfl) (fun k _ hk => by have h2 : lab k = 0 := hk; omega))).mono ?_; rintro e' w1 ⟨r, rfl, H1⟩; obtain rfl := H1.fact 2 rfl (fun S h => h.1); have H2 := H1.imp 2 (A' := isTk p A0 b a1 0) rfl (fun S h => h.2); clear H1; obtain ⟨rb, A, c, hc, hld, H5⟩ := tk_open (H2.keep [0, 1, 2]); have y1 := H5.cell 2 rfl 1 (v := .int .i64 0) rfl)
      go_ret
      exact ⟨_, rfl, tk_shut (H5.keep [0, 1, 2, 3]) hc hld⟩
  · rw [if_neg he]
    obtain rfl := hz he
    have h2 : decide (most < 0) = false := decide_eq_false (by omega)
    have q1 : (e1 == 0) = false := beq_eq_false_iff_ne.mpr he
    have q2 : (e1 != 0) = true := bne_iff_ne.mpr he
    clear hz
    go_enter Try.func60, Try.ntmps60
    go_wp2_with (go_at_call 59; refine (H.call HTA.out 2 rfl rfl (fun lab h => (Asn.rd U8 A0 _ _).mono (h.get (p := 1) rfl) (fun k _ hk => by have h2 : lab k = 0 := hk; omega))).mono ?_; rintro e' w1 ⟨r, rfl, H1⟩; obtain rfl := H1.fact 2 rfl (fun S h => h.1); have H2 := H1.imp 2 (A' := isTk p A0 b a1 e1) rfl (fun S h => h.2); clear H1; obtain ⟨rb, A, c, hc, hld, H5⟩ := tk_open (H2.keep [0, 1, 2]); have y1 := H5.cell 2 rfl 1 (v := .int .i64 e1) rfl)
    go_ret
    exact ⟨_, rfl, tk_shut (H5.keep [0, 1, 2, 3]) hc hld⟩
set_option maxHeartbeats 8000000 in
set_option maxRecDepth 100000 in
theorem write_tr (ha : In b a) (e : Int) : Tr Try.prog 61 #[.pointer (some ⟨p, 0, none⟩)] (Asn.rd U8 A0 b.length b) (isTk p A0 b a e) (fun r => Asn.and (Asn.lift (r = .agg #[.string (RW b a e).1.f0, .string (RW b a e).1.f1, .bool (RW b a e).1.f2])) (isTk p A0 b (RW b a e).2.1 (RW b a e).2.2)) := by
  refine Tr.intro fun w U H => ?_
  have i1 := RT_in (e := e) hb ha
  have i2 := RF_in (e := (RT b a e).2.2) hb i1
  have T1 := text_tr hb hl (p := p) (A0 := A0) ha e
  have T2 := flag_tr hb hl (p := p) (A0 := A0) i1 (RT b a e).2.2
  have T3 := text_tr hb hl (p := p) (A0 := A0) i2 (RF b (RT b a e).2.1 (RT b a e).2.2).2.2
  unfold RW
  dsimp only
  obtain ⟨⟨s1, a1, e1⟩, h1⟩ : ∃ q, RT b a e = q := ⟨_, rfl⟩
  rw [h1] at T1 T2 T3 ⊢
  dsimp only at T1 T2 T3 ⊢
  obtain ⟨⟨f1, a2, e2⟩, h2⟩ : ∃ q, RF b a1 e1 = q := ⟨_, rfl⟩
  rw [h2] at T2 T3 ⊢
  dsimp only at T2 T3 ⊢
  obtain ⟨⟨s2, a3, e3⟩, h3⟩ : ∃ q, RT b a2 e2 = q := ⟨_, rfl⟩
  rw [h3] at T3 ⊢
  dsimp only at T3 ⊢
  have C := checkWriteR_eq (⟨s1, s2, f1⟩ : S33)
  dsimp only at C
  generalize wrE (⟨s1, s2, f1⟩ : S33) = ew at C ⊢
  have TA := Aside0.mk T1
  have TB' := Aside0.mk T2
  have TC' := Aside0.mk T3
  have CA := Aside0.mk C
  clear T1 T2 T3 h1 h2 h3 i1 i2 C
  by_cases he : e3 = 0
  · subst he
    rw [if_pos rfl]
    go_enter Try.func61, Try.ntmps61
    go_wp2_with (first
      | ((with_reducible refine gate_dst (N := 2) rfl ?_); refine Hp.at_box H 3 ?hg (N := 2) ?hd (cs := #[.string ⟨#[]⟩, .string ⟨#[]⟩, .bool false]) (t := 33) ?hr ?_; (case hd => rfl); (case hg => rfl); (case hr => first | (go_simp; done) | (go_simp; rfl)); intro g2 w1 H1; clear H)
      | (go_at_call 70; refine (H1.call TA.out 2 rfl rfl (fun lab h => (Asn.rd U8 A0 _ _).mono (h.get (p := 1) rfl) (fun k _ hk => by have h2 : lab k = 0 := hk; omega))).mono ?_; rintro e' w2 ⟨r, rfl, H'⟩; obtain rfl := H'.fact 2 rfl (fun S h => h.1); have H2 := H'.imp 2 (A' := isTk p A0 b a1 e1) rfl (fun S h => h.2); clear H'; clear H1)
      | ((with_reducible refine gate_dst (N := 3) rfl ?_); refine Hp.at_box H2 4 ?hg (N := 3) ?hd (cs := #[.string ⟨#[]⟩, .string ⟨#[]⟩, .bool false]) (t := 33) ?hr ?_; (case hd => rfl); (case hg => rfl); (case hr => first | (go_simp; done) | (go_simp; rfl)); intro g3 w3 H3; clear H2; have x0 := H3.cell 4 rfl 0 (v := .string ⟨#[]⟩) rfl; have x1 := H3.cell 4 rfl 1 (v := .string ⟨#[]⟩) rfl; have x2 := H3.cell 4 rfl 2 (v := .bool false) rfl; have u0 := H3.unfrozen 4 rfl 0; have u1 := H3.unfrozen 4 rfl 1; have u2 := H3.unfrozen 4 rfl 2)
      | ((with_reducible refine gate_store (t := 33) (p := 3) rfl ?_); refine Hp.at_sets H3 4 rfl rfl ?hg (T := 33) (z := 3) (x := ?vo) ?ho ?hn 0 [.string s1, .string ⟨#[]⟩, .bool false] ?hr (cs' := #[.string s1, .string ⟨#[]⟩, .bool false]) ?hc ?_; (case ho => rfl); (case hg => rfl); (case hn => rfl); (case hr => first | (go_simp; done) | (go_simp; rfl)); (case hc => rfl); clear x0 x1 x2 u0 u1 u2; intro w4 H4; clear H3)
      | (go_at_call 69; refine (H4.call TB'.out 2 rfl rfl (fun lab h => (Asn.rd U8 A0 _ _).mono (h.get (p := 1) rfl) (fun k _ hk => by have h2 : lab k = 0 := hk; omega))).mono ?_; rintro e' w5 ⟨r, rfl, H'⟩; obtain rfl := H'.fact 2 rfl (fun S h => h.1); have H5 := H'.imp 2 (A' := isTk p A0 b a2 e2) rfl (fun S h => h.2); clear H'; clear H4; have x2 := H5.cell 4 rfl 2 (v := .bool false) rfl; have u2 := H5.unfrozen 4 rfl 2)
      | (go_at_call 70; refine ((H5.box_set 4 rfl rfl 2 (.bool f1)).call TC'.out 2 rfl rfl (fun lab h => (Asn.rd U8 A0 _ _).mono (h.get (p := 1) rfl) (fun k _ hk => by have h2 : lab k = 0 := hk; omega))).mono ?_; rintro e' w6 ⟨r, rfl, H'⟩; clear x2 u2 H5; obtain rfl := H'.fact 2 rfl (fun S h => h.1); have H6 := H'.imp 2 (A' := isTk p A0 b a3 0) rfl (fun S h => h.2); clear H'; have x1 := H6.cell 4 rfl 1 (v := .string ⟨#[]⟩) rfl; have u1 := H6.unfrozen 4 rfl 1; have H7 := H6.box_set 4 rfl rfl 1 (.string s2); obtain ⟨⟨rb, A, c⟩, H8⟩ := H7.open_ 2 rfl; obtain ⟨hc, hld⟩ := H8.fact 2 rfl (fun S h => h.1); have H9' := (H8.imp 2 (A' := Asn.star (Asn.box p #[.pointer (some ⟨rb, 0, none⟩), .int .i64 0] 97) (Asn.box rb #[.slice A (dr b a3).length c] 95)) rfl (fun S h => h.2)).split 2 2 rfl rfl (by decide); have H9 : Hp w _ [(0, Asn.old w U), (0, Asn.rd U8 A0 b.length b), (1, Asn.box p #[.pointer (some ⟨rb, 0, none⟩), .int .i64 0] 97), (3, Asn.box g2 #[.string ⟨#[]⟩, .string ⟨#[]⟩, .bool false] 33), (4, Asn.box g3 #[.string s1, .string s2, .bool f1] 33), (2, Asn.box rb #[.slice A (dr b a3).length c] 95)] := H9'; clear H6 H7 H8 H9'; have z1 := H9.cell 2 rfl 1 (v := .int .i64 0) rfl; have y0 := H9.cell 4 rfl 0 (v := .string s1) rfl; have y1 := H9.cell 4 rfl 1 (v := .string s2) rfl; have y2 := H9.cell 4 rfl 2 (v := .bool f1) rfl)
      | (go_at_call 12; refine (cressetref03_CheckWrite.calls s1 s2 f1 ew _ CA.out).mono ?_; rintro e' w8 ⟨rfl, hb8⟩; have H10 := H9.same hb8; clear H9 hb8 z1 y0 y1 y2 x1 u1; have z1 := H10.cell 2 rfl 1 (v := .int .i64 0) rfl; have u1 := H10.unfrozen 2 rfl 1; have H11 := H10.box_set 2 rfl rfl 1 (.int .i64 ew); have y0 := H11.cell 4 rfl 0 (v := .string s1) rfl; have y1 := H11.cell 4 rfl 1 (v := .string s2) rfl; have y2 := H11.cell 4 rfl 2 (v := .bool f1) rfl; have k0 := H11.cell 3 rfl 0 (v := .string ⟨#[]⟩) rfl; have k1 := H11.cell 3 rfl 1 (v := .string ⟨#[]⟩) rfl; have k2 := H11.cell 3 rfl 2 (v := .bool false) rfl; have v0 := H11.unfrozen 3 rfl 0; have v1 := H11.unfrozen 3 rfl 1; have v2 := H11.unfrozen 3 rfl 2))
    have H12 := ((H11.box_set 3 rfl rfl 0 (.string s1)).box_set 3 rfl rfl 1 (.string s2)).box_set 3 rfl rfl 2 (.bool f1)
    have c0 := H12.cell 3 rfl 0 (v := .string s1) rfl
    have c1 := H12.cell 3 rfl 1 (v := .string s2) rfl
    have c2 := H12.cell 3 rfl 2 (v := .bool f1) rfl
    refine bodyPost_ret (v := .agg #[.string s1, .string s2, .bool f1]) (by simp [results, Try.f61, go_sem, c0, c1, c2]) rfl ⟨_, rfl, ?_⟩
    exact tk_shut (H12.keep [0, 1, 2, 5]) hc hld
  · rw [if_neg he]
    have q1 : (e3 == 0) = false := beq_eq_false_iff_ne.mpr he
    go_enter Try.func61, Try.ntmps61
    go_wp2_with (first
      | ((with_reducible refine gate_dst (N := 2) rfl ?_); refine Hp.at_box H 3 ?hg (N := 2) ?hd (cs := #[.string ⟨#[]⟩, .string ⟨#[]⟩, .bool false]) (t := 33) ?hr ?_; (case hd => rfl); (case hg => rfl); (case hr => first | (go_simp; done) | (go_simp; rfl)); intro g2 w1 H1; clear H)
      | (go_at_call 70; refine (H1.call TA.out 2 rfl rfl (fun lab h => (Asn.rd U8 A0 _ _).mono (h.get (p := 1) rfl) (fun k _ hk => by have h2 : lab k = 0 := hk; omega))).mono ?_; rintro e' w2 ⟨r, rfl, H'⟩; obtain rfl := H'.fact 2 rfl (fun S h => h.1); have H2 := H'.imp 2 (A' := isTk p A0 b a1 e1) rfl (fun S h => h.2); clear H'; clear H1)
      | ((with_reducible refine gate_dst (N := 3) rfl ?_); refine Hp.at_box H2 4 ?hg (N := 3) ?hd (cs := #[.string ⟨#[]⟩, .string ⟨#[]⟩, .bool false]) (t := 33) ?hr ?_; (case hd => rfl); (case hg => rfl); (case hr => first | (go_simp; done) | (go_simp; rfl)); intro g3 w3 H3; clear H2; have x0 := H3.cell 4 rfl 0 (v := .string ⟨#[]⟩) rfl; have x1 := H3.cell 4 rfl 1 (v := .string ⟨#[]⟩) rfl; have x2 := H3.cell 4 rfl 2 (v := .bool false) rfl; have u0 := H3.unfrozen 4 rfl 0; have u1 := H3.unfrozen 4 rfl 1; have u2 := H3.unfrozen 4 rfl 2)
      | ((with_reducible refine gate_store (t := 33) (p := 3) rfl ?_); refine Hp.at_sets H3 4 rfl rfl ?hg (T := 33) (z := 3) (x := ?vo) ?ho ?hn 0 [.string s1, .string ⟨#[]⟩, .bool false] ?hr (cs' := #[.string s1, .string ⟨#[]⟩, .bool false]) ?hc ?_; (case ho => rfl); (case hg => rfl); (case hn => rfl); (case hr => first | (go_simp; done) | (go_simp; rfl)); (case hc => rfl); clear x0 x1 x2 u0 u1 u2; intro w4 H4; clear H3)
      | (go_at_call 69; refine (H4.call TB'.out 2 rfl rfl (fun lab h => (Asn.rd U8 A0 _ _).mono (h.get (p := 1) rfl) (fun k _ hk => by have h2 : lab k = 0 := hk; omega))).mono ?_; rintro e' w5 ⟨r, rfl, H'⟩; obtain rfl := H'.fact 2 rfl (fun S h => h.1); have H5 := H'.imp 2 (A' := isTk p A0 b a2 e2) rfl (fun S h => h.2); clear H'; clear H4; have x2 := H5.cell 4 rfl 2 (v := .bool false) rfl; have u2 := H5.unfrozen 4 rfl 2)
      | (go_at_call 70; refine ((H5.box_set 4 rfl rfl 2 (.bool f1)).call TC'.out 2 rfl rfl (fun lab h => (Asn.rd U8 A0 _ _).mono (h.get (p := 1) rfl) (fun k _ hk => by have h2 : lab k = 0 := hk; omega))).mono ?_; rintro e' w6 ⟨r, rfl, H'⟩; clear x2 u2 H5; obtain rfl := H'.fact 2 rfl (fun S h => h.1); have H6 := H'.imp 2 (A' := isTk p A0 b a3 e3) rfl (fun S h => h.2); clear H'; have x1 := H6.cell 4 rfl 1 (v := .string ⟨#[]⟩) rfl; have u1 := H6.unfrozen 4 rfl 1; have H7 := H6.box_set 4 rfl rfl 1 (.string s2); obtain ⟨⟨rb, A, c⟩, H8⟩ := H7.open_ 2 rfl; obtain ⟨hc, hld⟩ := H8.fact 2 rfl (fun S h => h.1); have H9' := (H8.imp 2 (A' := Asn.star (Asn.box p #[.pointer (some ⟨rb, 0, none⟩), .int .i64 e3] 97) (Asn.box rb #[.slice A (dr b a3).length c] 95)) rfl (fun S h => h.2)).split 2 2 rfl rfl (by decide); have H9 : Hp w _ [(0, Asn.old w U), (0, Asn.rd U8 A0 b.length b), (1, Asn.box p #[.pointer (some ⟨rb, 0, none⟩), .int .i64 e3] 97), (3, Asn.box g2 #[.string ⟨#[]⟩, .string ⟨#[]⟩, .bool false] 33), (4, Asn.box g3 #[.string s1, .string s2, .bool f1] 33), (2, Asn.box rb #[.slice A (dr b a3).length c] 95)] := H9'; clear H6 H7 H8 H9'; have z1 := H9.cell 2 rfl 1 (v := .int .i64 e3) rfl; have y0 := H9.cell 4 rfl 0 (v := .string s1) rfl; have y1 := H9.cell 4 rfl 1 (v := .string s2) rfl; have y2 := H9.cell 4 rfl 2 (v := .bool f1) rfl; have k0 := H9.cell 3 rfl 0 (v := .string ⟨#[]⟩) rfl; have k1 := H9.cell 3 rfl 1 (v := .string ⟨#[]⟩) rfl; have k2 := H9.cell 3 rfl 2 (v := .bool false) rfl; have v0 := H9.unfrozen 3 rfl 0; have v1 := H9.unfrozen 3 rfl 1; have v2 := H9.unfrozen 3 rfl 2))
    have H12 := ((H9.box_set 3 rfl rfl 0 (.string s1)).box_set 3 rfl rfl 1 (.string s2)).box_set 3 rfl rfl 2 (.bool f1)
    have c0 := H12.cell 3 rfl 0 (v := .string s1) rfl
    have c1 := H12.cell 3 rfl 1 (v := .string s2) rfl
    have c2 := H12.cell 3 rfl 2 (v := .bool f1) rfl
    refine bodyPost_ret (v := .agg #[.string s1, .string s2, .bool f1]) (by simp [results, Try.f61, go_sem, c0, c1, c2]) rfl ⟨_, rfl, ?_⟩
    exact tk_shut (H12.keep [0, 1, 2, 5]) hc hld
end
theorem ends_tr {b : List Int} {p : Nat} {A0 : Option Addr} {a : Int} (ha : In b a) (e : Int) : Tr Try.prog 62 #[.pointer (some ⟨p, 0, none⟩)] (Asn.rd U8 A0 b.length b) (isTk p A0 b a e) (fun r => Asn.and (Asn.lift (r = .int .i64 (endE b a e 0))) (isTk p A0 b a (endE b a e 0))) := by
  refine Tr.intro fun w U H0 => ?_
  obtain ⟨rb, A, c, hc, hld, H⟩ := tk_open H0
  clear H0
  have z0 := H.cell 2 rfl 0 (v := .pointer (some ⟨rb, 0, none⟩)) rfl
  have z1 := H.cell 2 rfl 1 (v := .int .i64 e) rfl
  have y0 := H.cell 3 rfl 0 (v := .slice A (dr b a).length c) rfl
  have u1 := H.unfrozen 2 rfl 1
  have hlen := dr_len ha
  unfold endE
  by_cases he : e = 0
  · subst he
    rw [if_pos rfl]
    by_cases hlt : a < (b.length : Int)
    · rw [if_pos hlt]
      have g1 : decide ((0 : Int) < ((dr b a).length : Int)) = true := decide_eq_true (by omega)
      have g2 : decide (0 < (dr b a).length) = true := decide_eq_true (by omega)
      have H1 := H.box_set 2 rfl rfl 1 (.int .i64 13)
      have z2 := H1.cell 2 rfl 1 (v := .int .i64 13) rfl
      clear hlt hlen
      go_enter Try.func62, Try.ntmps62
      go_wp2
      go_ret
      exact ⟨_, rfl, tk_shut (H1.keep [0, 1, 2, 3]) hc hld⟩
    · rw [if_neg hlt]
      have g1 : decide ((0 : Int) < ((dr b a).length : Int)) = false := decide_eq_false (by omega)
      have g2 : decide (0 < (dr b a).length) = false := decide_eq_false (by omega)
      clear hlt hlen
      go_enter Try.func62, Try.ntmps62
      go_wp2
      go_ret
      exact ⟨_, rfl, tk_shut (H.keep [0, 1, 2, 3]) hc hld⟩
  · rw [if_neg he]
    have q1 : (e == 0) = false := beq_eq_false_iff_ne.mpr he
    go_enter Try.func62, Try.ntmps62
    go_wp2
    go_ret
    exact ⟨_, rfl, tk_shut (H.keep [0, 1, 2, 3]) hc hld⟩
end Go.Proofs.Ytkcdmoghnoodmaa.Tk

set_option linter.unusedVariables false
set_option linter.unusedSimpArgs false
namespace Go.Proofs.Ytkcdmoghnoodmaa.Tk
open Go.RowKit Go.Proofs.Ytkcdmoghnoodmaa.B Go.Proofs.YtkcdmoghnoodmaaW.PrintWords Go.Proofs.YtkcdmoghnoodmaaW.PrintLast Go.Proofs.YtkcdmoghnoodmaaW.PrintMore Go.Proofs.YtkcdmoghnoodmaaW.Mine Go.Proofs.YtkcdmoghnoodmaaW.Hp
open Go.Proofs.Ytkcdmoghnoodmaa.Lib Go.Proofs.Ytkcdmoghnoodmaa.Cod Go.Proofs.Ytkcdmoghnoodmaa.Rd Go.Proofs.Ytkcdmoghnoodmaa.Wr

theorem RM_range {b : List Int} {a e most : Int} (hm : 0 ≤ most) : 0 ≤ (RM b a e most).1 ∧ (RM b a e most).1 ≤ most := by
  unfold RM
  (repeat' split) <;> dsimp only <;> omega
theorem endE_two (b : List Int) (a e c : Int) : endE b a e c = if endE b a e 0 = 0 then c else endE b a e 0 := by
  unfold endE
  by_cases h : e = 0
  · rw [if_pos h, if_pos h]
    by_cases h2 : a < (b.length : Int)
    · rw [if_pos h2, if_pos h2, if_neg (by decide)]
    · rw [if_neg h2, if_neg h2, if_pos rfl]
  · rw [if_neg h, if_neg h, if_neg h]
theorem In0 (b : List Int) : In b 0 := ⟨Int.le_refl _, by omega⟩
theorem relabel {w0 w : World} {X A : Asn} (H : Hp w0 w [(0, X), (5, A)]) : Hp w0 w [(0, X), (1, A)] :=
  (((H.free 1 (A := Asn.top) trivial).join 2 1 rfl rfl (by decide) rfl rfl).imp 2 (A' := A) rfl (fun S ⟨_, _, _, hs, _, hB⟩ => A.mono hB (fun k hk h => hs k (.inr h) hk))).keep [0, 2]
theorem leads_refl (A0 : Option Addr) (b : List Int) : Leads A0 b A0 (dr b 0) := fun _ _ h => h
section
variable {b : List Int} (hb : Bytes b) (hl : b.length ≤ 140737488351232)
include hb hl
set_option maxHeartbeats 16000000 in
set_option maxRecDepth 100000 in
theorem takeC_tr (A0 : Option Addr) (c0 : Nat) (hc : b.length ≤ c0) : Tr Try.prog 32 #[.slice A0 b.length c0] (Asn.rd U8 A0 b.length b) Asn.top (fun r => Asn.ex fun v : Value => Asn.and (Asn.lift (r = .tuple #[.agg #[.int .i64 (TC b).1, v], .int .i64 (TC b).2.2])) (Asn.row k33 33 v (TC b).2.1)) := by
  refine Tr.intro fun w U H0 => ?_
  have H : Hp w w [(0, Asn.old w U), (0, Asn.rd U8 A0 b.length b)] := H0.keep [0, 1]
  clear H0
  have i1 := RN_in (e := 0) hb (In0 b)
  have i2 := RM_in (e := (RN b 0 0).2.2) (most := 64) hb i1
  have hr := RM_range (b := b) (a := (RN b 0 0).2.1) (e := (RN b 0 0).2.2) (most := 64) (by decide)
  have T1 := fun p => num_tr hb hl (p := p) (A0 := A0) (In0 b) 0
  have T2 := fun p => count_tr hb hl (p := p) (A0 := A0) i1 (RN b 0 0).2.2 64 (by decide)
  have hT : TC b = TC b := rfl
  conv at hT => rhs; unfold TC; dsimp only
  obtain ⟨⟨ts, a1, e1⟩, h1⟩ : ∃ q, RN b 0 0 = q := ⟨_, rfl⟩
  rw [h1] at T1 T2 i2 hr hT
  dsimp only at T1 T2 i2 hr hT
  obtain ⟨⟨n, a2, e2⟩, h2⟩ : ∃ q, RM b a1 e1 64 = q := ⟨_, rfl⟩
  rw [h2] at T2 i2 hr hT
  dsimp only at T2 i2 hr hT
  obtain ⟨⟨lw, a3, e3⟩, h3⟩ : ∃ q, WS b n.toNat a2 e2 [] = q := ⟨_, rfl⟩
  rw [h3] at hT
  dsimp only at hT
  have HTC := Aside0.mk hT
  clear hT
  have TA := Aside0.mk T1
  have TB' := Aside0.mk T2
  have HI := Aside0.mk i2
  have HW := Aside0.mk h3
  clear T1 T2 h1 h2 i1 i2 h3
  obtain ⟨n, rfl⟩ := Int.eq_ofNat_of_zero_le hr.1
  rw [Int.toNat_natCast] at HW
  have hn64 : n ≤ 64 := by omega
  clear hr
  go_enter Try.func32, Try.ntmps32
  go_wp2_with (first
    | ((with_reducible refine gate_dst (N := 2) rfl ?_); refine Hp.at_box H 3 ?hg (N := 2) ?hd (cs := #[.int .i64 0, .slice none 0 0]) (t := 24) ?hr ?_; (case hd => rfl); (case hg => rfl); (case hr => first | (go_simp; done) | (go_simp; rfl)); intro g2 w1 H1; clear H)
    | ((with_reducible refine gate_dst (N := 11) rfl ?_); refine Hp.at_box H1 2 ?hg (N := 11) ?hd (cs := #[.slice A0 b.length c0]) (t := 95) ?hr ?_; (case hd => rfl); (case hg => rfl); (case hr => first | (go_simp; done) | (go_simp; rfl)); intro rb w2 H2; clear H1)
    | ((with_reducible refine gate_dst (N := 13) rfl ?_); refine Hp.at_box H2 1 ?hg (N := 13) ?hd (cs := #[.pointer (some ⟨rb, 0, none⟩), .int .i64 0]) (t := 97) ?hr ?_; (case hd => rfl); (case hg => rfl); (case hr => first | (go_simp; done) | (go_simp; rfl)); intro p w3 H3'; have H3 : Hp w w3 [(0, Asn.old w U), (0, Asn.rd U8 A0 b.length b), (1, isTk p A0 b 0 0), (3, Asn.box g2 #[.int .i64 0, .slice none 0 0] 24)] := (((H3'.join 4 3 rfl rfl (by decide) rfl rfl).imp 4 (A' := isTk p A0 b 0 0) rfl (fun S h => ⟨(rb, A0, c0), ⟨hc, leads_refl A0 b⟩, h⟩)).keep [0, 1, 4, 2]); clear H2 H3')
    | (go_at_call 59; refine (H3.call (TA.out p) 2 rfl rfl (fun lab h => (Asn.rd U8 A0 _ _).mono (h.get (p := 1) rfl) (fun k _ hk => by have h2 : lab k = 0 := hk; omega))).mono ?_; rintro e' w4 ⟨r, rfl, H'⟩; obtain rfl := H'.fact 2 rfl (fun S h => h.1); have H4 := H'.imp 2 (A' := isTk p A0 b a1 e1) rfl (fun S h => h.2); clear H' H3)
    | ((with_reducible refine gate_dst (N := 5) rfl ?_); refine Hp.at_box H4 4 ?hg (N := 5) ?hd (cs := #[.int .i64 0, .slice none 0 0]) (t := 24) ?hr ?_; (case hd => rfl); (case hg => rfl); (case hr => first | (go_simp; done) | (go_simp; rfl)); intro g5 w5 H5; clear H4; have x0 := H5.cell 4 rfl 0 (v := .int .i64 0) rfl; have x1 := H5.cell 4 rfl 1 (v := .slice none 0 0) rfl; have u0 := H5.unfrozen 4 rfl 0; have u1 := H5.unfrozen 4 rfl 1)
    | (go_at_call 60; refine (((H5.box_set 4 rfl rfl 0 (.int .i64 ts)).box_set 4 rfl rfl 1 (.slice none 0 0)).call (TB'.out p) 2 rfl rfl (fun lab h => (Asn.rd U8 A0 _ _).mono (h.get (p := 1) rfl) (fun k _ hk => by have h2 : lab k = 0 := hk; omega))).mono ?_; rintro e' w6 ⟨r, rfl, H'⟩; clear x0 x1 u0 u1 H5; obtain rfl := H'.fact 2 rfl (fun S h => h.1); have H6 := (H'.imp 2 (A' := isTk p A0 b a2 e2) rfl (fun S h => h.2)).free 5 (A := Asn.row k33 33 (.slice none 0 0) []) (Kd.R_nil _ _ _ _ _); clear H'))
  go_loopw [7] (fun q wr => ∃ (m : Nat) (a e : Int) (l : List S33) (v : Value), q = .int .i64 m ∧ m ≤ n ∧ l.length = m ∧ Aside0 (WS b (n - m) a e l = (lw, a3, e3)) ∧ Aside0 (In b a) ∧ Aside0 (Hp w wr [(0, Asn.old w U), (0, Asn.rd U8 A0 b.length b), (1, isTk p A0 b a e), (3, Asn.box g2 #[.int .i64 0, .slice none 0 0] 24), (4, Asn.box g5 #[.int .i64 ts, v] 24), (5, Asn.row k33 33 v l)])) (fun q _ => n - (intOf q).toNat)
  case atStart => exact ⟨0, a2, e2, [], .slice none 0 0, rfl, Nat.zero_le _, rfl, ⟨HW.out⟩, ⟨HI.out⟩, ⟨H6⟩⟩
  case round =>
    clear H6 HW HI
    obtain ⟨m, a, e, l, v, rfl, hm, hlm, HS, HA, HO⟩ := hrel
    by_cases hlt : m < n
    · have hltz : (m : Int) < (n : Int) := by omega
      have hd1 : decide ((m : Int) < (n : Int)) = true := decide_eq_true hltz
      have hd2 : decide (m < n) = true := decide_eq_true hlt
      obtain ⟨Av, cv, rfl⟩ := HO.out.fact 5 rfl (fun S h => Kd.R_slice h)
      have TW := Aside0.mk (write_tr hb hl (p := p) (A0 := A0) HA.out e)
      have HN := Aside0.mk (RW_in (e := e) hb HA.out)
      have HS2 : Aside0 (WS b (n - (m + 1)) (RW b a e).2.1 (RW b a e).2.2 (l ++ [(RW b a e).1]) = (lw, a3, e3)) := ⟨by
        have h := HS.out
        rw [show n - m = (n - (m + 1)) + 1 by omega] at h
        exact h⟩
      obtain ⟨⟨x, a', e'⟩, hx⟩ : ∃ q, RW b a e = q := ⟨_, rfl⟩
      rw [hx] at TW HN HS2
      clear hx HS HA
      dsimp only at TW HN HS2
      have HD := HO.out.drew
      rw [hlm] at HD
      have s0 := HD.cell 4 rfl 1 (v := .slice Av m cv) rfl
      have HLM := Aside0.mk hlm
      clear HO hlm
      go_wp2
      go_region_law (first
        | (refine goes_ Try.func61 (by kernel_rfl) rfl #[.pointer (some ⟨p, 0, none⟩)] (by rfl) rfl rfl (by (try simp only [List.map_toArray, List.map_cons, List.map_nil]); first | done | rfl) ?_; refine (HD.call TW.out 2 rfl rfl (fun lab h => (Asn.rd U8 A0 _ _).mono (h.get (p := 1) rfl) (fun k _ hk => by have h2 : lab k = 0 := hk; omega))).mono ?_; rintro e9 w9 ⟨r, rfl, H'⟩; obtain rfl := H'.fact 2 rfl (fun S h => h.1); have H9 := H'.imp 2 (A' := isTk p A0 b a' e') rfl (fun S h => h.2); clear H'; have s1 := H9.cell 4 rfl 1 (v := .slice Av m cv) rfl; have s2 := (H9.box_new 9 #[.string x.f0, .string x.f1, .bool x.f2] 33).cell 4 rfl 1 (v := .slice Av m cv) rfl; refine ⟨_, rfl, ?_⟩)
        | (refine Hp.step_append k33 H9 5 ?hw (.tmp 25) (.tmp 28) 22 33 (.agg #[.string ⟨#[]⟩, .string ⟨#[]⟩, .bool false]) 40 rfl Try.underlying22 info33 rfl (by decide) (by omega) (.slice Av m cv) l rfl rfl x [.string x.f0, .string x.f1, .bool x.f2] ?hs ?hx (fun _ => k33_mkM _ _ _ _) (by have := HLM.out; omega) ?_; (case hw => rfl); (case hs => rfl); (case hx => rfl); intro v5 w5 H11; obtain ⟨A5, c5, hv5⟩ := H11.fact 5 rfl (fun S h => Kd.R_slice h); rw [show (l ++ [x]).length = m + 1 by have := HLM.out; simp; omega] at hv5; subst hv5; have t5 := H11.cell 4 rfl 1 (v := .slice Av m cv) rfl; have t6 := H11.unfrozen 4 rfl 1))
      all_goals
        have H12' := H11.box_set 4 rfl rfl 1 (.slice A5 (m + 1) c5)
        have H12 : Hp w (w5.setCell ⟨g5, 1, none⟩ (.slice A5 (m + 1) c5)) [(0, Asn.old w U), (0, Asn.rd U8 A0 b.length b), (1, isTk p A0 b a' e'), (3, Asn.box g2 #[.int .i64 0, .slice none 0 0] 24), (4, Asn.box g5 #[.int .i64 ts, .slice A5 (m + 1) c5] 24), (5, Asn.row k33 33 (.slice A5 (m + 1) c5) (l ++ [x]))] := H12'
        clear H12' H11 t5 t6 s0 s1 s2 H9 HD
        go_wp2
        go_roundw
        case rel => exact ⟨m + 1, a', e', l ++ [x], .slice A5 (m + 1) c5, by go_num, by omega, by have := HLM.out; simp; omega, HS2, HN, ⟨H12⟩⟩
        case measure => simp [intOf]; omega
    · have hle : m = n := by omega
      subst hle
      have hltz : ¬ (m : Int) < (m : Int) := by omega
      have hws := HS.out
      rw [Nat.sub_self] at hws
      have q1 : l = lw := congrArg (fun q => q.1) hws
      have q2 : a = a3 := congrArg (fun q => q.2.1) hws
      have q3 : e = e3 := congrArg (fun q => q.2.2) hws
      have H8 := HO.out
      have ha3 := HA.out
      obtain ⟨Av, cv, rfl⟩ := H8.fact 5 rfl (fun S h => Kd.R_slice h)
      rw [q1, q2, q3] at H8
      rw [q2] at ha3
      have HEN := Aside0.mk (ends_tr (p := p) (A0 := A0) ha3 e3)
      clear HO HS hws q1 q2 q3 HA ha3 hlm
      have HE2 := Aside0.mk (endE_two b a3 e3 (commitE ts lw))
      obtain ⟨f, hfe⟩ : ∃ f, endE b a3 e3 0 = f := ⟨_, rfl⟩
      rw [hfe] at HEN HE2
      clear hfe
      by_cases hf : f = 0
      · subst hf
        have HE3 : Aside0 (endE b a3 e3 (commitE ts lw) = commitE ts lw) := ⟨by have := HE2.out; rwa [if_pos rfl] at this⟩
        obtain ⟨kc, hkc⟩ := (checkCommitR_ev ts lw).rounds
        obtain ⟨g, hge⟩ : ∃ g, commitE ts lw = g := ⟨_, rfl⟩
        rw [hge] at hkc
        have HGE := Aside0.mk hge
        clear HE2 hge
        have HKC := Aside0.mk hkc
        clear hkc
        by_cases hg : g = 0
        · subst hg
          have HQ : Aside0 (TC b = (ts, lw, 0)) := ⟨by rw [HTC.out, HE3.out.trans HGE.out, if_pos rfl]⟩
          go_wp2_with (first
            | (go_at_call 62; refine (H8.call HEN.out 2 rfl rfl (fun lab h => (Asn.rd U8 A0 _ _).mono (h.get (p := 1) rfl) (fun k _ hk => by have h2 : lab k = 0 := hk; omega))).mono ?_; rintro e9 w9 ⟨r, rfl, H'⟩; obtain rfl := H'.fact 2 rfl (fun S h => h.1); have H9 : Hp w w9 [(0, Asn.old w U), (3, Asn.box g2 #[.int .i64 0, .slice none 0 0] 24), (4, Asn.box g5 #[.int .i64 ts, .slice Av lw.length cv] 24), (5, Asn.row k33 33 (.slice Av lw.length cv) lw)] := H'.keep [0, 3, 4, 5]; clear H' H8; have y0 := H9.cell 2 rfl 0 (v := .int .i64 ts) rfl; have y1 := H9.cell 2 rfl 1 (v := .slice Av lw.length cv) rfl; have k0 := H9.cell 1 rfl 0 (v := .int .i64 0) rfl; have k1 := H9.cell 1 rfl 1 (v := .slice none 0 0) rfl; have v0 := H9.unfrozen 1 rfl 0; have v1 := H9.unfrozen 1 rfl 1)
            | (go_at_call 19; refine (cressetref03_CheckCommit.calls kc ts Av cv lw 0 _ (H9.row_C 3 rfl).2.2 (H9.row_C 3 rfl).2.1 HKC.out).mono ?_; rintro e10 w10 ⟨rfl, hb10⟩; have H10 := H9.same hb10; clear H9 hb10 y0 y1 k0 k1 v0 v1; have y0 := H10.cell 2 rfl 0 (v := .int .i64 ts) rfl; have y1 := H10.cell 2 rfl 1 (v := .slice Av lw.length cv) rfl; have k0 := H10.cell 1 rfl 0 (v := .int .i64 0) rfl; have k1 := H10.cell 1 rfl 1 (v := .slice none 0 0) rfl; have v0 := H10.unfrozen 1 rfl 0; have v1 := H10.unfrozen 1 rfl 1))
          have HZ := (H10.box_set 1 rfl rfl 0 (.int .i64 ts)).box_set 1 rfl rfl 1 (.slice Av lw.length cv)
          have c0 := HZ.cell 1 rfl 0 (v := .int .i64 ts) rfl
          have c1 := HZ.cell 1 rfl 1 (v := .slice Av lw.length cv) rfl
          refine bodyPost_ret (v := .tuple #[.agg #[.int .i64 ts, .slice Av lw.length cv], .int .i64 0]) (by simp [results, Try.f32, go_sem, c0, c1]) rfl ⟨_, rfl, ?_⟩
          rw [HQ.out]
          exact (relabel (HZ.keep [0, 3])).imp 1 (A' := Asn.ex fun v : Value => Asn.and (Asn.lift (Value.tuple #[.agg #[.int .i64 ts, .slice Av lw.length cv], .int .i64 0] = Value.tuple #[.agg #[.int .i64 ts, v], .int .i64 0])) (Asn.row k33 33 v lw)) rfl (fun S h => ⟨.slice Av lw.length cv, rfl, h⟩)
        · have HQ : Aside0 (TC b = (0, [], g)) := ⟨by rw [HTC.out, HE3.out.trans HGE.out, if_neg hg]⟩
          have g1 : (g == 0) = false := beq_eq_false_iff_ne.mpr hg
          have g2' : (g != 0) = true := bne_iff_ne.mpr hg
          go_wp2_with (first
            | (go_at_call 62; refine (H8.call HEN.out 2 rfl rfl (fun lab h => (Asn.rd U8 A0 _ _).mono (h.get (p := 1) rfl) (fun k _ hk => by have h2 : lab k = 0 := hk; omega))).mono ?_; rintro e9 w9 ⟨r, rfl, H'⟩; obtain rfl := H'.fact 2 rfl (fun S h => h.1); have H9 : Hp w w9 [(0, Asn.old w U), (3, Asn.box g2 #[.int .i64 0, .slice none 0 0] 24), (4, Asn.box g5 #[.int .i64 ts, .slice Av lw.length cv] 24), (5, Asn.row k33 33 (.slice Av lw.length cv) lw)] := H'.keep [0, 3, 4, 5]; clear H' H8; have y0 := H9.cell 2 rfl 0 (v := .int .i64 ts) rfl; have y1 := H9.cell 2 rfl 1 (v := .slice Av lw.length cv) rfl; have k0 := H9.cell 1 rfl 0 (v := .int .i64 0) rfl; have k1 := H9.cell 1 rfl 1 (v := .slice none 0 0) rfl; have v0 := H9.unfrozen 1 rfl 0; have v1 := H9.unfrozen 1 rfl 1)
            | (go_at_call 19; refine (cressetref03_CheckCommit.calls kc ts Av cv lw g _ (H9.row_C 3 rfl).2.2 (H9.row_C 3 rfl).2.1 HKC.out).mono ?_; rintro e10 w10 ⟨rfl, hb10⟩; have H10 := H9.same hb10; clear H9 hb10 y0 y1 k0 k1 v0 v1; have y0 := H10.cell 2 rfl 0 (v := .int .i64 ts) rfl; have y1 := H10.cell 2 rfl 1 (v := .slice Av lw.length cv) rfl; have k0 := H10.cell 1 rfl 0 (v := .int .i64 0) rfl; have k1 := H10.cell 1 rfl 1 (v := .slice none 0 0) rfl; have v0 := H10.unfrozen 1 rfl 0; have v1 := H10.unfrozen 1 rfl 1))
          have HZ := (H10.box_set 1 rfl rfl 0 (.int .i64 0)).box_set 1 rfl rfl 1 (.slice none 0 0)
          have c0 := HZ.cell 1 rfl 0 (v := .int .i64 0) rfl
          have c1 := HZ.cell 1 rfl 1 (v := .slice none 0 0) rfl
          refine bodyPost_ret (v := .tuple #[.agg #[.int .i64 0, .slice none 0 0], .int .i64 g]) (by simp [results, Try.f32, go_sem, c0, c1]) rfl ⟨_, rfl, ?_⟩
          rw [HQ.out]
          exact ((HZ.keep [0]).free 1 (A := Asn.row k33 33 (.slice none 0 0) []) (Kd.R_nil _ _ _ _ _)).imp 1 (A' := Asn.ex fun v : Value => Asn.and (Asn.lift (Value.tuple #[.agg #[.int .i64 0, .slice none 0 0], .int .i64 g] = Value.tuple #[.agg #[.int .i64 0, v], .int .i64 g])) (Asn.row k33 33 v [])) rfl (fun S h => ⟨.slice none 0 0, rfl, h⟩)
      · have HQ : Aside0 (TC b = (0, [], f)) := ⟨by have := HE2.out; rw [if_neg hf] at this; rw [HTC.out, this, if_neg hf]⟩
        have g1 : (f == 0) = false := beq_eq_false_iff_ne.mpr hf
        have g2' : (f != 0) = true := bne_iff_ne.mpr hf
        go_wp2_with (first
          | (go_at_call 62; refine (H8.call HEN.out 2 rfl rfl (fun lab h => (Asn.rd U8 A0 _ _).mono (h.get (p := 1) rfl) (fun k _ hk => by have h2 : lab k = 0 := hk; omega))).mono ?_; rintro e9 w9 ⟨r, rfl, H'⟩; obtain rfl := H'.fact 2 rfl (fun S h => h.1); have H9 : Hp w w9 [(0, Asn.old w U), (3, Asn.box g2 #[.int .i64 0, .slice none 0 0] 24), (4, Asn.box g5 #[.int .i64 ts, .slice Av lw.length cv] 24), (5, Asn.row k33 33 (.slice Av lw.length cv) lw)] := H'.keep [0, 3, 4, 5]; clear H' H8; have y0 := H9.cell 2 rfl 0 (v := .int .i64 ts) rfl; have y1 := H9.cell 2 rfl 1 (v := .slice Av lw.length cv) rfl; have k0 := H9.cell 1 rfl 0 (v := .int .i64 0) rfl; have k1 := H9.cell 1 rfl 1 (v := .slice none 0 0) rfl; have v0 := H9.unfrozen 1 rfl 0; have v1 := H9.unfrozen 1 rfl 1))
        have HZ := (H9.box_set 1 rfl rfl 0 (.int .i64 0)).box_set 1 rfl rfl 1 (.slice none 0 0)
        have c0 := HZ.cell 1 rfl 0 (v := .int .i64 0) rfl
        have c1 := HZ.cell 1 rfl 1 (v := .slice none 0 0) rfl
        refine bodyPost_ret (v := .tuple #[.agg #[.int .i64 0, .slice none 0 0], .int .i64 f]) (by simp [results, Try.f32, go_sem, c0, c1]) rfl ⟨_, rfl, ?_⟩
        rw [HQ.out]
        exact ((HZ.keep [0]).free 1 (A := Asn.row k33 33 (.slice none 0 0) []) (Kd.R_nil _ _ _ _ _)).imp 1 (A' := Asn.ex fun v : Value => Asn.and (Asn.lift (Value.tuple #[.agg #[.int .i64 0, .slice none 0 0], .int .i64 f] = Value.tuple #[.agg #[.int .i64 0, v], .int .i64 f])) (Asn.row k33 33 v [])) rfl (fun S h => ⟨.slice none 0 0, rfl, h⟩)
end
end Go.Proofs.Ytkcdmoghnoodmaa.Tk

set_option linter.unusedVariables false
set_option linter.unusedSimpArgs false
namespace Go.Proofs.Ytkcdmoghnoodmaa.Tk
open Go.RowKit Go.Proofs.Ytkcdmoghnoodmaa.B Go.Proofs.YtkcdmoghnoodmaaW.PrintWords Go.Proofs.YtkcdmoghnoodmaaW.PrintLast Go.Proofs.YtkcdmoghnoodmaaW.PrintMore Go.Proofs.YtkcdmoghnoodmaaW.Mine Go.Proofs.YtkcdmoghnoodmaaW.Hp
open Go.Proofs.Ytkcdmoghnoodmaa.Lib Go.Proofs.Ytkcdmoghnoodmaa.Cod Go.Proofs.Ytkcdmoghnoodmaa.Rd Go.Proofs.Ytkcdmoghnoodmaa.Wr

section
variable {b : List Int} (hb : Bytes b) (hl : b.length ≤ 140737488351232)
include hb hl
set_option maxHeartbeats 16000000 in
set_option maxRecDepth 100000 in
theorem takeK_tr (A0 : Option Addr) (c0 : Nat) (hc : b.length ≤ c0) : Tr Try.prog 39 #[.slice A0 b.length c0] (Asn.rd U8 A0 b.length b) Asn.top (fun r => Asn.ex fun v : Value => Asn.and (Asn.lift (r = .tuple #[.agg #[.int .i64 (TK b).1, v, .bool (TK b).2.2.1], .int .i64 (TK b).2.2.2])) (Asn.row k74 74 v (TK b).2.1)) := by
  refine Tr.intro fun w U H0 => ?_
  have H : Hp w w [(0, Asn.old w U), (0, Asn.rd U8 A0 b.length b)] := H0.keep [0, 1]
  clear H0
  have i1 := RN_in (e := 0) hb (In0 b)
  have i2 := RF_in (e := (RN b 0 0).2.2) hb i1
  have i3 := RM_in (e := (RF b (RN b 0 0).2.1 (RN b 0 0).2.2).2.2) (most := 16) hb i2
  have hr := RM_range (b := b) (a := (RF b (RN b 0 0).2.1 (RN b 0 0).2.2).2.1) (e := (RF b (RN b 0 0).2.1 (RN b 0 0).2.2).2.2) (most := 16) (by decide)
  have T1 := fun p => num_tr hb hl (p := p) (A0 := A0) (In0 b) 0
  have T2 := fun p => flag_tr hb hl (p := p) (A0 := A0) i1 (RN b 0 0).2.2
  have T3 := fun p => count_tr hb hl (p := p) (A0 := A0) i2 (RF b (RN b 0 0).2.1 (RN b 0 0).2.2).2.2 16 (by decide)
  have hT : TK b = TK b := rfl
  conv at hT => rhs; unfold TK; dsimp only
  obtain ⟨⟨nm, a1, e1⟩, h1⟩ : ∃ q, RN b 0 0 = q := ⟨_, rfl⟩
  rw [h1] at T1 T2 T3 i2 i3 hr hT
  dsimp only at T1 T2 T3 i2 i3 hr hT
  obtain ⟨⟨fl, a2, e2⟩, h2⟩ : ∃ q, RF b a1 e1 = q := ⟨_, rfl⟩
  rw [h2] at T2 T3 i3 hr hT
  dsimp only at T2 T3 i3 hr hT
  obtain ⟨⟨n, a3, e3⟩, h3⟩ : ∃ q, RM b a2 e2 16 = q := ⟨_, rfl⟩
  rw [h3] at T3 i3 hr hT
  dsimp only at T3 i3 hr hT
  obtain ⟨⟨lw, a4, e4⟩, h4⟩ : ∃ q, PS b n.toNat a3 e3 [] = q := ⟨_, rfl⟩
  rw [h4] at hT
  dsimp only at hT
  have HTC := Aside0.mk hT
  have TA := Aside0.mk T1
  have TB' := Aside0.mk T2
  have TD := Aside0.mk T3
  have HI := Aside0.mk i3
  have HW := Aside0.mk h4
  clear hT T1 T2 T3 h1 h2 h3 i1 i2 i3 h4
  obtain ⟨n, rfl⟩ := Int.eq_ofNat_of_zero_le hr.1
  rw [Int.toNat_natCast] at HW
  have hn16 : n ≤ 16 := by omega
  clear hr
  go_enter Try.func39, Try.ntmps39
  go_wp2_with (first
    | ((with_reducible refine gate_dst (N := 2) rfl ?_); refine Hp.at_box H 3 ?hg (N := 2) ?hd (cs := #[.int .i64 0, .slice none 0 0, .bool false]) (t := 27) ?hr ?_; (case hd => rfl); (case hg => rfl); (case hr => first | (go_simp; done) | (go_simp; rfl)); intro g2 w1 H1; clear H)
    | ((with_reducible refine gate_dst (N := 12) rfl ?_); refine Hp.at_box H1 2 ?hg (N := 12) ?hd (cs := #[.slice A0 b.length c0]) (t := 95) ?hr ?_; (case hd => rfl); (case hg => rfl); (case hr => first | (go_simp; done) | (go_simp; rfl)); intro rb w2 H2; clear H1)
    | ((with_reducible refine gate_dst (N := 14) rfl ?_); refine Hp.at_box H2 1 ?hg (N := 14) ?hd (cs := #[.pointer (some ⟨rb, 0, none⟩), .int .i64 0]) (t := 97) ?hr ?_; (case hd => rfl); (case hg => rfl); (case hr => first | (go_simp; done) | (go_simp; rfl)); intro p w3 H3'; have H3 : Hp w w3 [(0, Asn.old w U), (0, Asn.rd U8 A0 b.length b), (1, isTk p A0 b 0 0), (3, Asn.box g2 #[.int .i64 0, .slice none 0 0, .bool false] 27)] := (((H3'.join 4 3 rfl rfl (by decide) rfl rfl).imp 4 (A' := isTk p A0 b 0 0) rfl (fun S h => ⟨(rb, A0, c0), ⟨hc, leads_refl A0 b⟩, h⟩)).keep [0, 1, 4, 2]); clear H2 H3')
    | (go_at_call 59; refine (H3.call (TA.out p) 2 rfl rfl (fun lab h => (Asn.rd U8 A0 _ _).mono (h.get (p := 1) rfl) (fun k _ hk => by have h2 : lab k = 0 := hk; omega))).mono ?_; rintro e' w_ ⟨r, rfl, H'⟩; obtain rfl := H'.fact 2 rfl (fun S h => h.1); have H4 := H'.imp 2 (A' := isTk p A0 b a1 e1) rfl (fun S h => h.2); clear H' H3)
    | (go_at_call 68; refine (cressetref03_whole.calls nm nm _ rfl).mono ?_; rintro e' w_ ⟨rfl, ⟨nd, rfl⟩⟩; have H4d := H4.drewN nd; clear H4)
    | ((with_reducible refine gate_dst (N := 5) rfl ?_); refine Hp.at_box H4d 4 ?hg (N := 5) ?hd (cs := #[.int .i64 0, .slice none 0 0, .bool false]) (t := 27) ?hr ?_; (case hd => rfl); (case hg => rfl); (case hr => first | (go_simp; done) | (go_simp; rfl)); intro g5 w5 H5; clear H4d; have x0 := H5.cell 4 rfl 0 (v := .int .i64 0) rfl; have x1 := H5.cell 4 rfl 1 (v := .slice none 0 0) rfl; have x2 := H5.cell 4 rfl 2 (v := .bool false) rfl; have ux0 := H5.unfrozen 4 rfl 0; have ux1 := H5.unfrozen 4 rfl 1; have ux2 := H5.unfrozen 4 rfl 2)
    | (go_at_call 69; refine ((((H5.box_set 4 rfl rfl 0 (.int .i64 nm)).box_set 4 rfl rfl 1 (.slice none 0 0)).box_set 4 rfl rfl 2 (.bool false)).call (TB'.out p) 2 rfl rfl (fun lab h => (Asn.rd U8 A0 _ _).mono (h.get (p := 1) rfl) (fun k _ hk => by have h2 : lab k = 0 := hk; omega))).mono ?_; rintro e' w_ ⟨r, rfl, H'⟩; obtain rfl := H'.fact 2 rfl (fun S h => h.1); have H6 := H'.imp 2 (A' := isTk p A0 b a2 e2) rfl (fun S h => h.2); clear H' x0 x1 x2 ux0 ux1 ux2 H5; have x2 := H6.cell 4 rfl 2 (v := .bool false) rfl; have ux2 := H6.unfrozen 4 rfl 2)
    | (go_at_call 60; refine ((H6.box_set 4 rfl rfl 2 (.bool fl)).call (TD.out p) 2 rfl rfl (fun lab h => (Asn.rd U8 A0 _ _).mono (h.get (p := 1) rfl) (fun k _ hk => by have h2 : lab k = 0 := hk; omega))).mono ?_; rintro e' w_ ⟨r, rfl, H'⟩; clear x2 ux2 H6; obtain rfl := H'.fact 2 rfl (fun S h => h.1); have H7 := (H'.imp 2 (A' := isTk p A0 b a3 e3) rfl (fun S h => h.2)).free 5 (A := Asn.row k74 74 (.slice none 0 0) []) (Kd.R_nil _ _ _ _ _); clear H'))
  go_loopw [7] (fun q wr => ∃ (m : Nat) (a e : Int) (l : List S74) (v : Value), q = .int .i64 m ∧ m ≤ n ∧ l.length = m ∧ Aside0 (PS b (n - m) a e l = (lw, a4, e4)) ∧ Aside0 (In b a) ∧ Aside0 (Hp w wr [(0, Asn.old w U), (0, Asn.rd U8 A0 b.length b), (1, isTk p A0 b a e), (3, Asn.box g2 #[.int .i64 0, .slice none 0 0, .bool false] 27), (4, Asn.box g5 #[.int .i64 nm, v, .bool fl] 27), (5, Asn.row k74 74 v l)])) (fun q _ => n - (intOf q).toNat)
  case atStart => exact ⟨0, a3, e3, [], .slice none 0 0, rfl, Nat.zero_le _, rfl, ⟨HW.out⟩, ⟨HI.out⟩, ⟨H7⟩⟩
  case round =>
    clear H7 HW HI
    obtain ⟨m, a, e, l, v, rfl, hm, hlm, HS, HA, HO⟩ := hrel
    by_cases hlt : m < n
    · have hltz : (m : Int) < (n : Int) := by omega
      obtain ⟨Av, cv, rfl⟩ := HO.out.fact 5 rfl (fun S h => Kd.R_slice h)
      have j1 := RT_in (e := e) hb HA.out
      have j2 := RT_in (e := (RT b a e).2.2) hb j1
      have j3 := RN_in (e := (RT b (RT b a e).2.1 (RT b a e).2.2).2.2) hb j2
      have U1 := text_tr hb hl (p := p) (A0 := A0) HA.out e
      have U2 := text_tr hb hl (p := p) (A0 := A0) j1 (RT b a e).2.2
      have U3 := num_tr hb hl (p := p) (A0 := A0) j2 (RT b (RT b a e).2.1 (RT b a e).2.2).2.2
      have hS2 : PS b (n - (m + 1)) (RP b a e).2.1 (RP b a e).2.2 (l ++ [(RP b a e).1]) = (lw, a4, e4) := by
        have h := HS.out
        rw [show n - m = (n - (m + 1)) + 1 by omega] at h
        exact h
      unfold RP at hS2
      dsimp only at hS2
      obtain ⟨⟨s1, b1, f1⟩, h1⟩ : ∃ q, RT b a e = q := ⟨_, rfl⟩
      rw [h1] at U1 U2 U3 j3 hS2
      dsimp only at U1 U2 U3 j3 hS2
      obtain ⟨⟨s2, b2, f2⟩, h2⟩ : ∃ q, RT b b1 f1 = q := ⟨_, rfl⟩
      rw [h2] at U2 U3 j3 hS2
      dsimp only at U2 U3 j3 hS2
      obtain ⟨⟨n3, b3, f3⟩, h3⟩ : ∃ q, RN b b2 f2 = q := ⟨_, rfl⟩
      rw [h3] at U3 j3 hS2
      dsimp only at U3 j3 hS2
      have UA := Aside0.mk U1
      have UB := Aside0.mk U2
      have UC := Aside0.mk U3
      have HN := Aside0.mk j3
      have HS2 := Aside0.mk hS2
      clear U1 U2 U3 j1 j2 j3 hS2 h1 h2 h3 HS HA
      have H0 := HO.out
      rw [hlm] at H0
      have HLM := Aside0.mk hlm
      clear HO hlm
      go_wp2_with (first
        | (go_at_call 70; refine (H0.call (UA.out) 2 rfl rfl (fun lab h => (Asn.rd U8 A0 _ _).mono (h.get (p := 1) rfl) (fun k _ hk => by have h2 : lab k = 0 := hk; omega))).mono ?_; rintro e' w_ ⟨r, rfl, H'⟩; obtain rfl := H'.fact 2 rfl (fun S h => h.1); have H1 := H'.imp 2 (A' := isTk p A0 b b1 f1) rfl (fun S h => h.2); clear H' H0)
        | ((with_reducible refine gate_dst (N := 8) rfl ?_); refine Hp.at_box H1 6 ?hg (N := 8) ?hd (cs := #[.string ⟨#[]⟩, .string ⟨#[]⟩, .int .i64 0]) (t := 74) ?hr ?_; (case hd => rfl); (case hg => rfl); (case hr => first | (go_simp; done) | (go_simp; rfl)); intro g8 w8 H2; clear H1; have x0 := H2.cell 6 rfl 0 (v := .string ⟨#[]⟩) rfl; have x1 := H2.cell 6 rfl 1 (v := .string ⟨#[]⟩) rfl; have x2 := H2.cell 6 rfl 2 (v := .int .i64 0) rfl; have ux0 := H2.unfrozen 6 rfl 0; have ux1 := H2.unfrozen 6 rfl 1; have ux2 := H2.unfrozen 6 rfl 2)
        | (go_at_call 70; refine ((((H2.box_set 6 rfl rfl 0 (.string s1)).box_set 6 rfl rfl 1 (.string ⟨#[]⟩)).box_set 6 rfl rfl 2 (.int .i64 0)).call (UB.out) 2 rfl rfl (fun lab h => (Asn.rd U8 A0 _ _).mono (h.get (p := 1) rfl) (fun k _ hk => by have h2 : lab k = 0 := hk; omega))).mono ?_; rintro e' w_ ⟨r, rfl, H'⟩; obtain rfl := H'.fact 2 rfl (fun S h => h.1); have H3 := H'.imp 2 (A' := isTk p A0 b b2 f2) rfl (fun S h => h.2); clear H' x0 x1 x2 ux0 ux1 ux2 H2; have x1 := H3.cell 6 rfl 1 (v := .string ⟨#[]⟩) rfl; have ux1 := H3.unfrozen 6 rfl 1)
        | (go_at_call 59; refine ((H3.box_set 6 rfl rfl 1 (.string s2)).call (UC.out) 2 rfl rfl (fun lab h => (Asn.rd U8 A0 _ _).mono (h.get (p := 1) rfl) (fun k _ hk => by have h2 : lab k = 0 := hk; omega))).mono ?_; rintro e' w_ ⟨r, rfl, H'⟩; obtain rfl := H'.fact 2 rfl (fun S h => h.1); have H4 := H'.imp 2 (A' := isTk p A0 b b3 f3) rfl (fun S h => h.2); clear H' x1 ux1 H3; have x2 := H4.cell 6 rfl 2 (v := .int .i64 0) rfl; have ux2 := H4.unfrozen 6 rfl 2; have H5 := H4.box_set 6 rfl rfl 2 (.int .i64 n3); have z0 := H5.cell 6 rfl 0 (v := .string s1) rfl; have z1 := H5.cell 6 rfl 1 (v := .string s2) rfl; have z2 := H5.cell 6 rfl 2 (v := .int .i64 n3) rfl; have y1 := H5.cell 4 rfl 1 (v := .slice Av m cv) rfl; have HXE := Aside0.mk (show Value.slice (some ⟨w_.heap.size, 0, none⟩) 1 1 = Value.slice (some ⟨(w_.setCell ⟨g8, 2, none⟩ (.int .i64 n3)).heap.size, 0, none⟩) 1 1 by simp [World.setCell]))
        | ((with_reducible refine gate_builtin (b := .append) (xs := #[.tmp 39, .tmp 41]) rfl ?_); at_builtin; refine Hp.at_append k74 H5 5 rfl (.tmp 39) (.tmp 41) 25 74 (.agg #[.string ⟨#[]⟩, .string ⟨#[]⟩, .int .i64 0]) 40 rfl Try.underlying25 info74 rfl (by decide) (by omega) (.slice Av m cv) l rfl rfl (⟨s1, s2, n3⟩ : S74) [.string s1, .string s2, .int .i64 n3] ?hs ?hx (fun _ => k74_mkM _ _ _ _) (by have := HLM.out; omega) ?_; (case hs => rfl); (case hx => first | rfl | exact HXE.out); intro v5 w11 H11; obtain ⟨A5, c5, hv5⟩ := H11.fact 5 rfl (fun S h => Kd.R_slice h); rw [show (l ++ [(⟨s1, s2, n3⟩ : S74)]).length = m + 1 by have := HLM.out; simp; omega] at hv5; subst hv5; clear z0 z1 z2 y1 x2 ux2 H4 H5; have t5 := H11.cell 4 rfl 1 (v := .slice Av m cv) rfl; have t6 := H11.unfrozen 4 rfl 1))
      have H12 : Hp w _ [(0, Asn.old w U), (0, Asn.rd U8 A0 b.length b), (1, isTk p A0 b b3 f3), (3, Asn.box g2 #[.int .i64 0, .slice none 0 0, .bool false] 27), (4, Asn.box g5 #[.int .i64 nm, .slice A5 (m + 1) c5, .bool fl] 27), (5, Asn.row k74 74 (.slice A5 (m + 1) c5) (l ++ [(⟨s1, s2, n3⟩ : S74)]))] := (H11.box_set 4 rfl rfl 1 (.slice A5 (m + 1) c5)).keep [0, 1, 2, 3, 4, 5]
      clear H11 t5 t6
      go_roundw
      case rel => exact ⟨m + 1, b3, f3, l ++ [⟨s1, s2, n3⟩], .slice A5 (m + 1) c5, by go_num, by omega, by have := HLM.out; simp; omega, HS2, HN, ⟨H12⟩⟩
      case measure => simp [intOf]; omega
    · have hle : m = n := by omega
      subst hle
      have hltz : ¬ (m : Int) < (m : Int) := by omega
      have hws := HS.out
      rw [Nat.sub_self] at hws
      have q1 : l = lw := congrArg (fun q => q.1) hws
      have q2 : a = a4 := congrArg (fun q => q.2.1) hws
      have q3 : e = e4 := congrArg (fun q => q.2.2) hws
      have H8 := HO.out
      have ha3 := HA.out
      obtain ⟨Av, cv, rfl⟩ := H8.fact 5 rfl (fun S h => Kd.R_slice h)
      rw [q1, q2, q3] at H8
      rw [q2] at ha3
      have HEN := Aside0.mk (ends_tr (p := p) (A0 := A0) ha3 e4)
      clear HO HS hws q1 q2 q3 HA ha3 hlm
      have HE2 := Aside0.mk (endE_two b a4 e4 (chunkE nm lw))
      obtain ⟨f, hfe⟩ : ∃ f, endE b a4 e4 0 = f := ⟨_, rfl⟩
      rw [hfe] at HEN HE2
      clear hfe
      by_cases hf : f = 0
      · subst hf
        have HE3 : Aside0 (endE b a4 e4 (chunkE nm lw) = chunkE nm lw) := ⟨by have := HE2.out; rwa [if_pos rfl] at this⟩
        obtain ⟨kc, hkc⟩ := (checkChunkR_ev nm lw fl).rounds
        obtain ⟨g, hge⟩ : ∃ g, chunkE nm lw = g := ⟨_, rfl⟩
        rw [hge] at hkc
        have HGE := Aside0.mk hge
        clear HE2 hge
        have HKC := Aside0.mk hkc
        clear hkc
        by_cases hg : g = 0
        · subst hg
          have HQ : Aside0 (TK b = (nm, lw, fl, 0)) := ⟨by rw [HTC.out, HE3.out.trans HGE.out, if_pos rfl]⟩
          go_wp2_with (first
            | (go_at_call 62; refine (H8.call HEN.out 2 rfl rfl (fun lab h => (Asn.rd U8 A0 _ _).mono (h.get (p := 1) rfl) (fun k _ hk => by have h2 : lab k = 0 := hk; omega))).mono ?_; rintro e9 w9 ⟨r, rfl, H'⟩; obtain rfl := H'.fact 2 rfl (fun S h => h.1); have H9 : Hp w w9 [(0, Asn.old w U), (3, Asn.box g2 #[.int .i64 0, .slice none 0 0, .bool false] 27), (4, Asn.box g5 #[.int .i64 nm, .slice Av lw.length cv, .bool fl] 27), (5, Asn.row k74 74 (.slice Av lw.length cv) lw)] := H'.keep [0, 3, 4, 5]; clear H' H8; have y0 := H9.cell 2 rfl 0 (v := .int .i64 nm) rfl; have y1 := H9.cell 2 rfl 1 (v := .slice Av lw.length cv) rfl; have y2 := H9.cell 2 rfl 2 (v := .bool fl) rfl; have k0 := H9.cell 1 rfl 0 (v := .int .i64 0) rfl; have k1 := H9.cell 1 rfl 1 (v := .slice none 0 0) rfl; have k2 := H9.cell 1 rfl 2 (v := .bool false) rfl; have uk0 := H9.unfrozen 1 rfl 0; have uk1 := H9.unfrozen 1 rfl 1; have uk2 := H9.unfrozen 1 rfl 2)
            | (go_at_call 21; refine (cressetref03_CheckChunk.calls kc nm Av cv lw fl 0 _ (H9.row_C 3 rfl).2.2 (H9.row_C 3 rfl).2.1 HKC.out).mono ?_; rintro e10 w10 ⟨rfl, hb10⟩; have H10 := H9.same hb10; clear H9 hb10 y0 y1 y2 k0 k1 k2 uk0 uk1 uk2; have y0 := H10.cell 2 rfl 0 (v := .int .i64 nm) rfl; have y1 := H10.cell 2 rfl 1 (v := .slice Av lw.length cv) rfl; have y2 := H10.cell 2 rfl 2 (v := .bool fl) rfl; have k0 := H10.cell 1 rfl 0 (v := .int .i64 0) rfl; have k1 := H10.cell 1 rfl 1 (v := .slice none 0 0) rfl; have k2 := H10.cell 1 rfl 2 (v := .bool false) rfl; have uk0 := H10.unfrozen 1 rfl 0; have uk1 := H10.unfrozen 1 rfl 1; have uk2 := H10.unfrozen 1 rfl 2))
          have HZ := ((H10.box_set 1 rfl rfl 0 (.int .i64 nm)).box_set 1 rfl rfl 1 (.slice Av lw.length cv)).box_set 1 rfl rfl 2 (.bool fl)
          have c0 := HZ.cell 1 rfl 0 (v := .int .i64 nm) rfl
          have c1 := HZ.cell 1 rfl 1 (v := .slice Av lw.length cv) rfl
          have c2 := HZ.cell 1 rfl 2 (v := .bool fl) rfl
          refine bodyPost_ret (v := .tuple #[.agg #[.int .i64 nm, .slice Av lw.length cv, .bool fl], .int .i64 0]) (by simp [results, Try.f39, go_sem, c0, c1, c2]) rfl ⟨_, rfl, ?_⟩
          rw [HQ.out]
          exact (relabel (HZ.keep [0, 3])).imp 1 (A' := Asn.ex fun v : Value => Asn.and (Asn.lift (Value.tuple #[.agg #[.int .i64 nm, .slice Av lw.length cv, .bool fl], .int .i64 0] = Value.tuple #[.agg #[.int .i64 nm, v, .bool fl], .int .i64 0])) (Asn.row k74 74 v lw)) rfl (fun S h => ⟨.slice Av lw.length cv, rfl, h⟩)
        · have HQ : Aside0 (TK b = (0, [], false, g)) := ⟨by rw [HTC.out, HE3.out.trans HGE.out, if_neg hg]⟩
          have g1 : (g == 0) = false := beq_eq_false_iff_ne.mpr hg
          have g2' : (g != 0) = true := bne_iff_ne.mpr hg
          go_wp2_with (first
            | (go_at_call 62; refine (H8.call HEN.out 2 rfl rfl (fun lab h => (Asn.rd U8 A0 _ _).mono (h.get (p := 1) rfl) (fun k _ hk => by have h2 : lab k = 0 := hk; omega))).mono ?_; rintro e9 w9 ⟨r, rfl, H'⟩; obtain rfl := H'.fact 2 rfl (fun S h => h.1); have H9 : Hp w w9 [(0, Asn.old w U), (3, Asn.box g2 #[.int .i64 0, .slice none 0 0, .bool false] 27), (4, Asn.box g5 #[.int .i64 nm, .slice Av lw.length cv, .bool fl] 27), (5, Asn.row k74 74 (.slice Av lw.length cv) lw)] := H'.keep [0, 3, 4, 5]; clear H' H8; have y0 := H9.cell 2 rfl 0 (v := .int .i64 nm) rfl; have y1 := H9.cell 2 rfl 1 (v := .slice Av lw.length cv) rfl; have y2 := H9.cell 2 rfl 2 (v := .bool fl) rfl; have k0 := H9.cell 1 rfl 0 (v := .int .i64 0) rfl; have k1 := H9.cell 1 rfl 1 (v := .slice none 0 0) rfl; have k2 := H9.cell 1 rfl 2 (v := .bool false) rfl; have uk0 := H9.unfrozen 1 rfl 0; have uk1 := H9.unfrozen 1 rfl 1; have uk2 := H9.unfrozen 1 rfl 2)
            | (go_at_call 21; refine (cressetref03_CheckChunk.calls kc nm Av cv lw fl g _ (H9.row_C 3 rfl).2.2 (H9.row_C 3 rfl).2.1 HKC.out).mono ?_; rintro e10 w10 ⟨rfl, hb10⟩; have H10 := H9.same hb10; clear H9 hb10 y0 y1 y2 k0 k1 k2 uk0 uk1 uk2; have y0 := H10.cell 2 rfl 0 (v := .int .i64 nm) rfl; have y1 := H10.cell 2 rfl 1 (v := .slice Av lw.length cv) rfl; have y2 := H10.cell 2 rfl 2 (v := .bool fl) rfl; have k0 := H10.cell 1 rfl 0 (v := .int .i64 0) rfl; have k1 := H10.cell 1 rfl 1 (v := .slice none 0 0) rfl; have k2 := H10.cell 1 rfl 2 (v := .bool false) rfl; have uk0 := H10.unfrozen 1 rfl 0; have uk1 := H10.unfrozen 1 rfl 1; have uk2 := H10.unfrozen 1 rfl 2))
          have HZ := ((H10.box_set 1 rfl rfl 0 (.int .i64 0)).box_set 1 rfl rfl 1 (.slice none 0 0)).box_set 1 rfl rfl 2 (.bool false)
          have c0 := HZ.cell 1 rfl 0 (v := .int .i64 0) rfl
          have c1 := HZ.cell 1 rfl 1 (v := .slice none 0 0) rfl
          have c2 := HZ.cell 1 rfl 2 (v := .bool false) rfl
          refine bodyPost_ret (v := .tuple #[.agg #[.int .i64 0, .slice none 0 0, .bool false], .int .i64 g]) (by simp [results, Try.f39, go_sem, c0, c1, c2]) rfl ⟨_, rfl, ?_⟩
          rw [HQ.out]
          exact ((HZ.keep [0]).free 1 (A := Asn.row k74 74 (.slice none 0 0) []) (Kd.R_nil _ _ _ _ _)).imp 1 (A' := Asn.ex fun v : Value => Asn.and (Asn.lift (Value.tuple #[.agg #[.int .i64 0, .slice none 0 0, .bool false], .int .i64 g] = Value.tuple #[.agg #[.int .i64 0, v, .bool false], .int .i64 g])) (Asn.row k74 74 v [])) rfl (fun S h => ⟨.slice none 0 0, rfl, h⟩)
      · have HQ : Aside0 (TK b = (0, [], false, f)) := ⟨by have := HE2.out; rw [if_neg hf] at this; rw [HTC.out, this, if_neg hf]⟩
        have g1 : (f == 0) = false := beq_eq_false_iff_ne.mpr hf
        have g2' : (f != 0) = true := bne_iff_ne.mpr hf
        go_wp2_with (first
          | (go_at_call 62; refine (H8.call HEN.out 2 rfl rfl (fun lab h => (Asn.rd U8 A0 _ _).mono (h.get (p := 1) rfl) (fun k _ hk => by have h2 : lab k = 0 := hk; omega))).mono ?_; rintro e9 w9 ⟨r, rfl, H'⟩; obtain rfl := H'.fact 2 rfl (fun S h => h.1); have H9 : Hp w w9 [(0, Asn.old w U), (3, Asn.box g2 #[.int .i64 0, .slice none 0 0, .bool false] 27), (4, Asn.box g5 #[.int .i64 nm, .slice Av lw.length cv, .bool fl] 27), (5, Asn.row k74 74 (.slice Av lw.length cv) lw)] := H'.keep [0, 3, 4, 5]; clear H' H8; have y0 := H9.cell 2 rfl 0 (v := .int .i64 nm) rfl; have y1 := H9.cell 2 rfl 1 (v := .slice Av lw.length cv) rfl; have y2 := H9.cell 2 rfl 2 (v := .bool fl) rfl; have k0 := H9.cell 1 rfl 0 (v := .int .i64 0) rfl; have k1 := H9.cell 1 rfl 1 (v := .slice none 0 0) rfl; have k2 := H9.cell 1 rfl 2 (v := .bool false) rfl; have uk0 := H9.unfrozen 1 rfl 0; have uk1 := H9.unfrozen 1 rfl 1; have uk2 := H9.unfrozen 1 rfl 2))
        have HZ := ((H9.box_set 1 rfl rfl 0 (.int .i64 0)).box_set 1 rfl rfl 1 (.slice none 0 0)).box_set 1 rfl rfl 2 (.bool false)
        have c0 := HZ.cell 1 rfl 0 (v := .int .i64 0) rfl
        have c1 := HZ.cell 1 rfl 1 (v := .slice none 0 0) rfl
        have c2 := HZ.cell 1 rfl 2 (v := .bool false) rfl
        refine bodyPost_ret (v := .tuple #[.agg #[.int .i64 0, .slice none 0 0, .bool false], .int .i64 f]) (by simp [results, Try.f39, go_sem, c0, c1, c2]) rfl ⟨_, rfl, ?_⟩
        rw [HQ.out]
        exact ((HZ.keep [0]).free 1 (A := Asn.row k74 74 (.slice none 0 0) []) (Kd.R_nil _ _ _ _ _)).imp 1 (A' := Asn.ex fun v : Value => Asn.and (Asn.lift (Value.tuple #[.agg #[.int .i64 0, .slice none 0 0, .bool false], .int .i64 f] = Value.tuple #[.agg #[.int .i64 0, v, .bool false], .int .i64 f])) (Asn.row k74 74 v [])) rfl (fun S h => ⟨.slice none 0 0, rfl, h⟩)
end
end Go.Proofs.Ytkcdmoghnoodmaa.Tk

set_option linter.unusedVariables false
set_option linter.unusedSimpArgs false
namespace Go.Proofs.Ytkcdmoghnoodmaa.Tk
open Go.RowKit Go.Proofs.Ytkcdmoghnoodmaa.B Go.Proofs.YtkcdmoghnoodmaaW.PrintWords Go.Proofs.YtkcdmoghnoodmaaW.PrintLast Go.Proofs.YtkcdmoghnoodmaaW.PrintMore Go.Proofs.YtkcdmoghnoodmaaW.Mine Go.Proofs.YtkcdmoghnoodmaaW.Hp
open Go.Proofs.Ytkcdmoghnoodmaa.Lib Go.Proofs.Ytkcdmoghnoodmaa.Cod Go.Proofs.Ytkcdmoghnoodmaa.Rd Go.Proofs.Ytkcdmoghnoodmaa.Wr

section
variable {b : List Int} (hb : Bytes b) (hl : b.length ≤ 140737488351232)
include hb hl
set_option maxHeartbeats 16000000 in
set_option maxRecDepth 100000 in
theorem takeM_tr (A0 : Option Addr) (c0 : Nat) (hc : b.length ≤ c0) : Tr Try.prog 41 #[.slice A0 b.length c0] (Asn.rd U8 A0 b.length b) Asn.top (fun r => Asn.lift (r = .tuple #[.agg #[.int .i64 ((TM b).1.getD 0 0), .int .i64 ((TM b).1.getD 1 0), .int .i64 ((TM b).1.getD 2 0), .int .i64 ((TM b).1.getD 3 0), .int .i64 ((TM b).1.getD 4 0), .int .i64 ((TM b).1.getD 5 0), .int .i64 ((TM b).1.getD 6 0), .int .i64 ((TM b).1.getD 7 0)], .int .i64 (TM b).2])) := by
  refine Tr.intro fun w U H0 => ?_
  have H : Hp w w [(0, Asn.old w U), (0, Asn.rd U8 A0 b.length b)] := H0.keep [0, 1]
  clear H0
  have ia0 := In0 b
  have T0 := fun p => num_tr hb hl (p := p) (A0 := A0) ia0 0
  have ia1 := RN_in (e := 0) hb ia0
  obtain ⟨⟨n0, a0, e0⟩, h0⟩ : ∃ q, RN b 0 0 = q := ⟨_, rfl⟩
  rw [h0] at T0 ia1
  dsimp only at T0 ia1
  have T1 := fun p => num_tr hb hl (p := p) (A0 := A0) ia1 e0
  have ia2 := RN_in (e := e0) hb ia1
  obtain ⟨⟨n1, a1, e1⟩, h1⟩ : ∃ q, RN b a0 e0 = q := ⟨_, rfl⟩
  rw [h1] at T1 ia2
  dsimp only at T1 ia2
  have T2 := fun p => num_tr hb hl (p := p) (A0 := A0) ia2 e1
  have ia3 := RN_in (e := e1) hb ia2
  obtain ⟨⟨n2, a2, e2⟩, h2⟩ : ∃ q, RN b a1 e1 = q := ⟨_, rfl⟩
  rw [h2] at T2 ia3
  dsimp only at T2 ia3
  have T3 := fun p => num_tr hb hl (p := p) (A0 := A0) ia3 e2
  have ia4 := RN_in (e := e2) hb ia3
  obtain ⟨⟨n3, a3, e3⟩, h3⟩ : ∃ q, RN b a2 e2 = q := ⟨_, rfl⟩
  rw [h3] at T3 ia4
  dsimp only at T3 ia4
  have T4 := fun p => num_tr hb hl (p := p) (A0 := A0) ia4 e3
  have ia5 := RN_in (e := e3) hb ia4
  obtain ⟨⟨n4, a4, e4⟩, h4⟩ : ∃ q, RN b a3 e3 = q := ⟨_, rfl⟩
  rw [h4] at T4 ia5
  dsimp only at T4 ia5
  have T5 := fun p => num_tr hb hl (p := p) (A0 := A0) ia5 e4
  have ia6 := RN_in (e := e4) hb ia5
  obtain ⟨⟨n5, a5, e5⟩, h5⟩ : ∃ q, RN b a4 e4 = q := ⟨_, rfl⟩
  rw [h5] at T5 ia6
  dsimp only at T5 ia6
  have T6 := fun p => num_tr hb hl (p := p) (A0 := A0) ia6 e5
  have ia7 := RN_in (e := e5) hb ia6
  obtain ⟨⟨n6, a6, e6⟩, h6⟩ : ∃ q, RN b a5 e5 = q := ⟨_, rfl⟩
  rw [h6] at T6 ia7
  dsimp only at T6 ia7
  have T7 := fun p => num_tr hb hl (p := p) (A0 := A0) ia7 e6
  have ia8 := RN_in (e := e6) hb ia7
  obtain ⟨⟨n7, a7, e7⟩, h7⟩ : ∃ q, RN b a6 e6 = q := ⟨_, rfl⟩
  rw [h7] at T7 ia8
  dsimp only at T7 ia8
  have hRS : RS b 8 0 0 = ([n0, n1, n2, n3, n4, n5, n6, n7], a7, e7) := by
    simp only [RS]
    rw [h0]
    dsimp only
    rw [h1]
    dsimp only
    rw [h2]
    dsimp only
    rw [h3]
    dsimp only
    rw [h4]
    dsimp only
    rw [h5]
    dsimp only
    rw [h6]
    dsimp only
    rw [h7]
  have hT : TM b = if endE b a7 e7 (masterE n0 n1 n2 n3 n4 n5 n6 n7) = 0 then ([n0, n1, n2, n3, n4, n5, n6, n7], 0) else ([0, 0, 0, 0, 0, 0, 0, 0], endE b a7 e7 (masterE n0 n1 n2 n3 n4 n5 n6 n7)) := by
    unfold TM
    rw [hRS]
    rfl
  have HTC := Aside0.mk hT
  clear hRS
  have TA0 := Aside0.mk T0
  have TA1 := Aside0.mk T1
  have TA2 := Aside0.mk T2
  have TA3 := Aside0.mk T3
  have TA4 := Aside0.mk T4
  have TA5 := Aside0.mk T5
  have TA6 := Aside0.mk T6
  have TA7 := Aside0.mk T7
  have HEN0 := Aside0.mk (fun p => ends_tr (p := p) (A0 := A0) ia8 e7)
  clear hT T0 h0 ia0 T1 h1 ia1 T2 h2 ia2 T3 h3 ia3 T4 h4 ia4 T5 h5 ia5 T6 h6 ia6 T7 h7 ia7 ia8
  have HE2 := Aside0.mk (endE_two b a7 e7 (masterE n0 n1 n2 n3 n4 n5 n6 n7))
  obtain ⟨f, hfe⟩ : ∃ f, endE b a7 e7 0 = f := ⟨_, rfl⟩
  rw [hfe] at HEN0 HE2
  clear hfe
  obtain ⟨kc, hkc⟩ := (checkMasterR_ev n0 n1 n2 n3 n4 n5 n6 n7).rounds
  obtain ⟨g, hge⟩ : ∃ g, masterE n0 n1 n2 n3 n4 n5 n6 n7 = g := ⟨_, rfl⟩
  rw [hge] at hkc HE2 HTC
  have HD : Aside0 ((f = 0 ∧ Aside0 ((g = 0 ∧ Aside0 (TM b = ([n0, n1, n2, n3, n4, n5, n6, n7], 0))) ∨ ((g == 0) = false ∧ (g != 0) = true ∧ Aside0 (TM b = ([0, 0, 0, 0, 0, 0, 0, 0], g))))) ∨ ((f == 0) = false ∧ (f != 0) = true ∧ Aside0 (TM b = ([0, 0, 0, 0, 0, 0, 0, 0], f)))) := by
    refine ⟨?_⟩
    by_cases hf : f = 0
    · refine .inl ⟨hf, ⟨?_⟩⟩
      have h1 := HE2.out
      rw [if_pos hf] at h1
      by_cases hg : g = 0
      · exact .inl ⟨hg, ⟨by rw [HTC.out, h1, if_pos hg]⟩⟩
      · exact .inr ⟨beq_eq_false_iff_ne.mpr hg, bne_iff_ne.mpr hg, ⟨by rw [HTC.out, h1, if_neg hg]⟩⟩
    · have h1 := HE2.out
      rw [if_neg hf] at h1
      exact .inr ⟨beq_eq_false_iff_ne.mpr hf, bne_iff_ne.mpr hf, ⟨by rw [HTC.out, h1, if_neg hf]⟩⟩
  clear HE2 HTC hge
  have HKC := Aside0.mk hkc
  clear hkc
  go_enter Try.func41, Try.ntmps41
  go_wp2_with (first
    | ((with_reducible refine gate_dst (N := 2) rfl ?_); refine Hp.at_box H 3 ?hg (N := 2) ?hd (cs := #[.int .i64 0, .int .i64 0, .int .i64 0, .int .i64 0, .int .i64 0, .int .i64 0, .int .i64 0, .int .i64 0]) (t := 31) ?hr ?_; (case hd => rfl); (case hg => rfl); (case hr => first | (go_simp; done) | (go_simp; rfl)); intro g2 w1 H1; clear H)
    | ((with_reducible refine gate_dst (N := 9) rfl ?_); refine Hp.at_box H1 2 ?hg (N := 9) ?hd (cs := #[.slice A0 b.length c0]) (t := 95) ?hr ?_; (case hd => rfl); (case hg => rfl); (case hr => first | (go_simp; done) | (go_simp; rfl)); intro rb w2 H2; clear H1)
    | ((with_reducible refine gate_dst (N := 11) rfl ?_); refine Hp.at_box H2 1 ?hg (N := 11) ?hd (cs := #[.pointer (some ⟨rb, 0, none⟩), .int .i64 0]) (t := 97) ?hr ?_; (case hd => rfl); (case hg => rfl); (case hr => first | (go_simp; done) | (go_simp; rfl)); intro p w3 H3'; have H3 : Hp w w3 [(0, Asn.old w U), (0, Asn.rd U8 A0 b.length b), (1, isTk p A0 b 0 0), (3, Asn.box g2 #[.int .i64 0, .int .i64 0, .int .i64 0, .int .i64 0, .int .i64 0, .int .i64 0, .int .i64 0, .int .i64 0] 31)] := (((H3'.join 4 3 rfl rfl (by decide) rfl rfl).imp 4 (A' := isTk p A0 b 0 0) rfl (fun S h => ⟨(rb, A0, c0), ⟨hc, leads_refl A0 b⟩, h⟩)).keep [0, 1, 4, 2]); clear H2 H3')
    | (go_at_call 59; refine (H3.call (TA0.out p) 2 rfl rfl (fun lab h => (Asn.rd U8 A0 _ _).mono (h.get (p := 1) rfl) (fun k _ hk => by have h2 : lab k = 0 := hk; omega))).mono ?_; rintro e' w_ ⟨r, rfl, H'⟩; obtain rfl := H'.fact 2 rfl (fun S h => h.1); have H4 := H'.imp 2 (A' := isTk p A0 b a0 e0) rfl (fun S h => h.2); clear H' H3)
    | ((with_reducible refine gate_dst (N := 5) rfl ?_); refine Hp.at_box H4 4 ?hg (N := 5) ?hd (cs := #[.int .i64 0, .int .i64 0, .int .i64 0, .int .i64 0, .int .i64 0, .int .i64 0, .int .i64 0, .int .i64 0]) (t := 31) ?hr ?_; (case hd => rfl); (case hg => rfl); (case hr => first | (go_simp; done) | (go_simp; rfl)); intro g5 w5 H5'; clear H4; have H5 : Hp w w5 [(0, Asn.old w U), (0, Asn.rd U8 A0 b.length b), (1, isTk p A0 b a0 e0), (3, Asn.box g2 #[.int .i64 0, .int .i64 0, .int .i64 0, .int .i64 0, .int .i64 0, .int .i64 0, .int .i64 0, .int .i64 0] 31), (4, Asn.box g5 #[.int .i64 0, .int .i64 0, .int .i64 0, .int .i64 0, .int .i64 0, .int .i64 0, .int .i64 0, .int .i64 0] 31)] := H5'; clear H5'; have x0 := H5.cell 4 rfl 0 (v := .int .i64 0) rfl; have x1 := H5.cell 4 rfl 1 (v := .int .i64 0) rfl; have x2 := H5.cell 4 rfl 2 (v := .int .i64 0) rfl; have x3 := H5.cell 4 rfl 3 (v := .int .i64 0) rfl; have x4 := H5.cell 4 rfl 4 (v := .int .i64 0) rfl; have x5 := H5.cell 4 rfl 5 (v := .int .i64 0) rfl; have x6 := H5.cell 4 rfl 6 (v := .int .i64 0) rfl; have x7 := H5.cell 4 rfl 7 (v := .int .i64 0) rfl; have ux0 := H5.unfrozen 4 rfl 0; have ux1 := H5.unfrozen 4 rfl 1; have ux2 := H5.unfrozen 4 rfl 2; have ux3 := H5.unfrozen 4 rfl 3; have ux4 := H5.unfrozen 4 rfl 4; have ux5 := H5.unfrozen 4 rfl 5; have ux6 := H5.unfrozen 4 rfl 6; have ux7 := H5.unfrozen 4 rfl 7)
    | ((with_reducible refine gate_store (t := 31) (p := 5) rfl ?_); refine Hp.at_sets H5 4 rfl rfl ?hg (T := 31) (z := 5) (x := ?vo) ?ho ?hn 0 [.int .i64 n0, .int .i64 0, .int .i64 0, .int .i64 0, .int .i64 0, .int .i64 0, .int .i64 0, .int .i64 0] ?hr (cs' := #[.int .i64 n0, .int .i64 0, .int .i64 0, .int .i64 0, .int .i64 0, .int .i64 0, .int .i64 0, .int .i64 0]) ?hc ?_; (case ho => rfl); (case hg => rfl); (case hn => rfl); (case hr => first | (go_simp; done) | (go_simp; rfl)); (case hc => rfl); intro w6 HB0'; have HB0 : Hp w w6 [(0, Asn.old w U), (0, Asn.rd U8 A0 b.length b), (1, isTk p A0 b a0 e0), (3, Asn.box g2 #[.int .i64 0, .int .i64 0, .int .i64 0, .int .i64 0, .int .i64 0, .int .i64 0, .int .i64 0, .int .i64 0] 31), (4, Asn.box g5 #[.int .i64 n0, .int .i64 0, .int .i64 0, .int .i64 0, .int .i64 0, .int .i64 0, .int .i64 0, .int .i64 0] 31)] := HB0'; clear HB0' H5 x0 ux0 x1 ux1 x2 ux2 x3 ux3 x4 ux4 x5 ux5 x6 ux6 x7 ux7)
    | (go_at_call 59; refine (HB0.call (TA1.out p) 2 rfl rfl (fun lab h => (Asn.rd U8 A0 _ _).mono (h.get (p := 1) rfl) (fun k _ hk => by have h2 : lab k = 0 := hk; omega))).mono ?_; rintro e' wc1 ⟨r, rfl, H'⟩; obtain rfl := H'.fact 2 rfl (fun S h => h.1); have Hc1 : Hp w wc1 [(0, Asn.old w U), (0, Asn.rd U8 A0 b.length b), (1, isTk p A0 b a1 e1), (3, Asn.box g2 #[.int .i64 0, .int .i64 0, .int .i64 0, .int .i64 0, .int .i64 0, .int .i64 0, .int .i64 0, .int .i64 0] 31), (4, Asn.box g5 #[.int .i64 n0, .int .i64 0, .int .i64 0, .int .i64 0, .int .i64 0, .int .i64 0, .int .i64 0, .int .i64 0] 31)] := H'.imp 2 (A' := isTk p A0 b a1 e1) rfl (fun S h => h.2); clear H' HB0)
    | (go_at_call 68; refine (cressetref03_whole.calls n1 n1 _ rfl).mono ?_; rintro e' w_ ⟨rfl, ⟨nd1, rfl⟩⟩; have HH1 := Hc1.drewN nd1; clear Hc1; have x1 := HH1.cell 4 rfl 1 (v := .int .i64 0) rfl; have ux1 := HH1.unfrozen 4 rfl 1; have HB1 : Hp w ((wc1.drewN nd1).setCell ⟨g5, 1, none⟩ (.int .i64 n1)) [(0, Asn.old w U), (0, Asn.rd U8 A0 b.length b), (1, isTk p A0 b a1 e1), (3, Asn.box g2 #[.int .i64 0, .int .i64 0, .int .i64 0, .int .i64 0, .int .i64 0, .int .i64 0, .int .i64 0, .int .i64 0] 31), (4, Asn.box g5 #[.int .i64 n0, .int .i64 n1, .int .i64 0, .int .i64 0, .int .i64 0, .int .i64 0, .int .i64 0, .int .i64 0] 31)] := HH1.box_set 4 rfl rfl 1 (.int .i64 n1); clear HH1)
    | (go_at_call 59; refine (HB1.call (TA2.out p) 2 rfl rfl (fun lab h => (Asn.rd U8 A0 _ _).mono (h.get (p := 1) rfl) (fun k _ hk => by have h2 : lab k = 0 := hk; omega))).mono ?_; rintro e' wc2 ⟨r, rfl, H'⟩; obtain rfl := H'.fact 2 rfl (fun S h => h.1); have Hc2 : Hp w wc2 [(0, Asn.old w U), (0, Asn.rd U8 A0 b.length b), (1, isTk p A0 b a2 e2), (3, Asn.box g2 #[.int .i64 0, .int .i64 0, .int .i64 0, .int .i64 0, .int .i64 0, .int .i64 0, .int .i64 0, .int .i64 0] 31), (4, Asn.box g5 #[.int .i64 n0, .int .i64 n1, .int .i64 0, .int .i64 0, .int .i64 0, .int .i64 0, .int .i64 0, .int .i64 0] 31)] := H'.imp 2 (A' := isTk p A0 b a2 e2) rfl (fun S h => h.2); clear H' HB1 x1 ux1)
    | (go_at_call 68; refine (cressetref03_whole.calls n2 n2 _ rfl).mono ?_; rintro e' w_ ⟨rfl, ⟨nd2, rfl⟩⟩; have HH2 := Hc2.drewN nd2; clear Hc2; have x2 := HH2.cell 4 rfl 2 (v := .int .i64 0) rfl; have ux2 := HH2.unfrozen 4 rfl 2; have HB2 : Hp w ((wc2.drewN nd2).setCell ⟨g5, 2, none⟩ (.int .i64 n2)) [(0, Asn.old w U), (0, Asn.rd U8 A0 b.length b), (1, isTk p A0 b a2 e2), (3, Asn.box g2 #[.int .i64 0, .int .i64 0, .int .i64 0, .int .i64 0, .int .i64 0, .int .i64 0, .int .i64 0, .int .i64 0] 31), (4, Asn.box g5 #[.int .i64 n0, .int .i64 n1, .int .i64 n2, .int .i64 0, .int .i64 0, .int .i64 0, .int .i64 0, .int .i64 0] 31)] := HH2.box_set 4 rfl rfl 2 (.int .i64 n2); clear HH2)
    | (go_at_call 59; refine (HB2.call (TA3.out p) 2 rfl rfl (fun lab h => (Asn.rd U8 A0 _ _).mono (h.get (p := 1) rfl) (fun k _ hk => by have h2 : lab k = 0 := hk; omega))).mono ?_; rintro e' wc3 ⟨r, rfl, H'⟩; obtain rfl := H'.fact 2 rfl (fun S h => h.1); have HH3 : Hp w wc3 [(0, Asn.old w U), (0, Asn.rd U8 A0 b.length b), (1, isTk p A0 b a3 e3), (3, Asn.box g2 #[.int .i64 0, .int .i64 0, .int .i64 0, .int .i64 0, .int .i64 0, .int .i64 0, .int .i64 0, .int .i64 0] 31), (4, Asn.box g5 #[.int .i64 n0, .int .i64 n1, .int .i64 n2, .int .i64 0, .int .i64 0, .int .i64 0, .int .i64 0, .int .i64 0] 31)] := H'.imp 2 (A' := isTk p A0 b a3 e3) rfl (fun S h => h.2); clear H' HB2 x2 ux2; have x3 := HH3.cell 4 rfl 3 (v := .int .i64 0) rfl; have ux3 := HH3.unfrozen 4 rfl 3; have HB3 : Hp w (wc3.setCell ⟨g5, 3, none⟩ (.int .i64 n3)) [(0, Asn.old w U), (0, Asn.rd U8 A0 b.length b), (1, isTk p A0 b a3 e3), (3, Asn.box g2 #[.int .i64 0, .int .i64 0, .int .i64 0, .int .i64 0, .int .i64 0, .int .i64 0, .int .i64 0, .int .i64 0] 31), (4, Asn.box g5 #[.int .i64 n0, .int .i64 n1, .int .i64 n2, .int .i64 n3, .int .i64 0, .int .i64 0, .int .i64 0, .int .i64 0] 31)] := HH3.box_set 4 rfl rfl 3 (.int .i64 n3); clear HH3)
    | (go_at_call 59; refine (HB3.call (TA4.out p) 2 rfl rfl (fun lab h => (Asn.rd U8 A0 _ _).mono (h.get (p := 1) rfl) (fun k _ hk => by have h2 : lab k = 0 := hk; omega))).mono ?_; rintro e' wc4 ⟨r, rfl, H'⟩; obtain rfl := H'.fact 2 rfl (fun S h => h.1); have HH4 : Hp w wc4 [(0, Asn.old w U), (0, Asn.rd U8 A0 b.length b), (1, isTk p A0 b a4 e4), (3, Asn.box g2 #[.int .i64 0, .int .i64 0, .int .i64 0, .int .i64 0, .int .i64 0, .int .i64 0, .int .i64 0, .int .i64 0] 31), (4, Asn.box g5 #[.int .i64 n0, .int .i64 n1, .int .i64 n2, .int .i64 n3, .int .i64 0, .int .i64 0, .int .i64 0, .int .i64 0] 31)] := H'.imp 2 (A' := isTk p A0 b a4 e4) rfl (fun S h => h.2); clear H' HB3 x3 ux3; have x4 := HH4.cell 4 rfl 4 (v := .int .i64 0) rfl; have ux4 := HH4.unfrozen 4 rfl 4; have HB4 : Hp w (wc4.setCell ⟨g5, 4, none⟩ (.int .i64 n4)) [(0, Asn.old w U), (0, Asn.rd U8 A0 b.length b), (1, isTk p A0 b a4 e4), (3, Asn.box g2 #[.int .i64 0, .int .i64 0, .int .i64 0, .int .i64 0, .int .i64 0, .int .i64 0, .int .i64 0, .int .i64 0] 31), (4, Asn.box g5 #[.int .i64 n0, .int .i64 n1, .int .i64 n2, .int .i64 n3, .int .i64 n4, .int .i64 0, .int .i64 0, .int .i64 0] 31)] := HH4.box_set 4 rfl rfl 4 (.int .i64 n4); clear HH4)
    | (go_at_call 59; refine (HB4.call (TA5.out p) 2 rfl rfl (fun lab h => (Asn.rd U8 A0 _ _).mono (h.get (p := 1) rfl) (fun k _ hk => by have h2 : lab k = 0 := hk; omega))).mono ?_; rintro e' wc5 ⟨r, rfl, H'⟩; obtain rfl := H'.fact 2 rfl (fun S h => h.1); have Hc5 : Hp w wc5 [(0, Asn.old w U), (0, Asn.rd U8 A0 b.length b), (1, isTk p A0 b a5 e5), (3, Asn.box g2 #[.int .i64 0, .int .i64 0, .int .i64 0, .int .i64 0, .int .i64 0, .int .i64 0, .int .i64 0, .int .i64 0] 31), (4, Asn.box g5 #[.int .i64 n0, .int .i64 n1, .int .i64 n2, .int .i64 n3, .int .i64 n4, .int .i64 0, .int .i64 0, .int .i64 0] 31)] := H'.imp 2 (A' := isTk p A0 b a5 e5) rfl (fun S h => h.2); clear H' HB4 x4 ux4)
    | (go_at_call 68; refine (cressetref03_whole.calls n5 n5 _ rfl).mono ?_; rintro e' w_ ⟨rfl, ⟨nd5, rfl⟩⟩; have HH5 := Hc5.drewN nd5; clear Hc5; have x5 := HH5.cell 4 rfl 5 (v := .int .i64 0) rfl; have ux5 := HH5.unfrozen 4 rfl 5; have HB5 : Hp w ((wc5.drewN nd5).setCell ⟨g5, 5, none⟩ (.int .i64 n5)) [(0, Asn.old w U), (0, Asn.rd U8 A0 b.length b), (1, isTk p A0 b a5 e5), (3, Asn.box g2 #[.int .i64 0, .int .i64 0, .int .i64 0, .int .i64 0, .int .i64 0, .int .i64 0, .int .i64 0, .int .i64 0] 31), (4, Asn.box g5 #[.int .i64 n0, .int .i64 n1, .int .i64 n2, .int .i64 n3, .int .i64 n4, .int .i64 n5, .int .i64 0, .int .i64 0] 31)] := HH5.box_set 4 rfl rfl 5 (.int .i64 n5); clear HH5)
    | (go_at_call 59; refine (HB5.call (TA6.out p) 2 rfl rfl (fun lab h => (Asn.rd U8 A0 _ _).mono (h.get (p := 1) rfl) (fun k _ hk => by have h2 : lab k = 0 := hk; omega))).mono ?_; rintro e' wc6 ⟨r, rfl, H'⟩; obtain rfl := H'.fact 2 rfl (fun S h => h.1); have HH6 : Hp w wc6 [(0, Asn.old w U), (0, Asn.rd U8 A0 b.length b), (1, isTk p A0 b a6 e6), (3, Asn.box g2 #[.int .i64 0, .int .i64 0, .int .i64 0, .int .i64 0, .int .i64 0, .int .i64 0, .int .i64 0, .int .i64 0] 31), (4, Asn.box g5 #[.int .i64 n0, .int .i64 n1, .int .i64 n2, .int .i64 n3, .int .i64 n4, .int .i64 n5, .int .i64 0, .int .i64 0] 31)] := H'.imp 2 (A' := isTk p A0 b a6 e6) rfl (fun S h => h.2); clear H' HB5 x5 ux5; have x6 := HH6.cell 4 rfl 6 (v := .int .i64 0) rfl; have ux6 := HH6.unfrozen 4 rfl 6; have HB6 : Hp w (wc6.setCell ⟨g5, 6, none⟩ (.int .i64 n6)) [(0, Asn.old w U), (0, Asn.rd U8 A0 b.length b), (1, isTk p A0 b a6 e6), (3, Asn.box g2 #[.int .i64 0, .int .i64 0, .int .i64 0, .int .i64 0, .int .i64 0, .int .i64 0, .int .i64 0, .int .i64 0] 31), (4, Asn.box g5 #[.int .i64 n0, .int .i64 n1, .int .i64 n2, .int .i64 n3, .int .i64 n4, .int .i64 n5, .int .i64 n6, .int .i64 0] 31)] := HH6.box_set 4 rfl rfl 6 (.int .i64 n6); clear HH6)
    | (go_at_call 59; refine (HB6.call (TA7.out p) 2 rfl rfl (fun lab h => (Asn.rd U8 A0 _ _).mono (h.get (p := 1) rfl) (fun k _ hk => by have h2 : lab k = 0 := hk; omega))).mono ?_; rintro e' wc7 ⟨r, rfl, H'⟩; obtain rfl := H'.fact 2 rfl (fun S h => h.1); have HH7 : Hp w wc7 [(0, Asn.old w U), (0, Asn.rd U8 A0 b.length b), (1, isTk p A0 b a7 e7), (3, Asn.box g2 #[.int .i64 0, .int .i64 0, .int .i64 0, .int .i64 0, .int .i64 0, .int .i64 0, .int .i64 0, .int .i64 0] 31), (4, Asn.box g5 #[.int .i64 n0, .int .i64 n1, .int .i64 n2, .int .i64 n3, .int .i64 n4, .int .i64 n5, .int .i64 n6, .int .i64 0] 31)] := H'.imp 2 (A' := isTk p A0 b a7 e7) rfl (fun S h => h.2); clear H' HB6 x6 ux6; have x7 := HH7.cell 4 rfl 7 (v := .int .i64 0) rfl; have ux7 := HH7.unfrozen 4 rfl 7; have HB7 : Hp w (wc7.setCell ⟨g5, 7, none⟩ (.int .i64 n7)) [(0, Asn.old w U), (0, Asn.rd U8 A0 b.length b), (1, isTk p A0 b a7 e7), (3, Asn.box g2 #[.int .i64 0, .int .i64 0, .int .i64 0, .int .i64 0, .int .i64 0, .int .i64 0, .int .i64 0, .int .i64 0] 31), (4, Asn.box g5 #[.int .i64 n0, .int .i64 n1, .int .i64 n2, .int .i64 n3, .int .i64 n4, .int .i64 n5, .int .i64 n6, .int .i64 n7] 31)] := HH7.box_set 4 rfl rfl 7 (.int .i64 n7); clear HH7)
    | (go_at_call 62; refine (HB7.call (HEN0.out p) 2 rfl rfl (fun lab h => (Asn.rd U8 A0 _ _).mono (h.get (p := 1) rfl) (fun k _ hk => by have h2 : lab k = 0 := hk; omega))).mono ?_; rintro e9 w9 ⟨r, rfl, H'⟩; clear HB7 x7 ux7; obtain rfl := H'.fact 2 rfl (fun S h => h.1); have H9 : Hp w w9 [(0, Asn.old w U), (3, Asn.box g2 #[.int .i64 0, .int .i64 0, .int .i64 0, .int .i64 0, .int .i64 0, .int .i64 0, .int .i64 0, .int .i64 0] 31), (4, Asn.box g5 #[.int .i64 n0, .int .i64 n1, .int .i64 n2, .int .i64 n3, .int .i64 n4, .int .i64 n5, .int .i64 n6, .int .i64 n7] 31)] := H'.keep [0, 3, 4]; clear H'; have y0 := H9.cell 2 rfl 0 (v := .int .i64 n0) rfl; have y1 := H9.cell 2 rfl 1 (v := .int .i64 n1) rfl; have y2 := H9.cell 2 rfl 2 (v := .int .i64 n2) rfl; have y3 := H9.cell 2 rfl 3 (v := .int .i64 n3) rfl; have y4 := H9.cell 2 rfl 4 (v := .int .i64 n4) rfl; have y5 := H9.cell 2 rfl 5 (v := .int .i64 n5) rfl; have y6 := H9.cell 2 rfl 6 (v := .int .i64 n6) rfl; have y7 := H9.cell 2 rfl 7 (v := .int .i64 n7) rfl; have k0 := H9.cell 1 rfl 0 (v := .int .i64 0) rfl; have k1 := H9.cell 1 rfl 1 (v := .int .i64 0) rfl; have k2 := H9.cell 1 rfl 2 (v := .int .i64 0) rfl; have k3 := H9.cell 1 rfl 3 (v := .int .i64 0) rfl; have k4 := H9.cell 1 rfl 4 (v := .int .i64 0) rfl; have k5 := H9.cell 1 rfl 5 (v := .int .i64 0) rfl; have k6 := H9.cell 1 rfl 6 (v := .int .i64 0) rfl; have k7 := H9.cell 1 rfl 7 (v := .int .i64 0) rfl; have uk0 := H9.unfrozen 1 rfl 0; have uk1 := H9.unfrozen 1 rfl 1; have uk2 := H9.unfrozen 1 rfl 2; have uk3 := H9.unfrozen 1 rfl 3; have uk4 := H9.unfrozen 1 rfl 4; have uk5 := H9.unfrozen 1 rfl 5; have uk6 := H9.unfrozen 1 rfl 6; have uk7 := H9.unfrozen 1 rfl 7; rcases HD.out with ⟨rfl, HG⟩ | ⟨g1, g2', HQ⟩)
    | (go_at_call 23; refine (cressetref03_CheckMaster.calls kc n0 n1 n2 n3 n4 n5 n6 n7 g _ HKC.out).mono ?_; rintro e10 w10 ⟨rfl, hb10⟩; have H10 := H9.same hb10; clear H9 hb10 y0 k0 uk0 y1 k1 uk1 y2 k2 uk2 y3 k3 uk3 y4 k4 uk4 y5 k5 uk5 y6 k6 uk6 y7 k7 uk7; have y0 := H10.cell 2 rfl 0 (v := .int .i64 n0) rfl; have y1 := H10.cell 2 rfl 1 (v := .int .i64 n1) rfl; have y2 := H10.cell 2 rfl 2 (v := .int .i64 n2) rfl; have y3 := H10.cell 2 rfl 3 (v := .int .i64 n3) rfl; have y4 := H10.cell 2 rfl 4 (v := .int .i64 n4) rfl; have y5 := H10.cell 2 rfl 5 (v := .int .i64 n5) rfl; have y6 := H10.cell 2 rfl 6 (v := .int .i64 n6) rfl; have y7 := H10.cell 2 rfl 7 (v := .int .i64 n7) rfl; have k0 := H10.cell 1 rfl 0 (v := .int .i64 0) rfl; have k1 := H10.cell 1 rfl 1 (v := .int .i64 0) rfl; have k2 := H10.cell 1 rfl 2 (v := .int .i64 0) rfl; have k3 := H10.cell 1 rfl 3 (v := .int .i64 0) rfl; have k4 := H10.cell 1 rfl 4 (v := .int .i64 0) rfl; have k5 := H10.cell 1 rfl 5 (v := .int .i64 0) rfl; have k6 := H10.cell 1 rfl 6 (v := .int .i64 0) rfl; have k7 := H10.cell 1 rfl 7 (v := .int .i64 0) rfl; have uk0 := H10.unfrozen 1 rfl 0; have uk1 := H10.unfrozen 1 rfl 1; have uk2 := H10.unfrozen 1 rfl 2; have uk3 := H10.unfrozen 1 rfl 3; have uk4 := H10.unfrozen 1 rfl 4; have uk5 := H10.unfrozen 1 rfl 5; have uk6 := H10.unfrozen 1 rfl 6; have uk7 := H10.unfrozen 1 rfl 7; rcases HG.out with ⟨rfl, HQ⟩ | ⟨g1, g2', HQ⟩))
  · have HZ' := Hp.box_sets (i := 3) (p := 1) [.int .i64 n0, .int .i64 n1, .int .i64 n2, .int .i64 n3, .int .i64 n4, .int .i64 n5, .int .i64 n6, .int .i64 n7] 0 _ _ _ H10 rfl rfl
    have HZ : Hp w (sets g2 w10 0 [.int .i64 n0, .int .i64 n1, .int .i64 n2, .int .i64 n3, .int .i64 n4, .int .i64 n5, .int .i64 n6, .int .i64 n7]) [(0, Asn.old w U), (3, Asn.box g2 #[.int .i64 n0, .int .i64 n1, .int .i64 n2, .int .i64 n3, .int .i64 n4, .int .i64 n5, .int .i64 n6, .int .i64 n7] 31), (4, Asn.box g5 #[.int .i64 n0, .int .i64 n1, .int .i64 n2, .int .i64 n3, .int .i64 n4, .int .i64 n5, .int .i64 n6, .int .i64 n7] 31)] := HZ'
    have c0 := HZ.cell 1 rfl 0 (v := .int .i64 n0) rfl
    simp only [sets] at c0
    have c1 := HZ.cell 1 rfl 1 (v := .int .i64 n1) rfl
    simp only [sets] at c1
    have c2 := HZ.cell 1 rfl 2 (v := .int .i64 n2) rfl
    simp only [sets] at c2
    have c3 := HZ.cell 1 rfl 3 (v := .int .i64 n3) rfl
    simp only [sets] at c3
    have c4 := HZ.cell 1 rfl 4 (v := .int .i64 n4) rfl
    simp only [sets] at c4
    have c5 := HZ.cell 1 rfl 5 (v := .int .i64 n5) rfl
    simp only [sets] at c5
    have c6 := HZ.cell 1 rfl 6 (v := .int .i64 n6) rfl
    simp only [sets] at c6
    have c7 := HZ.cell 1 rfl 7 (v := .int .i64 n7) rfl
    simp only [sets] at c7
    refine bodyPost_ret (v := .tuple #[.agg #[.int .i64 n0, .int .i64 n1, .int .i64 n2, .int .i64 n3, .int .i64 n4, .int .i64 n5, .int .i64 n6, .int .i64 n7], .int .i64 0]) (by simp [results, Try.f41, go_sem, c0, c1, c2, c3, c4, c5, c6, c7]) rfl ⟨_, rfl, ?_⟩
    rw [HQ.out]
    exact (HZ.keep [0]).free 1 rfl
  · have HZ' := Hp.box_sets (i := 3) (p := 1) [.int .i64 0, .int .i64 0, .int .i64 0, .int .i64 0, .int .i64 0, .int .i64 0, .int .i64 0, .int .i64 0] 0 _ _ _ H10 rfl rfl
    have HZ : Hp w (sets g2 w10 0 [.int .i64 0, .int .i64 0, .int .i64 0, .int .i64 0, .int .i64 0, .int .i64 0, .int .i64 0, .int .i64 0]) [(0, Asn.old w U), (3, Asn.box g2 #[.int .i64 0, .int .i64 0, .int .i64 0, .int .i64 0, .int .i64 0, .int .i64 0, .int .i64 0, .int .i64 0] 31), (4, Asn.box g5 #[.int .i64 n0, .int .i64 n1, .int .i64 n2, .int .i64 n3, .int .i64 n4, .int .i64 n5, .int .i64 n6, .int .i64 n7] 31)] := HZ'
    have c0 := HZ.cell 1 rfl 0 (v := .int .i64 0) rfl
    simp only [sets] at c0
    have c1 := HZ.cell 1 rfl 1 (v := .int .i64 0) rfl
    simp only [sets] at c1
    have c2 := HZ.cell 1 rfl 2 (v := .int .i64 0) rfl
    simp only [sets] at c2
    have c3 := HZ.cell 1 rfl 3 (v := .int .i64 0) rfl
    simp only [sets] at c3
    have c4 := HZ.cell 1 rfl 4 (v := .int .i64 0) rfl
    simp only [sets] at c4
    have c5 := HZ.cell 1 rfl 5 (v := .int .i64 0) rfl
    simp only [sets] at c5
    have c6 := HZ.cell 1 rfl 6 (v := .int .i64 0) rfl
    simp only [sets] at c6
    have c7 := HZ.cell 1 rfl 7 (v := .int .i64 0) rfl
    simp only [sets] at c7
    refine bodyPost_ret (v := .tuple #[.agg #[.int .i64 0, .int .i64 0, .int .i64 0, .int .i64 0, .int .i64 0, .int .i64 0, .int .i64 0, .int .i64 0], .int .i64 g]) (by simp [results, Try.f41, go_sem, c0, c1, c2, c3, c4, c5, c6, c7]) rfl ⟨_, rfl, ?_⟩
    rw [HQ.out]
    exact (HZ.keep [0]).free 1 rfl
  · have HZ' := Hp.box_sets (i := 3) (p := 1) [.int .i64 0, .int .i64 0, .int .i64 0, .int .i64 0, .int .i64 0, .int .i64 0, .int .i64 0, .int .i64 0] 0 _ _ _ H9 rfl rfl
    have HZ : Hp w (sets g2 w9 0 [.int .i64 0, .int .i64 0, .int .i64 0, .int .i64 0, .int .i64 0, .int .i64 0, .int .i64 0, .int .i64 0]) [(0, Asn.old w U), (3, Asn.box g2 #[.int .i64 0, .int .i64 0, .int .i64 0, .int .i64 0, .int .i64 0, .int .i64 0, .int .i64 0, .int .i64 0] 31), (4, Asn.box g5 #[.int .i64 n0, .int .i64 n1, .int .i64 n2, .int .i64 n3, .int .i64 n4, .int .i64 n5, .int .i64 n6, .int .i64 n7] 31)] := HZ'
    have c0 := HZ.cell 1 rfl 0 (v := .int .i64 0) rfl
    simp only [sets] at c0
    have c1 := HZ.cell 1 rfl 1 (v := .int .i64 0) rfl
    simp only [sets] at c1
    have c2 := HZ.cell 1 rfl 2 (v := .int .i64 0) rfl
    simp only [sets] at c2
    have c3 := HZ.cell 1 rfl 3 (v := .int .i64 0) rfl
    simp only [sets] at c3
    have c4 := HZ.cell 1 rfl 4 (v := .int .i64 0) rfl
    simp only [sets] at c4
    have c5 := HZ.cell 1 rfl 5 (v := .int .i64 0) rfl
    simp only [sets] at c5
    have c6 := HZ.cell 1 rfl 6 (v := .int .i64 0) rfl
    simp only [sets] at c6
    have c7 := HZ.cell 1 rfl 7 (v := .int .i64 0) rfl
    simp only [sets] at c7
    refine bodyPost_ret (v := .tuple #[.agg #[.int .i64 0, .int .i64 0, .int .i64 0, .int .i64 0, .int .i64 0, .int .i64 0, .int .i64 0, .int .i64 0], .int .i64 f]) (by simp [results, Try.f41, go_sem, c0, c1, c2, c3, c4, c5, c6, c7]) rfl ⟨_, rfl, ?_⟩
    rw [HQ.out]
    exact (HZ.keep [0]).free 1 rfl
end
end Go.Proofs.Ytkcdmoghnoodmaa.Tk

set_option linter.unusedVariables false
set_option linter.unusedSimpArgs false
namespace Go.Proofs.Ytkcdmoghnoodmaa.Tk
open Go.RowKit Go.Proofs.Ytkcdmoghnoodmaa.B Go.Proofs.YtkcdmoghnoodmaaW.PrintWords Go.Proofs.YtkcdmoghnoodmaaW.PrintLast Go.Proofs.YtkcdmoghnoodmaaW.PrintMore Go.Proofs.YtkcdmoghnoodmaaW.Mine Go.Proofs.YtkcdmoghnoodmaaW.Hp
open Go.Proofs.Ytkcdmoghnoodmaa.Lib Go.Proofs.Ytkcdmoghnoodmaa.Cod Go.Proofs.Ytkcdmoghnoodmaa.Rd Go.Proofs.Ytkcdmoghnoodmaa.Wr

theorem sameC_loop (a : Int) (l : List S33) (hl : l.length ≤ 9223372036854775807) : ∀ (d i : Nat), i + d = l.length → Ev (fun k => cressetref03_SameCommit.l0 k (i : Int) a l a l) true
  | 0, i, h => by
    refine Ev.step (f := fun _ => some true) (fun k => by simp only [cressetref03_SameCommit.l0]; rw [if_neg (by omega)]) ?_
    exact Ev.now _
  | d + 1, i, h => by
    have ih := sameC_loop a l hl d (i + 1) (by omega)
    refine Ev.step (fun k => by simp only [cressetref03_SameCommit.l0]; rw [if_pos (by omega), if_pos (by omega), if_pos (by omega), if_neg (by simp)]) ?_
    rw [Cod.wr1 (x := (i : Int) + 1) (by omega) (by omega)]
    exact ih
theorem sameC_ev (a : Int) (l : List S33) (hl : l.length ≤ 9223372036854775807) : Ev (fun k => cressetref03_SameCommit.f k a l a l) true := by
  unfold cressetref03_SameCommit.f
  refine Ev.congr (f := _) (fun k => if_pos rfl) ?_
  refine Ev.step (f := fun k => cressetref03_SameCommit.l0 k 0 a l a l) (fun k => by simp only [cressetref03_SameCommit.j0]; rw [if_neg (by simp)]) ?_
  exact sameC_loop a l hl l.length 0 (by omega)
theorem sameK_loop (l : List S74) (hl : l.length ≤ 9223372036854775807) : ∀ (d i : Nat), i + d = l.length → Ev (fun k => cressetref03_SamePairs.l0 k l l (i : Int)) true
  | 0, i, h => by
    refine Ev.step (f := fun _ => some true) (fun k => by simp only [cressetref03_SamePairs.l0]; rw [if_neg (by omega)]) ?_
    exact Ev.now _
  | d + 1, i, h => by
    have ih := sameK_loop l hl d (i + 1) (by omega)
    refine Ev.step (fun k => by simp only [cressetref03_SamePairs.l0]; rw [if_pos (by omega), if_pos (by omega), if_pos (by omega), if_neg (by simp)]) ?_
    rw [Cod.wr1 (x := (i : Int) + 1) (by omega) (by omega)]
    exact ih
theorem sameK_ev (a : Int) (l : List S74) (f : Bool) (hl : l.length ≤ 9223372036854775807) : Ev (fun k => cressetref03_SameChunk.f k a l f a l f) true := by
  unfold cressetref03_SameChunk.f
  refine Ev.congr (f := _) (fun k => if_pos rfl) ?_
  refine Ev.congr (f := _) (fun k => if_pos (by simp)) ?_
  refine Ev.bind (a := true) ?_ (Ev.now _)
  unfold cressetref03_SamePairs.f
  refine Ev.congr (f := _) (fun k => if_pos rfl) ?_
  exact sameK_loop l hl l.length 0 (by omega)
theorem hU8 : Kd.Heap U8 := Kd.heap_int _
set_option maxHeartbeats 16000000 in
set_option maxRecDepth 100000 in
theorem reads_go (A0 : Option Addr) (c0 : Nat) (b : List Int) (w : World) (hC : Kd.C U8 w A0 b.length b) (hc : b.length ≤ c0) (hb : Bytes b) (hl : b.length ≤ 140737488351232) :
    Calls Try.prog 7 #[.slice A0 b.length c0] w fun e w' => e = .returned (.bool true) ∧ Below w.heap.size w w' := by
  have H := (Hp.start w).came hU8 0 rfl hC
  clear hC
  obtain ⟨k1, hk1⟩ := (takeCommit_ev hb hl).rounds
  obtain ⟨k2, hk2⟩ := (takeChunk_ev hb hl).rounds
  obtain ⟨k3, hk3⟩ := (takeMaster_ev hb hl).rounds
  have T1 := takeC_tr hb hl A0 c0 hc
  have T2 := takeK_tr hb hl A0 c0 hc
  have T3 := takeM_tr hb hl A0 c0 hc
  obtain ⟨⟨ts, lw, ec⟩, h1⟩ : ∃ q, TC b = q := ⟨_, rfl⟩
  rw [h1] at hk1 T1
  obtain ⟨⟨nm, lp, fl, ek⟩, h2⟩ : ∃ q, TK b = q := ⟨_, rfl⟩
  rw [h2] at hk2 T2
  dsimp only at T1 T2
  generalize (TM b).2 = em at hk3 T3
  generalize (TM b).1.getD 0 0 = n0 at hk3 T3
  generalize (TM b).1.getD 1 0 = n1 at hk3 T3
  generalize (TM b).1.getD 2 0 = n2 at hk3 T3
  generalize (TM b).1.getD 3 0 = n3 at hk3 T3
  generalize (TM b).1.getD 4 0 = n4 at hk3 T3
  generalize (TM b).1.getD 5 0 = n5 at hk3 T3
  generalize (TM b).1.getD 6 0 = n6 at hk3 T3
  generalize (TM b).1.getD 7 0 = n7 at hk3 T3
  have HK1 := Aside0.mk hk1
  have HK2 := Aside0.mk hk2
  have HK3 := Aside0.mk hk3
  have TA := Aside0.mk T1
  have TB' := Aside0.mk T2
  have TM' := Aside0.mk T3
  have hc' := Aside0.mk hc
  clear hk1 hk2 hk3 T1 T2 T3 h1 h2
  go_enter Try.func7, Try.ntmps7
  go_wp2_with (first
    | (go_at_call 31; refine (record_TakeCommit.calls k1 A0 c0 b ts lw ec _ (H.reads 1 rfl) hc'.out HK1.out).mono ?_; rintro e w1 ⟨v1, rfl, hR, hb1⟩; have H1' := H.made 3 hb1 hR; obtain ⟨A1, c1, rfl⟩ := Kd.R_slice hR; clear hR hb1 H; have H1 : Hp w w1 [(0, Asn.old w (fun _ => False)), (0, Asn.rd U8 A0 b.length b), (3, Asn.row k33 33 (.slice A1 lw.length c1) lw)] := H1'; clear H1')
    | ((with_reducible refine gate_dst (N := 3) rfl ?_); refine Hp.at_box H1 4 ?hg (N := 3) ?hd (cs := #[.int .i64 0, .slice none 0 0]) (t := 24) ?hr ?_; (case hd => rfl); (case hg => rfl); (case hr => first | (go_simp; done) | (go_simp; rfl)); intro g3 vg3 H2'; clear H1; have H2z : Hp w vg3 [(0, Asn.old w (fun _ => False)), (0, Asn.rd U8 A0 b.length b), (3, Asn.row k33 33 (.slice A1 lw.length c1) lw), (4, Asn.box g3 #[.int .i64 0, .slice none 0 0] 24)] := H2'; clear H2'; have x0 := H2z.cell 3 rfl 0 (v := .int .i64 0) rfl; have x1 := H2z.cell 3 rfl 1 (v := .slice none 0 0) rfl; have ux0 := H2z.unfrozen 3 rfl 0; have ux1 := H2z.unfrozen 3 rfl 1; have H2 : Hp w (sets g3 vg3 0 [.int .i64 ts, .slice A1 lw.length c1]) [(0, Asn.old w (fun _ => False)), (0, Asn.rd U8 A0 b.length b), (3, Asn.row k33 33 (.slice A1 lw.length c1) lw), (4, Asn.box g3 #[.int .i64 ts, .slice A1 lw.length c1] 24)] := Hp.box_sets (i := 4) (p := 3) [.int .i64 ts, .slice A1 lw.length c1] 0 _ _ _ H2z rfl rfl; simp only [sets] at H2)
    | (go_at_call 32; refine (H2.make 5 TA.out (fun lab h => (Asn.rd U8 A0 _ _).mono (h.get (p := 1) rfl) (fun _ _ _ => trivial))).mono ?_; rintro e w3 ⟨r, rfl, H'⟩; clear x0 ux0 x1 ux1 H2z H2; obtain ⟨vv, H''⟩ := H'.open_ 4 rfl; obtain rfl := H''.fact 4 rfl (fun S h => h.1); obtain ⟨A2, c2, rfl⟩ := H''.fact 4 rfl (fun S h => Kd.R_slice h.2); have H3 : Hp w w3 [(0, Asn.old w (fun _ => False)), (0, Asn.rd U8 A0 b.length b), (3, Asn.row k33 33 (.slice A1 lw.length c1) lw), (4, Asn.box g3 #[.int .i64 ts, .slice A1 lw.length c1] 24), (5, Asn.row k33 33 (.slice A2 lw.length c2) lw)] := H''.imp 4 rfl (fun S h => h.2); clear H' H'')
    | ((with_reducible refine gate_dst (N := 5) rfl ?_); refine Hp.at_box H3 6 ?hg (N := 5) ?hd (cs := #[.int .i64 0, .slice none 0 0]) (t := 24) ?hr ?_; (case hd => rfl); (case hg => rfl); (case hr => first | (go_simp; done) | (go_simp; rfl)); intro g5 vg5 H4'; clear H3; have H4z : Hp w vg5 [(0, Asn.old w (fun _ => False)), (0, Asn.rd U8 A0 b.length b), (3, Asn.row k33 33 (.slice A1 lw.length c1) lw), (4, Asn.box g3 #[.int .i64 ts, .slice A1 lw.length c1] 24), (5, Asn.row k33 33 (.slice A2 lw.length c2) lw), (6, Asn.box g5 #[.int .i64 0, .slice none 0 0] 24)] := H4'; clear H4'; have x0 := H4z.cell 5 rfl 0 (v := .int .i64 0) rfl; have x1 := H4z.cell 5 rfl 1 (v := .slice none 0 0) rfl; have ux0 := H4z.unfrozen 5 rfl 0; have ux1 := H4z.unfrozen 5 rfl 1; have H4 : Hp w (sets g5 vg5 0 [.int .i64 ts, .slice A2 lw.length c2]) [(0, Asn.old w (fun _ => False)), (0, Asn.rd U8 A0 b.length b), (3, Asn.row k33 33 (.slice A1 lw.length c1) lw), (4, Asn.box g3 #[.int .i64 ts, .slice A1 lw.length c1] 24), (5, Asn.row k33 33 (.slice A2 lw.length c2) lw), (6, Asn.box g5 #[.int .i64 ts, .slice A2 lw.length c2] 24)] := Hp.box_sets (i := 6) (p := 5) [.int .i64 ts, .slice A2 lw.length c2] 0 _ _ _ H4z rfl rfl; simp only [sets] at H4)
    | (go_at_call 38; refine (record_TakeChunk.calls k2 A0 c0 b nm lp fl ek _ (H4.reads 1 rfl) hc'.out HK2.out).mono ?_; rintro e w5 ⟨v1, rfl, hR, hb1⟩; clear x0 ux0 x1 ux1 H4z; have H5' := H4.made 7 hb1 hR; obtain ⟨A3, c3, rfl⟩ := Kd.R_slice hR; clear hR hb1 H4; have H5 : Hp w w5 [(0, Asn.old w (fun _ => False)), (0, Asn.rd U8 A0 b.length b), (3, Asn.row k33 33 (.slice A1 lw.length c1) lw), (4, Asn.box g3 #[.int .i64 ts, .slice A1 lw.length c1] 24), (5, Asn.row k33 33 (.slice A2 lw.length c2) lw), (6, Asn.box g5 #[.int .i64 ts, .slice A2 lw.length c2] 24), (7, Asn.row k74 74 (.slice A3 lp.length c3) lp)] := H5'; clear H5')
    | ((with_reducible refine gate_dst (N := 7) rfl ?_); refine Hp.at_box H5 8 ?hg (N := 7) ?hd (cs := #[.int .i64 0, .slice none 0 0, .bool false]) (t := 27) ?hr ?_; (case hd => rfl); (case hg => rfl); (case hr => first | (go_simp; done) | (go_simp; rfl)); intro g7 vg7 H6'; clear H5; have H6z : Hp w vg7 [(0, Asn.old w (fun _ => False)), (0, Asn.rd U8 A0 b.length b), (3, Asn.row k33 33 (.slice A1 lw.length c1) lw), (4, Asn.box g3 #[.int .i64 ts, .slice A1 lw.length c1] 24), (5, Asn.row k33 33 (.slice A2 lw.length c2) lw), (6, Asn.box g5 #[.int .i64 ts, .slice A2 lw.length c2] 24), (7, Asn.row k74 74 (.slice A3 lp.length c3) lp), (8, Asn.box g7 #[.int .i64 0, .slice none 0 0, .bool false] 27)] := H6'; clear H6'; have x0 := H6z.cell 7 rfl 0 (v := .int .i64 0) rfl; have x1 := H6z.cell 7 rfl 1 (v := .slice none 0 0) rfl; have x2 := H6z.cell 7 rfl 2 (v := .bool false) rfl; have ux0 := H6z.unfrozen 7 rfl 0; have ux1 := H6z.unfrozen 7 rfl 1; have ux2 := H6z.unfrozen 7 rfl 2; have H6 : Hp w (sets g7 vg7 0 [.int .i64 nm, .slice A3 lp.length c3, .bool fl]) [(0, Asn.old w (fun _ => False)), (0, Asn.rd U8 A0 b.length b), (3, Asn.row k33 33 (.slice A1 lw.length c1) lw), (4, Asn.box g3 #[.int .i64 ts, .slice A1 lw.length c1] 24), (5, Asn.row k33 33 (.slice A2 lw.length c2) lw), (6, Asn.box g5 #[.int .i64 ts, .slice A2 lw.length c2] 24), (7, Asn.row k74 74 (.slice A3 lp.length c3) lp), (8, Asn.box g7 #[.int .i64 nm, .slice A3 lp.length c3, .bool fl] 27)] := Hp.box_sets (i := 8) (p := 7) [.int .i64 nm, .slice A3 lp.length c3, .bool fl] 0 _ _ _ H6z rfl rfl; simp only [sets] at H6)
    | (go_at_call 39; refine (H6.make 9 TB'.out (fun lab h => (Asn.rd U8 A0 _ _).mono (h.get (p := 1) rfl) (fun _ _ _ => trivial))).mono ?_; rintro e w7 ⟨r, rfl, H'⟩; clear x0 ux0 x1 ux1 x2 ux2 H6z H6; obtain ⟨vv, H''⟩ := H'.open_ 8 rfl; obtain rfl := H''.fact 8 rfl (fun S h => h.1); obtain ⟨A4, c4, rfl⟩ := H''.fact 8 rfl (fun S h => Kd.R_slice h.2); have H7 : Hp w w7 [(0, Asn.old w (fun _ => False)), (0, Asn.rd U8 A0 b.length b), (3, Asn.row k33 33 (.slice A1 lw.length c1) lw), (4, Asn.box g3 #[.int .i64 ts, .slice A1 lw.length c1] 24), (5, Asn.row k33 33 (.slice A2 lw.length c2) lw), (6, Asn.box g5 #[.int .i64 ts, .slice A2 lw.length c2] 24), (7, Asn.row k74 74 (.slice A3 lp.length c3) lp), (8, Asn.box g7 #[.int .i64 nm, .slice A3 lp.length c3, .bool fl] 27), (9, Asn.row k74 74 (.slice A4 lp.length c4) lp)] := H''.imp 8 rfl (fun S h => h.2); clear H' H'')
    | ((with_reducible refine gate_dst (N := 9) rfl ?_); refine Hp.at_box H7 10 ?hg (N := 9) ?hd (cs := #[.int .i64 0, .slice none 0 0, .bool false]) (t := 27) ?hr ?_; (case hd => rfl); (case hg => rfl); (case hr => first | (go_simp; done) | (go_simp; rfl)); intro g9 vg9 H8'; clear H7; have H8z : Hp w vg9 [(0, Asn.old w (fun _ => False)), (0, Asn.rd U8 A0 b.length b), (3, Asn.row k33 33 (.slice A1 lw.length c1) lw), (4, Asn.box g3 #[.int .i64 ts, .slice A1 lw.length c1] 24), (5, Asn.row k33 33 (.slice A2 lw.length c2) lw), (6, Asn.box g5 #[.int .i64 ts, .slice A2 lw.length c2] 24), (7, Asn.row k74 74 (.slice A3 lp.length c3) lp), (8, Asn.box g7 #[.int .i64 nm, .slice A3 lp.length c3, .bool fl] 27), (9, Asn.row k74 74 (.slice A4 lp.length c4) lp), (10, Asn.box g9 #[.int .i64 0, .slice none 0 0, .bool false] 27)] := H8'; clear H8'; have x0 := H8z.cell 9 rfl 0 (v := .int .i64 0) rfl; have x1 := H8z.cell 9 rfl 1 (v := .slice none 0 0) rfl; have x2 := H8z.cell 9 rfl 2 (v := .bool false) rfl; have ux0 := H8z.unfrozen 9 rfl 0; have ux1 := H8z.unfrozen 9 rfl 1; have ux2 := H8z.unfrozen 9 rfl 2; have H8 : Hp w (sets g9 vg9 0 [.int .i64 nm, .slice A4 lp.length c4, .bool fl]) [(0, Asn.old w (fun _ => False)), (0, Asn.rd U8 A0 b.length b), (3, Asn.row k33 33 (.slice A1 lw.length c1) lw), (4, Asn.box g3 #[.int .i64 ts, .slice A1 lw.length c1] 24), (5, Asn.row k33 33 (.slice A2 lw.length c2) lw), (6, Asn.box g5 #[.int .i64 ts, .slice A2 lw.length c2] 24), (7, Asn.row k74 74 (.slice A3 lp.length c3) lp), (8, Asn.box g7 #[.int .i64 nm, .slice A3 lp.length c3, .bool fl] 27), (9, Asn.row k74 74 (.slice A4 lp.length c4) lp), (10, Asn.box g9 #[.int .i64 nm, .slice A4 lp.length c4, .bool fl] 27)] := Hp.box_sets (i := 10) (p := 9) [.int .i64 nm, .slice A4 lp.length c4, .bool fl] 0 _ _ _ H8z rfl rfl; simp only [sets] at H8)
    | (go_at_call 40; refine (record_TakeMaster.calls k3 A0 c0 b n0 n1 n2 n3 n4 n5 n6 n7 em _ (H8.reads 1 rfl) hc'.out HK3.out).mono ?_; rintro e w9 ⟨rfl, hb1⟩; clear x0 ux0 x1 ux1 x2 ux2 H8z; have H9 := H8.same hb1; clear H8 hb1)
    | ((with_reducible refine gate_dst (N := 11) rfl ?_); refine Hp.at_box H9 11 ?hg (N := 11) ?hd (cs := #[.int .i64 0, .int .i64 0, .int .i64 0, .int .i64 0, .int .i64 0, .int .i64 0, .int .i64 0, .int .i64 0]) (t := 31) ?hr ?_; (case hd => rfl); (case hg => rfl); (case hr => first | (go_simp; done) | (go_simp; rfl)); intro g11 vg11 H10'; clear H9; have H10z : Hp w vg11 [(0, Asn.old w (fun _ => False)), (0, Asn.rd U8 A0 b.length b), (3, Asn.row k33 33 (.slice A1 lw.length c1) lw), (4, Asn.box g3 #[.int .i64 ts, .slice A1 lw.length c1] 24), (5, Asn.row k33 33 (.slice A2 lw.length c2) lw), (6, Asn.box g5 #[.int .i64 ts, .slice A2 lw.length c2] 24), (7, Asn.row k74 74 (.slice A3 lp.length c3) lp), (8, Asn.box g7 #[.int .i64 nm, .slice A3 lp.length c3, .bool fl] 27), (9, Asn.row k74 74 (.slice A4 lp.length c4) lp), (10, Asn.box g9 #[.int .i64 nm, .slice A4 lp.length c4, .bool fl] 27), (11, Asn.box g11 #[.int .i64 0, .int .i64 0, .int .i64 0, .int .i64 0, .int .i64 0, .int .i64 0, .int .i64 0, .int .i64 0] 31)] := H10'; clear H10'; have x0 := H10z.cell 10 rfl 0 (v := .int .i64 0) rfl; have x1 := H10z.cell 10 rfl 1 (v := .int .i64 0) rfl; have x2 := H10z.cell 10 rfl 2 (v := .int .i64 0) rfl; have x3 := H10z.cell 10 rfl 3 (v := .int .i64 0) rfl; have x4 := H10z.cell 10 rfl 4 (v := .int .i64 0) rfl; have x5 := H10z.cell 10 rfl 5 (v := .int .i64 0) rfl; have x6 := H10z.cell 10 rfl 6 (v := .int .i64 0) rfl; have x7 := H10z.cell 10 rfl 7 (v := .int .i64 0) rfl; have ux0 := H10z.unfrozen 10 rfl 0; have ux1 := H10z.unfrozen 10 rfl 1; have ux2 := H10z.unfrozen 10 rfl 2; have ux3 := H10z.unfrozen 10 rfl 3; have ux4 := H10z.unfrozen 10 rfl 4; have ux5 := H10z.unfrozen 10 rfl 5; have ux6 := H10z.unfrozen 10 rfl 6; have ux7 := H10z.unfrozen 10 rfl 7)
    | ((with_reducible refine gate_store (t := 31) (p := 11) rfl ?_); refine Hp.at_sets H10z 10 rfl rfl ?hg (T := 31) (z := 11) (x := ?vo) ?ho ?hn 0 [.int .i64 n0, .int .i64 n1, .int .i64 n2, .int .i64 n3, .int .i64 n4, .int .i64 n5, .int .i64 n6, .int .i64 n7] ?hr (cs' := #[.int .i64 n0, .int .i64 n1, .int .i64 n2, .int .i64 n3, .int .i64 n4, .int .i64 n5, .int .i64 n6, .int .i64 n7]) ?hc ?_; (case ho => rfl); (case hg => rfl); (case hn => rfl); (case hr => first | (go_simp; done) | (go_simp; rfl)); (case hc => rfl); intro wsg11 H10''; have H10 : Hp w wsg11 [(0, Asn.old w (fun _ => False)), (0, Asn.rd U8 A0 b.length b), (3, Asn.row k33 33 (.slice A1 lw.length c1) lw), (4, Asn.box g3 #[.int .i64 ts, .slice A1 lw.length c1] 24), (5, Asn.row k33 33 (.slice A2 lw.length c2) lw), (6, Asn.box g5 #[.int .i64 ts, .slice A2 lw.length c2] 24), (7, Asn.row k74 74 (.slice A3 lp.length c3) lp), (8, Asn.box g7 #[.int .i64 nm, .slice A3 lp.length c3, .bool fl] 27), (9, Asn.row k74 74 (.slice A4 lp.length c4) lp), (10, Asn.box g9 #[.int .i64 nm, .slice A4 lp.length c4, .bool fl] 27), (11, Asn.box g11 #[.int .i64 n0, .int .i64 n1, .int .i64 n2, .int .i64 n3, .int .i64 n4, .int .i64 n5, .int .i64 n6, .int .i64 n7] 31)] := H10''; clear H10'' H10z x0 ux0 x1 ux1 x2 ux2 x3 ux3 x4 ux4 x5 ux5 x6 ux6 x7 ux7)
    | (go_at_call 41; refine (H10.make 12 TM'.out (fun lab h => (Asn.rd U8 A0 _ _).mono (h.get (p := 1) rfl) (fun _ _ _ => trivial))).mono ?_; rintro e w11 ⟨r, rfl, H'⟩; clear  H10; obtain rfl := H'.fact 11 rfl (fun S h => h); have H11 : Hp w w11 [(0, Asn.old w (fun _ => False)), (0, Asn.rd U8 A0 b.length b), (3, Asn.row k33 33 (.slice A1 lw.length c1) lw), (4, Asn.box g3 #[.int .i64 ts, .slice A1 lw.length c1] 24), (5, Asn.row k33 33 (.slice A2 lw.length c2) lw), (6, Asn.box g5 #[.int .i64 ts, .slice A2 lw.length c2] 24), (7, Asn.row k74 74 (.slice A3 lp.length c3) lp), (8, Asn.box g7 #[.int .i64 nm, .slice A3 lp.length c3, .bool fl] 27), (9, Asn.row k74 74 (.slice A4 lp.length c4) lp), (10, Asn.box g9 #[.int .i64 nm, .slice A4 lp.length c4, .bool fl] 27), (11, Asn.box g11 #[.int .i64 n0, .int .i64 n1, .int .i64 n2, .int .i64 n3, .int .i64 n4, .int .i64 n5, .int .i64 n6, .int .i64 n7] 31)] := H'.keep [0, 1, 2, 3, 4, 5, 6, 7, 8, 9, 10]; clear H')
    | ((with_reducible refine gate_dst (N := 13) rfl ?_); refine Hp.at_box H11 13 ?hg (N := 13) ?hd (cs := #[.int .i64 0, .int .i64 0, .int .i64 0, .int .i64 0, .int .i64 0, .int .i64 0, .int .i64 0, .int .i64 0]) (t := 31) ?hr ?_; (case hd => rfl); (case hg => rfl); (case hr => first | (go_simp; done) | (go_simp; rfl)); intro g13 vg13 H12'; clear H11; have H12z : Hp w vg13 [(0, Asn.old w (fun _ => False)), (0, Asn.rd U8 A0 b.length b), (3, Asn.row k33 33 (.slice A1 lw.length c1) lw), (4, Asn.box g3 #[.int .i64 ts, .slice A1 lw.length c1] 24), (5, Asn.row k33 33 (.slice A2 lw.length c2) lw), (6, Asn.box g5 #[.int .i64 ts, .slice A2 lw.length c2] 24), (7, Asn.row k74 74 (.slice A3 lp.length c3) lp), (8, Asn.box g7 #[.int .i64 nm, .slice A3 lp.length c3, .bool fl] 27), (9, Asn.row k74 74 (.slice A4 lp.length c4) lp), (10, Asn.box g9 #[.int .i64 nm, .slice A4 lp.length c4, .bool fl] 27), (11, Asn.box g11 #[.int .i64 n0, .int .i64 n1, .int .i64 n2, .int .i64 n3, .int .i64 n4, .int .i64 n5, .int .i64 n6, .int .i64 n7] 31), (13, Asn.box g13 #[.int .i64 0, .int .i64 0, .int .i64 0, .int .i64 0, .int .i64 0, .int .i64 0, .int .i64 0, .int .i64 0] 31)] := H12'; clear H12'; have x0 := H12z.cell 11 rfl 0 (v := .int .i64 0) rfl; have x1 := H12z.cell 11 rfl 1 (v := .int .i64 0) rfl; have x2 := H12z.cell 11 rfl 2 (v := .int .i64 0) rfl; have x3 := H12z.cell 11 rfl 3 (v := .int .i64 0) rfl; have x4 := H12z.cell 11 rfl 4 (v := .int .i64 0) rfl; have x5 := H12z.cell 11 rfl 5 (v := .int .i64 0) rfl; have x6 := H12z.cell 11 rfl 6 (v := .int .i64 0) rfl; have x7 := H12z.cell 11 rfl 7 (v := .int .i64 0) rfl; have ux0 := H12z.unfrozen 11 rfl 0; have ux1 := H12z.unfrozen 11 rfl 1; have ux2 := H12z.unfrozen 11 rfl 2; have ux3 := H12z.unfrozen 11 rfl 3; have ux4 := H12z.unfrozen 11 rfl 4; have ux5 := H12z.unfrozen 11 rfl 5; have ux6 := H12z.unfrozen 11 rfl 6; have ux7 := H12z.unfrozen 11 rfl 7)
    | (go_at_call 17; refine (cressetlaw03_live.calls 0 true _ rfl).mono ?_; rintro e w13 ⟨rfl, hb1⟩; clear x0 x1 x2 x3 x4 x5 x6 x7 ux0 ux1 ux2 ux3 ux4 ux5 ux6 ux7; have HB := Hp.box_sets (i := 13) (p := 11) [.int .i64 n0, .int .i64 n1, .int .i64 n2, .int .i64 n3, .int .i64 n4, .int .i64 n5, .int .i64 n6, .int .i64 n7] 0 _ _ _ H12z rfl rfl; have H13 : Hp w w13 [(0, Asn.old w (fun _ => False)), (0, Asn.rd U8 A0 b.length b), (3, Asn.row k33 33 (.slice A1 lw.length c1) lw), (4, Asn.box g3 #[.int .i64 ts, .slice A1 lw.length c1] 24), (5, Asn.row k33 33 (.slice A2 lw.length c2) lw), (6, Asn.box g5 #[.int .i64 ts, .slice A2 lw.length c2] 24), (7, Asn.row k74 74 (.slice A3 lp.length c3) lp), (8, Asn.box g7 #[.int .i64 nm, .slice A3 lp.length c3, .bool fl] 27), (9, Asn.row k74 74 (.slice A4 lp.length c4) lp), (10, Asn.box g9 #[.int .i64 nm, .slice A4 lp.length c4, .bool fl] 27), (11, Asn.box g11 #[.int .i64 n0, .int .i64 n1, .int .i64 n2, .int .i64 n3, .int .i64 n4, .int .i64 n5, .int .i64 n6, .int .i64 n7] 31), (13, Asn.box g13 #[.int .i64 n0, .int .i64 n1, .int .i64 n2, .int .i64 n3, .int .i64 n4, .int .i64 n5, .int .i64 n6, .int .i64 n7] 31)] := HB.same hb1; clear HB H12z hb1; have p0 := H13.cell 3 rfl 0 (v := .int .i64 ts) rfl; have p1 := H13.cell 3 rfl 1 (v := .slice A1 lw.length c1) rfl; have q0 := H13.cell 5 rfl 0 (v := .int .i64 ts) rfl; have q1 := H13.cell 5 rfl 1 (v := .slice A2 lw.length c2) rfl; have r0 := H13.cell 7 rfl 0 (v := .int .i64 nm) rfl; have r1 := H13.cell 7 rfl 1 (v := .slice A3 lp.length c3) rfl; have r2 := H13.cell 7 rfl 2 (v := .bool fl) rfl; have s0 := H13.cell 9 rfl 0 (v := .int .i64 nm) rfl; have s1 := H13.cell 9 rfl 1 (v := .slice A4 lp.length c4) rfl; have s2 := H13.cell 9 rfl 2 (v := .bool fl) rfl; have t0 := H13.cell 10 rfl 0 (v := .int .i64 n0) rfl; have t1 := H13.cell 10 rfl 1 (v := .int .i64 n1) rfl; have t2 := H13.cell 10 rfl 2 (v := .int .i64 n2) rfl; have t3 := H13.cell 10 rfl 3 (v := .int .i64 n3) rfl; have t4 := H13.cell 10 rfl 4 (v := .int .i64 n4) rfl; have t5 := H13.cell 10 rfl 5 (v := .int .i64 n5) rfl; have t6 := H13.cell 10 rfl 6 (v := .int .i64 n6) rfl; have t7 := H13.cell 10 rfl 7 (v := .int .i64 n7) rfl; have u0 := H13.cell 11 rfl 0 (v := .int .i64 n0) rfl; have u1 := H13.cell 11 rfl 1 (v := .int .i64 n1) rfl; have u2 := H13.cell 11 rfl 2 (v := .int .i64 n2) rfl; have u3 := H13.cell 11 rfl 3 (v := .int .i64 n3) rfl; have u4 := H13.cell 11 rfl 4 (v := .int .i64 n4) rfl; have u5 := H13.cell 11 rfl 5 (v := .int .i64 n5) rfl; have u6 := H13.cell 11 rfl 6 (v := .int .i64 n6) rfl; have u7 := H13.cell 11 rfl 7 (v := .int .i64 n7) rfl; obtain ⟨ks, hks⟩ := (sameC_ev ts lw (H13.row_C 2 rfl).2.2.2.1).rounds; obtain ⟨kt, hkt⟩ := (sameK_ev nm lp fl (H13.row_C 6 rfl).2.2.2.1).rounds; have HKS := Aside0.mk hks; have HKT := Aside0.mk hkt; clear hks hkt)
    | (go_at_call 35; refine (cressetref03_SameCommit.calls ks ts A1 c1 lw ts A2 c2 lw true _ (H13.row_C 2 rfl).2.2 (H13.row_C 2 rfl).2.1 (H13.row_C 4 rfl).2.2 (H13.row_C 4 rfl).2.1 HKS.out).mono ?_; rintro e w14 ⟨rfl, hb1⟩; clear p0 p1 q0 q1 r0 r1 r2 s0 s1 s2 t0 u0 t1 u1 t2 u2 t3 u3 t4 u4 t5 u5 t6 u6 t7 u7; have H14 := H13.same hb1; clear H13 hb1; have p0 := H14.cell 3 rfl 0 (v := .int .i64 ts) rfl; have p1 := H14.cell 3 rfl 1 (v := .slice A1 lw.length c1) rfl; have q0 := H14.cell 5 rfl 0 (v := .int .i64 ts) rfl; have q1 := H14.cell 5 rfl 1 (v := .slice A2 lw.length c2) rfl; have r0 := H14.cell 7 rfl 0 (v := .int .i64 nm) rfl; have r1 := H14.cell 7 rfl 1 (v := .slice A3 lp.length c3) rfl; have r2 := H14.cell 7 rfl 2 (v := .bool fl) rfl; have s0 := H14.cell 9 rfl 0 (v := .int .i64 nm) rfl; have s1 := H14.cell 9 rfl 1 (v := .slice A4 lp.length c4) rfl; have s2 := H14.cell 9 rfl 2 (v := .bool fl) rfl; have t0 := H14.cell 10 rfl 0 (v := .int .i64 n0) rfl; have t1 := H14.cell 10 rfl 1 (v := .int .i64 n1) rfl; have t2 := H14.cell 10 rfl 2 (v := .int .i64 n2) rfl; have t3 := H14.cell 10 rfl 3 (v := .int .i64 n3) rfl; have t4 := H14.cell 10 rfl 4 (v := .int .i64 n4) rfl; have t5 := H14.cell 10 rfl 5 (v := .int .i64 n5) rfl; have t6 := H14.cell 10 rfl 6 (v := .int .i64 n6) rfl; have t7 := H14.cell 10 rfl 7 (v := .int .i64 n7) rfl; have u0 := H14.cell 11 rfl 0 (v := .int .i64 n0) rfl; have u1 := H14.cell 11 rfl 1 (v := .int .i64 n1) rfl; have u2 := H14.cell 11 rfl 2 (v := .int .i64 n2) rfl; have u3 := H14.cell 11 rfl 3 (v := .int .i64 n3) rfl; have u4 := H14.cell 11 rfl 4 (v := .int .i64 n4) rfl; have u5 := H14.cell 11 rfl 5 (v := .int .i64 n5) rfl; have u6 := H14.cell 11 rfl 6 (v := .int .i64 n6) rfl; have u7 := H14.cell 11 rfl 7 (v := .int .i64 n7) rfl)
    | (go_at_call 34; refine (cressetref03_SameChunk.calls kt nm A3 c3 lp fl nm A4 c4 lp fl true _ (H14.row_C 6 rfl).2.2 (H14.row_C 6 rfl).2.1 (H14.row_C 8 rfl).2.2 (H14.row_C 8 rfl).2.1 HKT.out).mono ?_; rintro e w15 ⟨rfl, hb1⟩; clear p0 p1 q0 q1 r0 r1 r2 s0 s1 s2 t0 u0 t1 u1 t2 u2 t3 u3 t4 u4 t5 u5 t6 u6 t7 u7; have H15 := H14.same hb1; clear H14 hb1; have p0 := H15.cell 3 rfl 0 (v := .int .i64 ts) rfl; have p1 := H15.cell 3 rfl 1 (v := .slice A1 lw.length c1) rfl; have q0 := H15.cell 5 rfl 0 (v := .int .i64 ts) rfl; have q1 := H15.cell 5 rfl 1 (v := .slice A2 lw.length c2) rfl; have r0 := H15.cell 7 rfl 0 (v := .int .i64 nm) rfl; have r1 := H15.cell 7 rfl 1 (v := .slice A3 lp.length c3) rfl; have r2 := H15.cell 7 rfl 2 (v := .bool fl) rfl; have s0 := H15.cell 9 rfl 0 (v := .int .i64 nm) rfl; have s1 := H15.cell 9 rfl 1 (v := .slice A4 lp.length c4) rfl; have s2 := H15.cell 9 rfl 2 (v := .bool fl) rfl; have t0 := H15.cell 10 rfl 0 (v := .int .i64 n0) rfl; have t1 := H15.cell 10 rfl 1 (v := .int .i64 n1) rfl; have t2 := H15.cell 10 rfl 2 (v := .int .i64 n2) rfl; have t3 := H15.cell 10 rfl 3 (v := .int .i64 n3) rfl; have t4 := H15.cell 10 rfl 4 (v := .int .i64 n4) rfl; have t5 := H15.cell 10 rfl 5 (v := .int .i64 n5) rfl; have t6 := H15.cell 10 rfl 6 (v := .int .i64 n6) rfl; have t7 := H15.cell 10 rfl 7 (v := .int .i64 n7) rfl; have u0 := H15.cell 11 rfl 0 (v := .int .i64 n0) rfl; have u1 := H15.cell 11 rfl 1 (v := .int .i64 n1) rfl; have u2 := H15.cell 11 rfl 2 (v := .int .i64 n2) rfl; have u3 := H15.cell 11 rfl 3 (v := .int .i64 n3) rfl; have u4 := H15.cell 11 rfl 4 (v := .int .i64 n4) rfl; have u5 := H15.cell 11 rfl 5 (v := .int .i64 n5) rfl; have u6 := H15.cell 11 rfl 6 (v := .int .i64 n6) rfl; have u7 := H15.cell 11 rfl 7 (v := .int .i64 n7) rfl))
  go_ret
  exact ⟨rfl, H15.below 0 rfl (fun _ h => h)⟩
theorem RecordReads : cressetlaw03_RecordReads.Pure := by
  intro A0 c0 b w hC hc h0
  exact reads_go A0 c0 b w hC hc (Go.Proofs.Ytkcdmoghnoodmaa.Cod.Bytes.of h0.2.2) (by have := h0.2.1; omega)
end Go.Proofs.Ytkcdmoghnoodmaa.Tk
namespace Go.Proofs.Ytkcdmoghnoodmaa.Pure
open Go.RowKit Go.Proofs.Ytkcdmoghnoodmaa.B

theorem RecordReads : cressetlaw03_RecordReads.Pure := Tk.RecordReads
end Go.Proofs.Ytkcdmoghnoodmaa.Pure

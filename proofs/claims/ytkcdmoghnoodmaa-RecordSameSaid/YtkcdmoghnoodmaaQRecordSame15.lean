/-
Of the row RecordSame: printed walks and plain laws, merged (wip/claim2.py).
-/
import Derived.Test.YtkcdmoghnoodmaaQRecordSame3
import Derived.Test.YtkcdmoghnoodmaaQRecordSame6
import Derived.Test.YtkcdmoghnoodmaaQRecordSame7
import Derived.Test.YtkcdmoghnoodmaaQRecordSame8
import Derived.Test.YtkcdmoghnoodmaaQRecordSame11
import Derived.Test.YtkcdmoghnoodmaaQRecordSame12
import Derived.Test.YtkcdmoghnoodmaaQRecordSame14
set_option linter.unusedVariables false
set_option linter.unusedSimpArgs false
namespace Go.Proofs.Ytkcdmoghnoodmaa.Tk
open Go.RowKit Go.Proofs.Ytkcdmoghnoodmaa.B Go.Proofs.YtkcdmoghnoodmaaW.PrintWords Go.Proofs.YtkcdmoghnoodmaaW.PrintLast Go.Proofs.YtkcdmoghnoodmaaW.PrintMore Go.Proofs.YtkcdmoghnoodmaaW.Mine Go.Proofs.YtkcdmoghnoodmaaW.Hp
open Go.Proofs.Ytkcdmoghnoodmaa.Cod Go.Proofs.Ytkcdmoghnoodmaa.Rd Go.Proofs.Ytkcdmoghnoodmaa.Wr

theorem P_zero {l : List Int} {n s e : Int} (h : P l = (n, s, e)) (he : e ≠ 0) : n = 0 ∧ s = 0 := by
  cases l with
  | nil =>
    simp only [P, Prod.mk.injEq] at h
    exact ⟨h.1.symm, h.2.1.symm⟩
  | cons a t =>
    simp only [P, par, fin] at h
    (repeat' split at h) <;> (simp only [Prod.mk.injEq] at h; obtain ⟨rfl, rfl, rfl⟩ := h; first | exact ⟨rfl, rfl⟩ | exact absurd rfl he)
theorem P_in {l : List Int} (hl : Bytes l) {n s e : Int} (h : P l = (n, s, e)) : 0 ≤ s ∧ s ≤ l.length := by
  by_cases he : e = 0
  · subst he
    obtain ⟨_, h1, h2, _⟩ := P_ok hl h
    omega
  · obtain ⟨_, rfl⟩ := P_zero h he
    omega
theorem F_in {l : List Int} (hl : Bytes l) {n : Bool} {s e : Int} (h : F l = (n, s, e)) : (0 ≤ s ∧ s ≤ l.length) ∧ (e ≠ 0 → n = false ∧ s = 0) := by
  obtain ⟨⟨n0, s0, e0⟩, hP⟩ : ∃ q, P l = q := ⟨_, rfl⟩
  have hi := P_in hl hP
  unfold F at h
  rw [hP] at h
  dsimp only at h hi
  (repeat' split at h) <;> (simp only [Prod.mk.injEq] at h; obtain ⟨rfl, rfl, rfl⟩ := h; exact ⟨by omega, fun he => by first | exact ⟨rfl, rfl⟩ | exact absurd rfl he⟩)
def TB (l : List Int) : List Int × Int × Int :=
  if (P l).2.2 = 0 then (if (P l).1 < 0 then ([], 0, 11) else if (P l).1 > (l.length : Int) - (P l).2.1 then ([], 0, 10) else ((l.take ((P l).2.1 + (P l).1).toNat).drop (P l).2.1.toNat, (P l).2.1 + (P l).1, 0)) else ([], 0, (P l).2.2)
theorem T_TB (l : List Int) : T l = (strOfNums (TB l).1, (TB l).2.1, (TB l).2.2) := by
  unfold T TB
  (repeat' split) <;> rfl
theorem TB_in {l : List Int} (hl : Bytes l) {t : List Int} {s e : Int} (h : TB l = (t, s, e)) : (0 ≤ s ∧ s ≤ l.length) ∧ (e ≠ 0 → t = [] ∧ s = 0) := by
  obtain ⟨⟨n0, s0, e0⟩, hP⟩ : ∃ q, P l = q := ⟨_, rfl⟩
  have hi := P_in hl hP
  unfold TB at h
  rw [hP] at h
  dsimp only at h hi
  (repeat' split at h) <;> (simp only [Prod.mk.injEq] at h; obtain ⟨rfl, rfl, rfl⟩ := h; exact ⟨by omega, fun he => by first | exact ⟨rfl, rfl⟩ | exact absurd rfl he⟩)
theorem parsebytes_ev (l : List Int) (hl : Bytes l) (hn : l.length ≤ 140737488351232) : Ev (fun q => cressetref01_ParseBytes.f q l) (TB l) := by
  unfold cressetref01_ParseBytes.f TB
  refine Ev.bind (parse_ev l hl (by omega)) ?_
  generalize hP : P l = p
  obtain ⟨n, s, e⟩ := p
  simp only
  by_cases c : e = 0
  · subst c
    obtain ⟨⟨n0, n1⟩, hs, hle, _⟩ := P_ok hl hP
    simp only [eq_self, if_true]
    by_cases c1 : n < 0
    · simp only [if_pos c1]
      exact Ev.now _
    · simp only [if_neg c1]
      rw [wr1 (x := (l.length : Int) - s) (by omega) (by omega)]
      by_cases c2 : n > (l.length : Int) - s
      · simp only [if_pos c2]
        exact Ev.now _
      · simp only [if_neg c2]
        refine Ev.congr (f := fun _ => some _) (fun k => ?_) (Ev.now _)
        rw [wr1 (x := s + n) (by omega) (by omega), if_pos (by omega), if_pos (by omega), if_pos (by omega), if_pos (by simp; omega)]
        rfl
  · simp only [if_neg c]
    exact Ev.now _
theorem refflag_ev (l : List Int) (hl : Bytes l) (hn : l.length ≤ 9223372036854775000) : Ev (fun q => cressetref01_ParseFlag.f q l) (F l) := by
  unfold cressetref01_ParseFlag.f F
  refine Ev.bind (parse_ev l hl hn) ?_
  generalize hP : P l = p
  obtain ⟨n, s, e⟩ := p
  simp only
  by_cases c : e = 0
  · subst c
    simp only [eq_self, if_true]
    by_cases c1 : n = 0
    · rw [if_pos (.inl c1)]
      refine Ev.congr (fun k => if_pos c1) ?_
      exact Ev.step (f := fun _ => some _) (fun k => by simp only [cressetref01_ParseFlag.j0]; rfl) (Ev.now _)
    · refine Ev.congr (fun k => if_neg c1) ?_
      by_cases c2 : n = 1
      · rw [if_pos (.inr c2)]
        subst c2
        exact Ev.step (f := fun _ => some _) (fun k => by simp only [cressetref01_ParseFlag.j0]; rfl) (Ev.now _)
      · rw [if_neg (by omega), bne_iff_ne.mpr c2]
        exact Ev.step (f := fun _ => some _) (fun k => by simp only [cressetref01_ParseFlag.j0]; rfl) (Ev.now _)
  · simp only [if_neg c]
    refine Ev.step (f := fun _ => some _) (fun k => ?_) (Ev.now _)
    simp only [cressetref01_ParseFlag.j0]
    rw [if_neg (by decide), if_neg c]
abbrev U8 : Kd Int := Kd.int .u8
def Leads (A : Option Addr) (xs : List Int) (A' : Option Addr) (ys : List Int) : Prop := ∀ W ok, Kd.F U8 W ok A xs.length xs → Kd.F U8 W ok A' ys.length ys
theorem leads_cut {A : Option Addr} {c : Nat} {xs : List Int} (hc : xs.length ≤ c) {s : Int} (h0 : 0 ≤ s) (h1 : s ≤ xs.length) : ∃ A', Leads A xs A' (xs.drop s.toNat) ∧ (xs.drop s.toNat).length ≤ c - s.toNat ∧ ∀ W : World, (Instr.slice 42 (.slice A xs.length c) (some (.int .i64 s)) none none).run Try.prog W = .ok (.slice A' (xs.drop s.toNat).length (c - s.toNat)) W := by
  obtain ⟨i0, hi0, _, hsz, _⟩ := info_parts info5
  have h := cut_from (P := Try.prog) 42 5 .i64 Try.underlying42 hi0 1 hsz A xs.length c s h0 (by omega)
  refine ⟨(if c = s.toNat then A else A.map (·.add (s.toNat * 1))), fun W ok hf => Kd.F_cut hf (by omega) hc, ?_, ?_⟩
  · rw [List.length_drop]; omega
  · intro W
    rw [h W, List.length_drop]
set_option maxHeartbeats 4000000 in
set_option maxRecDepth 100000 in
theorem rint_tr (rb : Nat) (A : Option Addr) (c : Nat) (xs : List Int) (hbx : Bytes xs) (hlx : xs.length ≤ 140737488351232) (hc : xs.length ≤ c) :
    Tr Try.prog 76 #[.pointer (some ⟨rb, 0, none⟩)] (Asn.rd U8 A xs.length xs) (Asn.box rb #[.slice A xs.length c] 95) (fun r => Asn.ex fun x : Option Addr × Nat => Asn.and (Asn.lift (r = .tuple #[.int .i64 (P xs).1, .int .i64 (P xs).2.2] ∧ (xs.drop (P xs).2.1.toNat).length ≤ x.2 ∧ Leads A xs x.1 (xs.drop (P xs).2.1.toNat))) (Asn.box rb #[.slice x.1 (xs.drop (P xs).2.1.toNat).length x.2] 95)) := by
  refine Tr.intro fun w U H => ?_
  obtain ⟨k, hk⟩ := (parse_ev xs hbx (by omega)).rounds
  obtain ⟨⟨n, s, e⟩, hP⟩ : ∃ q, P xs = q := ⟨_, rfl⟩
  rw [hP] at hk ⊢
  obtain ⟨hs0, hs1⟩ := P_in hbx hP
  obtain ⟨A', hld, hcl, hcut⟩ := leads_cut (A := A) hc hs0 hs1
  dsimp only
  generalize xs.drop s.toNat = ys at *
  generalize c - s.toNat = c' at *
  have z0 := H.cell 2 rfl 0 (v := .slice A xs.length c) rfl
  have u0 := H.unfrozen 2 rfl 0
  have HK := Aside0.mk hk
  clear hk hs0 hs1 hP
  go_enter Try.func76, Try.ntmps76
  go_wp2_with (go_at_call 87; refine (cressetref01_ParseInt.calls k A c xs n s e _ (H.reads 1 rfl) hc HK.out).mono ?_; rintro e' w1 ⟨rfl, ⟨nd, rfl⟩⟩)
  go_ret2
  have H1 := (H.drewN nd).box_set 2 rfl rfl 0 (.slice A' ys.length c')
  exact ⟨_, rfl, (H1.imp 2 (A' := Asn.ex fun x : Option Addr × Nat => Asn.and (Asn.lift (Value.tuple #[.int .i64 n, .int .i64 e] = Value.tuple #[.int .i64 n, .int .i64 e] ∧ ys.length ≤ x.2 ∧ Leads A xs x.1 ys)) (Asn.box rb #[.slice x.1 ys.length x.2] 95)) rfl (fun S h => ⟨(A', c'), ⟨rfl, hcl, hld⟩, h⟩)).keep [0, 2]⟩
set_option maxHeartbeats 4000000 in
set_option maxRecDepth 100000 in
theorem rflag_tr (rb : Nat) (A : Option Addr) (c : Nat) (xs : List Int) (hbx : Bytes xs) (hlx : xs.length ≤ 140737488351232) (hc : xs.length ≤ c) :
    Tr Try.prog 82 #[.pointer (some ⟨rb, 0, none⟩)] (Asn.rd U8 A xs.length xs) (Asn.box rb #[.slice A xs.length c] 95) (fun r => Asn.ex fun x : Option Addr × Nat => Asn.and (Asn.lift (r = .tuple #[.bool (F xs).1, .int .i64 (F xs).2.2] ∧ (xs.drop (F xs).2.1.toNat).length ≤ x.2 ∧ Leads A xs x.1 (xs.drop (F xs).2.1.toNat))) (Asn.box rb #[.slice x.1 (xs.drop (F xs).2.1.toNat).length x.2] 95)) := by
  refine Tr.intro fun w U H => ?_
  obtain ⟨k, hk⟩ := (refflag_ev xs hbx (by omega)).rounds
  obtain ⟨⟨n, s, e⟩, hP⟩ : ∃ q, F xs = q := ⟨_, rfl⟩
  rw [hP] at hk ⊢
  obtain ⟨hs0, hs1⟩ := (F_in hbx hP).1
  obtain ⟨A', hld, hcl, hcut⟩ := leads_cut (A := A) hc hs0 hs1
  dsimp only
  generalize xs.drop s.toNat = ys at *
  generalize c - s.toNat = c' at *
  have z0 := H.cell 2 rfl 0 (v := .slice A xs.length c) rfl
  have u0 := H.unfrozen 2 rfl 0
  have HK := Aside0.mk hk
  clear hk hs0 hs1 hP
  go_enter Try.func82, Try.ntmps82
  go_wp2_with (go_at_call 88; refine (cressetref01_ParseFlag.calls k A c xs n s e _ (H.reads 1 rfl) hc HK.out).mono ?_; rintro e' w1 ⟨rfl, ⟨nd, rfl⟩⟩)
  go_ret2
  have H1 := (H.drewN nd).box_set 2 rfl rfl 0 (.slice A' ys.length c')
  exact ⟨_, rfl, (H1.imp 2 (A' := Asn.ex fun x : Option Addr × Nat => Asn.and (Asn.lift (Value.tuple #[.bool n, .int .i64 e] = Value.tuple #[.bool n, .int .i64 e] ∧ ys.length ≤ x.2 ∧ Leads A xs x.1 ys)) (Asn.box rb #[.slice x.1 ys.length x.2] 95)) rfl (fun S h => ⟨(A', c'), ⟨rfl, hcl, hld⟩, h⟩)).keep [0, 2]⟩
set_option maxHeartbeats 4000000 in
set_option maxRecDepth 100000 in
theorem rbytes_tr (rb : Nat) (A : Option Addr) (c : Nat) (xs : List Int) (hbx : Bytes xs) (hlx : xs.length ≤ 140737488351232) (hc : xs.length ≤ c) :
    Tr Try.prog 83 #[.pointer (some ⟨rb, 0, none⟩)] (Asn.rd U8 A xs.length xs) (Asn.box rb #[.slice A xs.length c] 95) (fun r => Asn.ex fun x : Option Addr × Nat × Option Addr × Nat => Asn.and (Asn.lift (r = .tuple #[.slice x.2.2.1 (TB xs).1.length x.2.2.2, .int .i64 (TB xs).2.2] ∧ (xs.drop (TB xs).2.1.toNat).length ≤ x.2.1 ∧ Leads A xs x.1 (xs.drop (TB xs).2.1.toNat))) (Asn.star (Asn.box rb #[.slice x.1 (xs.drop (TB xs).2.1.toNat).length x.2.1] 95) (Asn.row U8 5 (.slice x.2.2.1 (TB xs).1.length x.2.2.2) (TB xs).1))) := by
  refine Tr.intro fun w U H => ?_
  obtain ⟨k, hk⟩ := (parsebytes_ev xs hbx (by omega)).rounds
  obtain ⟨⟨n, s, e⟩, hP⟩ : ∃ q, TB xs = q := ⟨_, rfl⟩
  rw [hP] at hk ⊢
  obtain ⟨hs0, hs1⟩ := (TB_in hbx hP).1
  obtain ⟨A', hld, hcl, hcut⟩ := leads_cut (A := A) hc hs0 hs1
  dsimp only
  generalize xs.drop s.toNat = ys at *
  generalize c - s.toNat = c' at *
  have z0 := H.cell 2 rfl 0 (v := .slice A xs.length c) rfl
  have HK := Aside0.mk hk
  clear hk hs0 hs1 hP
  go_enter Try.func83, Try.ntmps83
  go_wp2_with (go_at_call 89; refine (cressetref01_ParseBytes.calls k A c xs n s e _ (H.reads 1 rfl) hc HK.out).mono ?_; rintro e' w1 ⟨v1, rfl, hR, hb⟩; have H1 := H.made 3 hb hR; obtain ⟨Ab, cb, rfl⟩ := Kd.R_slice hR; clear hR hb; have y0 := H1.cell 2 rfl 0 (v := .slice A xs.length c) rfl; have u0 := H1.unfrozen 2 rfl 0)
  go_ret2
  have H2 := H1.box_set 2 rfl rfl 0 (.slice A' ys.length c')
  have H3 := H2.join 2 3 rfl rfl (by decide) rfl rfl
  exact ⟨_, rfl, (H3.imp 2 (A' := Asn.ex fun x : Option Addr × Nat × Option Addr × Nat => Asn.and (Asn.lift (Value.tuple #[.slice Ab n.length cb, .int .i64 e] = Value.tuple #[.slice x.2.2.1 n.length x.2.2.2, .int .i64 e] ∧ ys.length ≤ x.2.1 ∧ Leads A xs x.1 ys)) (Asn.star (Asn.box rb #[.slice x.1 ys.length x.2.1] 95) (Asn.row U8 5 (.slice x.2.2.1 n.length x.2.2.2) n))) rfl (fun S h => ⟨(A', c', Ab, cb), ⟨rfl, hcl, hld⟩, h⟩)).keep [0, 2]⟩
def isTk (p : Nat) (A0 : Option Addr) (b : List Int) (a e : Int) : Asn := Asn.ex fun x : Nat × Option Addr × Nat => Asn.and (Asn.lift ((dr b a).length ≤ x.2.2 ∧ Leads A0 b x.2.1 (dr b a))) (Asn.star (Asn.box p #[.pointer (some ⟨x.1, 0, none⟩), .int .i64 e] 97) (Asn.box x.1 #[.slice x.2.1 (dr b a).length x.2.2] 95))
section
variable {w0 w : World} {U : Nat → Prop} {X : Asn} {p rb : Nat} {A0 A : Option Addr} {c : Nat} {b : List Int} {a e : Int} {r : Value}
theorem tk_open (H : Hp w0 w [(0, Asn.old w0 U), (0, Asn.rd U8 A0 b.length b), (1, isTk p A0 b a e)]) : ∃ rb A c, (dr b a).length ≤ c ∧ Leads A0 b A (dr b a) ∧ Hp w0 w [(0, Asn.old w0 U), (0, Asn.rd U8 A0 b.length b), (1, Asn.box p #[.pointer (some ⟨rb, 0, none⟩), .int .i64 e] 97), (2, Asn.box rb #[.slice A (dr b a).length c] 95), (0, Asn.rd U8 A (dr b a).length (dr b a))] := by
  obtain ⟨⟨rb, A, c⟩, H1⟩ := H.open_ 2 rfl
  obtain ⟨hc, hl⟩ := H1.fact 2 rfl (fun S h => h.1)
  have H2 := (H1.imp 2 (A' := Asn.star (Asn.box p #[.pointer (some ⟨rb, 0, none⟩), .int .i64 e] 97) (Asn.box rb #[.slice A (dr b a).length c] 95)) rfl (fun S h => h.2)).split 2 2 rfl rfl (by decide)
  exact ⟨rb, A, c, hc, hl, (H2.keep [0, 1, 2, 3, 1]).imp 4 rfl (fun S h => hl _ _ h)⟩
theorem tk_shut (H : Hp w0 w [(0, Asn.old w0 U), (0, X), (1, Asn.box p #[.pointer (some ⟨rb, 0, none⟩), .int .i64 e] 97), (2, Asn.box rb #[.slice A (dr b a).length c] 95)]) (hc : (dr b a).length ≤ c) (hl : Leads A0 b A (dr b a)) : Hp w0 w [(0, Asn.old w0 U), (1, Asn.and (Asn.lift (r = r)) (isTk p A0 b a e))] :=
  ((H.join 2 3 rfl rfl (by decide) rfl rfl).imp 2 (A' := Asn.and (Asn.lift (r = r)) (isTk p A0 b a e)) rfl (fun S h => ⟨rfl, (rb, A, c), ⟨hc, hl⟩, h⟩)).keep [0, 2]
end
theorem Leads.trans {A0 A A' : Option Addr} {b xs ys : List Int} (h : Leads A0 b A xs) (k : Leads A xs A' ys) : Leads A0 b A' ys := fun W ok hf => k W ok (h W ok hf)
theorem dr_le {b : List Int} (hb : Bytes b) (hl : b.length ≤ 140737488351232) {a : Int} (ha : In b a) : (dr b a).length ≤ 140737488351232 := by have := dr_len ha; have := ha.1; omega
theorem RN_eq {b : List Int} (hb : Bytes b) (hl : b.length ≤ 140737488351232) {a : Int} (ha : In b a) : RN b a 0 = ((P (dr b a)).1, a + (P (dr b a)).2.1, (P (dr b a)).2.2) := by
  unfold RN
  rw [if_pos rfl]
  obtain ⟨⟨n, s, e⟩, hP⟩ : ∃ q, P (dr b a) = q := ⟨_, rfl⟩
  rw [hP]
  by_cases he : e = 0
  · subst he; rw [if_pos rfl]
  · obtain ⟨rfl, rfl⟩ := P_zero hP he
    rw [if_neg he]; simp
theorem RF_eq {b : List Int} (hb : Bytes b) (hl : b.length ≤ 140737488351232) {a : Int} (ha : In b a) : RF b a 0 = ((F (dr b a)).1, a + (F (dr b a)).2.1, (F (dr b a)).2.2) := by
  unfold RF
  rw [if_pos rfl]
  obtain ⟨⟨n, s, e⟩, hP⟩ : ∃ q, F (dr b a) = q := ⟨_, rfl⟩
  rw [hP]
  by_cases he : e = 0
  · subst he; rw [if_pos rfl]
  · obtain ⟨rfl, rfl⟩ := (F_in (dr_bytes hb a) hP).2 he
    rw [if_neg he]; simp
theorem RT_eq {b : List Int} (hb : Bytes b) (hl : b.length ≤ 140737488351232) {a : Int} (ha : In b a) : RT b a 0 = (strOfNums (TB (dr b a)).1, a + (TB (dr b a)).2.1, (TB (dr b a)).2.2) := by
  unfold RT
  rw [if_pos rfl, T_TB]
  obtain ⟨⟨n, s, e⟩, hP⟩ : ∃ q, TB (dr b a) = q := ⟨_, rfl⟩
  rw [hP]
  by_cases he : e = 0
  · subst he; rw [if_pos rfl]
  · obtain ⟨rfl, rfl⟩ := (TB_in (dr_bytes hb a) hP).2 he
    rw [if_neg he]; simp [strOfNums]
section
variable {b : List Int} (hb : Bytes b) (hl : b.length ≤ 140737488351232) {p : Nat} {A0 : Option Addr} {a : Int} (ha : In b a)
include hb hl ha
set_option maxHeartbeats 4000000 in
set_option maxRecDepth 100000 in
theorem num_tr (e : Int) : Tr Try.prog 59 #[.pointer (some ⟨p, 0, none⟩)] (Asn.rd U8 A0 b.length b) (isTk p A0 b a e) (fun r => Asn.and (Asn.lift (r = .int .i64 (RN b a e).1)) (isTk p A0 b (RN b a e).2.1 (RN b a e).2.2)) := by
  refine Tr.intro fun w U H0 => ?_
  obtain ⟨rb, A, c, hc, hld, H⟩ := tk_open H0
  clear H0
  have z0 := H.cell 2 rfl 0 rfl
  have z1 := H.cell 2 rfl 1 (v := .int .i64 e) rfl
  by_cases he : e = 0
  · subst he
    rw [RN_eq hb hl ha]
    have hdl := dr_le hb hl ha
    obtain ⟨⟨n, s, e1⟩, hP⟩ : ∃ q, P (dr b a) = q := ⟨_, rfl⟩
    have hs := P_in (dr_bytes hb a) hP
    have hd : (dr b a).drop s.toNat = dr b (a + s) := (dr_dr ha.1 hs.1).symm
    have HT := rint_tr rb A c (dr b a) (dr_bytes hb a) hdl hc
    rw [hP] at HT ⊢
    dsimp only at HT ⊢
    rw [hd] at HT
    have HTA := Aside0.mk HT
    clear HT hP hd hs
    go_enter Try.func59, Try.ntmps59
    go_wp2_with (go_at_call 76; refine (H.call HTA.out 3 rfl rfl (fun lab h => (Asn.rd U8 A _ _).mono (h.get (p := 4) rfl) (fun k _ hk => by have h2 : lab k = 0 := hk; omega))).mono ?_; rintro e' w1 ⟨r, rfl, H1⟩; obtain ⟨⟨A', c'⟩, H2⟩ := H1.open_ 3 rfl; obtain ⟨rfl, hc', hl'⟩ := H2.fact 3 rfl (fun S h => h.1); have H3 := H2.imp 3 (A' := Asn.box rb #[.slice A' (dr b (a + s)).length c'] 95) rfl (fun S h => h.2); have u1 := H3.unfrozen 2 rfl 1; have y1 := H3.cell 2 rfl 1 (v := .int .i64 0) rfl)
    go_ret
    exact ⟨_, rfl, tk_shut ((H3.box_set 2 rfl rfl 1 (.int .i64 e1)).keep [0, 1, 2, 3]) hc' (hld.trans hl')⟩
  · have hR : RN b a e = (0, a, e) := by unfold RN; rw [if_neg he]
    rw [hR]
    have q1 : (e == 0) = false := beq_eq_false_iff_ne.mpr he
    have q2 : (e != 0) = true := bne_iff_ne.mpr he
    go_enter Try.func59, Try.ntmps59
    go_wp2
    go_ret
    exact ⟨_, rfl, tk_shut (H.keep [0, 1, 2, 3]) hc hld⟩
set_option maxHeartbeats 4000000 in
set_option maxRecDepth 100000 in
theorem flag_tr (e : Int) : Tr Try.prog 69 #[.pointer (some ⟨p, 0, none⟩)] (Asn.rd U8 A0 b.length b) (isTk p A0 b a e) (fun r => Asn.and (Asn.lift (r = .bool (RF b a e).1)) (isTk p A0 b (RF b a e).2.1 (RF b a e).2.2)) := by
  refine Tr.intro fun w U H0 => ?_
  obtain ⟨rb, A, c, hc, hld, H⟩ := tk_open H0
  clear H0
  have z0 := H.cell 2 rfl 0 rfl
  have z1 := H.cell 2 rfl 1 (v := .int .i64 e) rfl
  by_cases he : e = 0
  · subst he
    rw [RF_eq hb hl ha]
    have hdl := dr_le hb hl ha
    obtain ⟨⟨n, s, e1⟩, hP⟩ : ∃ q, F (dr b a) = q := ⟨_, rfl⟩
    have hs := (F_in (dr_bytes hb a) hP).1
    have hd : (dr b a).drop s.toNat = dr b (a + s) := (dr_dr ha.1 hs.1).symm
    have HT := rflag_tr rb A c (dr b a) (dr_bytes hb a) hdl hc
    rw [hP] at HT ⊢
    dsimp only at HT ⊢
    rw [hd] at HT
    have HTA := Aside0.mk HT
    clear HT hP hd hs
    go_enter Try.func69, Try.ntmps69
    go_wp2_with (go_at_call 82; refine (H.call HTA.out 3 rfl rfl (fun lab h => (Asn.rd U8 A _ _).mono (h.get (p := 4) rfl) (fun k _ hk => by have h2 : lab k = 0 := hk; omega))).mono ?_; rintro e' w1 ⟨r, rfl, H1⟩; obtain ⟨⟨A', c'⟩, H2⟩ := H1.open_ 3 rfl; obtain ⟨rfl, hc', hl'⟩ := H2.fact 3 rfl (fun S h => h.1); have H3 := H2.imp 3 (A' := Asn.box rb #[.slice A' (dr b (a + s)).length c'] 95) rfl (fun S h => h.2); have u1 := H3.unfrozen 2 rfl 1; have y1 := H3.cell 2 rfl 1 (v := .int .i64 0) rfl)
    go_ret
    exact ⟨_, rfl, tk_shut ((H3.box_set 2 rfl rfl 1 (.int .i64 e1)).keep [0, 1, 2, 3]) hc' (hld.trans hl')⟩
  · have hR : RF b a e = (false, a, e) := by unfold RF; rw [if_neg he]
    rw [hR]
    have q1 : (e == 0) = false := beq_eq_false_iff_ne.mpr he
    have q2 : (e != 0) = true := bne_iff_ne.mpr he
    go_enter Try.func69, Try.ntmps69
    go_wp2
    go_ret
    exact ⟨_, rfl, tk_shut (H.keep [0, 1, 2, 3]) hc hld⟩
set_option maxHeartbeats 4000000 in
set_option maxRecDepth 100000 in
theorem text_tr (e : Int) : Tr Try.prog 70 #[.pointer (some ⟨p, 0, none⟩)] (Asn.rd U8 A0 b.length b) (isTk p A0 b a e) (fun r => Asn.and (Asn.lift (r = .string (RT b a e).1)) (isTk p A0 b (RT b a e).2.1 (RT b a e).2.2)) := by
  refine Tr.intro fun w U H0 => ?_
  obtain ⟨rb, A, c, hc, hld, H⟩ := tk_open H0
  clear H0
  have z0 := H.cell 2 rfl 0 rfl
  have z1 := H.cell 2 rfl 1 (v := .int .i64 e) rfl
  by_cases he : e = 0
  · subst he
    rw [RT_eq hb hl ha]
    have hdl := dr_le hb hl ha
    obtain ⟨⟨n, s, e1⟩, hP⟩ : ∃ q, TB (dr b a) = q := ⟨_, rfl⟩
    have hs := (TB_in (dr_bytes hb a) hP).1
    have hd : (dr b a).drop s.toNat = dr b (a + s) := (dr_dr ha.1 hs.1).symm
    have HT := rbytes_tr rb A c (dr b a) (dr_bytes hb a) hdl hc
    rw [hP] at HT ⊢
    dsimp only at HT ⊢
    rw [hd] at HT
    have HTA := Aside0.mk HT
    clear HT hP hd hs
    go_enter Try.func70, Try.ntmps70
    go_wp2_with (go_at_call 83; refine (H.call HTA.out 3 rfl rfl (fun lab h => (Asn.rd U8 A _ _).mono (h.get (p := 4) rfl) (fun k _ hk => by have h2 : lab k = 0 := hk; omega))).mono ?_; rintro e' w1 ⟨r, rfl, H1⟩; obtain ⟨⟨A', c', Ab, cb⟩, H2⟩ := H1.open_ 3 rfl; obtain ⟨rfl, hc', hl'⟩ := H2.fact 3 rfl (fun S h => h.1); have H3 := (H2.imp 3 (A' := Asn.star (Asn.box rb #[.slice A' (dr b (a + s)).length c'] 95) (Asn.row U8 5 (.slice Ab n.length cb) n)) rfl (fun S h => h.2)).split 3 5 rfl rfl (by decide); have u1 := H3.unfrozen 2 rfl 1; have y1 := H3.cell 2 rfl 1 (v := .int .i64 0) rfl; have H4 := H3.box_set 2 rfl rfl 1 (.int .i64 e1); have hcv := Kd.C_string (P := Try.prog) (A := Ab) (c := cb) Try.underlying42 Try.underlying5 Try.underlying9 (H4.row_C 5 rfl).2.2)
    go_ret
    exact ⟨_, rfl, tk_shut (H4.keep [0, 1, 2, 3]) hc' (hld.trans hl')⟩
  · have hR : RT b a e = (⟨#[]⟩, a, e) := by unfold RT; rw [if_neg he]
    rw [hR]
    have q1 : (e == 0) = false := beq_eq_false_iff_ne.mpr he
    have q2 : (e != 0) = true := bne_iff_ne.mpr he
    go_enter Try.func70, Try.ntmps70
    go_wp2
    go_ret
    exact ⟨_, rfl, tk_shut (H.keep [0, 1, 2, 3]) hc hld⟩
end
end Go.Proofs.Ytkcdmoghnoodmaa.Tk

set_option linter.unusedVariables false
set_option linter.unusedSimpArgs false
namespace Go.Proofs.Ytkcdmoghnoodmaa.Tk
open Go.RowKit Go.Proofs.Ytkcdmoghnoodmaa.B Go.Proofs.YtkcdmoghnoodmaaW.PrintWords Go.Proofs.YtkcdmoghnoodmaaW.PrintLast Go.Proofs.YtkcdmoghnoodmaaW.PrintMore Go.Proofs.YtkcdmoghnoodmaaW.Mine Go.Proofs.YtkcdmoghnoodmaaW.Hp
open Go.Proofs.Ytkcdmoghnoodmaa.Lib Go.Proofs.Ytkcdmoghnoodmaa.Cod Go.Proofs.Ytkcdmoghnoodmaa.Rd Go.Proofs.Ytkcdmoghnoodmaa.Wr

section
variable {b : List Int} (hb : Bytes b) (hl : b.length ≤ 140737488351232) {p : Nat} {A0 : Option Addr} {a : Int}
set_option maxHeartbeats 4000000 in
set_option maxRecDepth 100000 in
theorem fails_tr (e2 : Int) : Tr Try.prog 77 #[.pointer (some ⟨p, 0, none⟩), .int .i64 e2] (Asn.rd U8 A0 b.length b) (isTk p A0 b a 0) (fun _ => isTk p A0 b a e2) := by
  refine Tr.intro fun w U H0 => ?_
  obtain ⟨rb, A, c, hc, hld, H⟩ := tk_open H0
  clear H0
  have z1 := H.cell 2 rfl 1 (v := .int .i64 0) rfl
  have u1 := H.unfrozen 2 rfl 1
  go_enter Try.func77, Try.ntmps77
  go_wp2
  exact bodyPost_end (results_none rfl _ _ _) rfl ⟨_, rfl, (tk_shut (r := .bool true) ((H.box_set 2 rfl rfl 1 (.int .i64 e2)).keep [0, 1, 2, 3]) hc hld).imp 1 rfl (fun S h => h.2)⟩
include hb hl
set_option maxHeartbeats 4000000 in
set_option maxRecDepth 100000 in
theorem count_tr (ha : In b a) (e most : Int) (hm : 0 ≤ most) : Tr Try.prog 60 #[.pointer (some ⟨p, 0, none⟩), .int .i64 most] (Asn.rd U8 A0 b.length b) (isTk p A0 b a e) (fun r => Asn.and (Asn.lift (r = .int .i64 (RM b a e most).1)) (isTk p A0 b (RM b a e most).2.1 (RM b a e most).2.2)) := by
  refine Tr.intro fun w U H => ?_
  have HT := num_tr hb hl (p := p) (A0 := A0) ha e
  have hz : (RN b a e).2.2 ≠ 0 → (RN b a e).1 = 0 := by
    intro he
    by_cases h : e = 0
    · subst h
      rw [RN_eq hb hl ha] at he ⊢
      exact (P_zero (l := dr b a) rfl he).1
    · unfold RN; rw [if_neg h]
  unfold RM
  obtain ⟨⟨n, a1, e1⟩, hR⟩ : ∃ q, RN b a e = q := ⟨_, rfl⟩
  rw [hR] at HT hz ⊢
  dsimp only at HT hz ⊢
  have HTA := Aside0.mk HT
  clear HT hR
  by_cases he : e1 = 0
  · subst he
    rw [if_pos rfl]
    by_cases hbad : n < 0 ∨ n > most
    · rw [if_pos hbad]
      have hd : (decide (n < 0) = true) ∨ (decide (n < 0) = false ∧ decide (most < n) = true) := by
        by_cases h : n < 0
        · exact .inl (decide_eq_true h)
        · exact .inr ⟨decide_eq_false h, decide_eq_true (by omega)⟩
      clear hz hbad
      rcases hd with h1 | ⟨h1, h2⟩
      all_goals
        (go_enter Try.func60, Try.ntmps60
         go_wp2_with (first
           | (go_at_call 59; refine (H.call HTA.out 2 rfl rfl (fun lab h => (Asn.rd U8 A0 _ _).mono (h.get (p := 1) rfl) (fun k _ hk => by have h2 : lab k = 0 := hk; omega))).mono ?_; rintro e' w1 ⟨r, rfl, H1⟩; obtain rfl := H1.fact 2 rfl (fun S h => h.1); have H2 := H1.imp 2 (A' := isTk p A0 b a1 0) rfl (fun S h => h.2); clear H1)
           | (go_at_call 77; refine (H2.call (fails_tr 32) 2 rfl rfl (fun lab h => (Asn.rd U8 A0 _ _).mono (h.get (p := 1) rfl) (fun k _ hk => by have h2 : lab k = 0 := hk; omega))).mono ?_; rintro e' w2 ⟨r2, rfl, H3⟩; obtain ⟨rb, A, c, hc, hld, H5⟩ := tk_open (H3.keep [0, 1, 2]); have y1 := H5.cell 2 rfl 1 (v := .int .i64 32) rfl))
         go_ret
         exact ⟨_, rfl, tk_shut (H5.keep [0, 1, 2, 3]) hc hld⟩)
    · rw [if_neg hbad]
      have h1 : decide (n < 0) = false := decide_eq_false (by omega)
      have h2 : decide (most < n) = false := decide_eq_false (by omega)
      clear hz hbad
      go_enter Try.func60, Try.ntmps60
      go_wp2_with (go_at_call 59; refine (H.call HTA.out 2 rfl rfl (fun lab h => (Asn.rd U8 A0 _ _).mono (h.get (p := 1) rfl) (fun k _ hk => by have h2 : lab k = 0 := hk; omega))).mono ?_; rintro e' w1 ⟨r, rfl, H1⟩; obtain rfl := H1.fact 2 rfl (fun S h => h.1); have H2 := H1.imp 2 (A' := isTk p A0 b a1 0) rfl (fun S h => h.2); clear H1; obtain ⟨rb, A, c, hc, hld, H5⟩ := tk_open (H2.keep [0, 1, 2]); have y1 := H5.cell 2 rfl 1 (v := .int .i64 0) rfl)
      go_ret
      exact ⟨_, rfl, tk_shut (H5.keep [0, 1, 2, 3]) hc hld⟩
  · rw [if_neg he]
    obtain rfl := hz he
    have h2 : decide (most < 0) = false := decide_eq_false (by omega)
    have q1 : (e1 == 0) = false := beq_eq_false_iff_ne.mpr he
    have q2 : (e1 != 0) = true := bne_iff_ne.mpr he
    clear hz
    go_enter Try.func60, Try.ntmps60
    go_wp2_with (go_at_call 59; refine (H.call HTA.out 2 rfl rfl (fun lab h => (Asn.rd U8 A0 _ _).mono (h.get (p := 1) rfl) (fun k _ hk => by have h2 : lab k = 0 := hk; omega))).mono ?_; rintro e' w1 ⟨r, rfl, H1⟩; obtain rfl := H1.fact 2 rfl (fun S h => h.1); have H2 := H1.imp 2 (A' := isTk p A0 b a1 e1) rfl (fun S h => h.2); clear H1; obtain ⟨rb, A, c, hc, hld, H5⟩ := tk_open (H2.keep [0, 1, 2]); have y1 := H5.cell 2 rfl 1 (v := .int .i64 e1) rfl)
    go_ret
    exact ⟨_, rfl, tk_shut (H5.keep [0, 1, 2, 3]) hc hld⟩
set_option maxHeartbeats 8000000 in
set_option maxRecDepth 100000 in
theorem write_tr (ha : In b a) (e : Int) : Tr Try.prog 61 #[.pointer (some ⟨p, 0, none⟩)] (Asn.rd U8 A0 b.length b) (isTk p A0 b a e) (fun r => Asn.and (Asn.lift (r = .agg #[.string (RW b a e).1.f0, .string (RW b a e).1.f1, .bool (RW b a e).1.f2])) (isTk p A0 b (RW b a e).2.1 (RW b a e).2.2)) := by
  refine Tr.intro fun w U H => ?_
  have i1 := RT_in (e := e) hb ha
  have i2 := RF_in (e := (RT b a e).2.2) hb i1
  have T1 := text_tr hb hl (p := p) (A0 := A0) ha e
  have T2 := flag_tr hb hl (p := p) (A0 := A0) i1 (RT b a e).2.2
  have T3 := text_tr hb hl (p := p) (A0 := A0) i2 (RF b (RT b a e).2.1 (RT b a e).2.2).2.2
  unfold RW
  dsimp only
  obtain ⟨⟨s1, a1, e1⟩, h1⟩ : ∃ q, RT b a e = q := ⟨_, rfl⟩
  rw [h1] at T1 T2 T3 ⊢
  dsimp only at T1 T2 T3 ⊢
  obtain ⟨⟨f1, a2, e2⟩, h2⟩ : ∃ q, RF b a1 e1 = q := ⟨_, rfl⟩
  rw [h2] at T2 T3 ⊢
  dsimp only at T2 T3 ⊢
  obtain ⟨⟨s2, a3, e3⟩, h3⟩ : ∃ q, RT b a2 e2 = q := ⟨_, rfl⟩
  rw [h3] at T3 ⊢
  dsimp only at T3 ⊢
  have C := checkWriteR_eq (⟨s1, s2, f1⟩ : S33)
  dsimp only at C
  generalize wrE (⟨s1, s2, f1⟩ : S33) = ew at C ⊢
  have TA := Aside0.mk T1
  have TB' := Aside0.mk T2
  have TC' := Aside0.mk T3
  have CA := Aside0.mk C
  clear T1 T2 T3 h1 h2 h3 i1 i2 C
  by_cases he : e3 = 0
  · subst he
    rw [if_pos rfl]
    go_enter Try.func61, Try.ntmps61
    go_wp2_with (first
      | ((with_reducible refine gate_dst (N := 2) rfl ?_); refine Hp.at_box H 3 ?hg (N := 2) ?hd (cs := #[.string ⟨#[]⟩, .string ⟨#[]⟩, .bool false]) (t := 33) ?hr ?_; (case hd => rfl); (case hg => rfl); (case hr => first | (go_simp; done) | (go_simp; rfl)); intro g2 w1 H1; clear H)
      | (go_at_call 70; refine (H1.call TA.out 2 rfl rfl (fun lab h => (Asn.rd U8 A0 _ _).mono (h.get (p := 1) rfl) (fun k _ hk => by have h2 : lab k = 0 := hk; omega))).mono ?_; rintro e' w2 ⟨r, rfl, H'⟩; obtain rfl := H'.fact 2 rfl (fun S h => h.1); have H2 := H'.imp 2 (A' := isTk p A0 b a1 e1) rfl (fun S h => h.2); clear H'; clear H1)
      | ((with_reducible refine gate_dst (N := 3) rfl ?_); refine Hp.at_box H2 4 ?hg (N := 3) ?hd (cs := #[.string ⟨#[]⟩, .string ⟨#[]⟩, .bool false]) (t := 33) ?hr ?_; (case hd => rfl); (case hg => rfl); (case hr => first | (go_simp; done) | (go_simp; rfl)); intro g3 w3 H3; clear H2; have x0 := H3.cell 4 rfl 0 (v := .string ⟨#[]⟩) rfl; have x1 := H3.cell 4 rfl 1 (v := .string ⟨#[]⟩) rfl; have x2 := H3.cell 4 rfl 2 (v := .bool false) rfl; have u0 := H3.unfrozen 4 rfl 0; have u1 := H3.unfrozen 4 rfl 1; have u2 := H3.unfrozen 4 rfl 2)
      | ((with_reducible refine gate_store (t := 33) (p := 3) rfl ?_); refine Hp.at_sets H3 4 rfl rfl ?hg (T := 33) (z := 3) (x := ?vo) ?ho ?hn 0 [.string s1, .string ⟨#[]⟩, .bool false] ?hr (cs' := #[.string s1, .string ⟨#[]⟩, .bool false]) ?hc ?_; (case ho => rfl); (case hg => rfl); (case hn => rfl); (case hr => first | (go_simp; done) | (go_simp; rfl)); (case hc => rfl); clear x0 x1 x2 u0 u1 u2; intro w4 H4; clear H3)
      | (go_at_call 69; refine (H4.call TB'.out 2 rfl rfl (fun lab h => (Asn.rd U8 A0 _ _).mono (h.get (p := 1) rfl) (fun k _ hk => by have h2 : lab k = 0 := hk; omega))).mono ?_; rintro e' w5 ⟨r, rfl, H'⟩; obtain rfl := H'.fact 2 rfl (fun S h => h.1); have H5 := H'.imp 2 (A' := isTk p A0 b a2 e2) rfl (fun S h => h.2); clear H'; clear H4; have x2 := H5.cell 4 rfl 2 (v := .bool false) rfl; have u2 := H5.unfrozen 4 rfl 2)
      | (go_at_call 70; refine ((H5.box_set 4 rfl rfl 2 (.bool f1)).call TC'.out 2 rfl rfl (fun lab h => (Asn.rd U8 A0 _ _).mono (h.get (p := 1) rfl) (fun k _ hk => by have h2 : lab k = 0 := hk; omega))).mono ?_; rintro e' w6 ⟨r, rfl, H'⟩; clear x2 u2 H5; obtain rfl := H'.fact 2 rfl (fun S h => h.1); have H6 := H'.imp 2 (A' := isTk p A0 b a3 0) rfl (fun S h => h.2); clear H'; have x1 := H6.cell 4 rfl 1 (v := .string ⟨#[]⟩) rfl; have u1 := H6.unfrozen 4 rfl 1; have H7 := H6.box_set 4 rfl rfl 1 (.string s2); obtain ⟨⟨rb, A, c⟩, H8⟩ := H7.open_ 2 rfl; obtain ⟨hc, hld⟩ := H8.fact 2 rfl (fun S h => h.1); have H9' := (H8.imp 2 (A' := Asn.star (Asn.box p #[.pointer (some ⟨rb, 0, none⟩), .int .i64 0] 97) (Asn.box rb #[.slice A (dr b a3).length c] 95)) rfl (fun S h => h.2)).split 2 2 rfl rfl (by decide); have H9 : Hp w _ [(0, Asn.old w U), (0, Asn.rd U8 A0 b.length b), (1, Asn.box p #[.pointer (some ⟨rb, 0, none⟩), .int .i64 0] 97), (3, Asn.box g2 #[.string ⟨#[]⟩, .string ⟨#[]⟩, .bool false] 33), (4, Asn.box g3 #[.string s1, .string s2, .bool f1] 33), (2, Asn.box rb #[.slice A (dr b a3).length c] 95)] := H9'; clear H6 H7 H8 H9'; have z1 := H9.cell 2 rfl 1 (v := .int .i64 0) rfl; have y0 := H9.cell 4 rfl 0 (v := .string s1) rfl; have y1 := H9.cell 4 rfl 1 (v := .string s2) rfl; have y2 := H9.cell 4 rfl 2 (v := .bool f1) rfl)
      | (go_at_call 12; refine (cressetref03_CheckWrite.calls s1 s2 f1 ew _ CA.out).mono ?_; rintro e' w8 ⟨rfl, hb8⟩; have H10 := H9.same hb8; clear H9 hb8 z1 y0 y1 y2 x1 u1; have z1 := H10.cell 2 rfl 1 (v := .int .i64 0) rfl; have u1 := H10.unfrozen 2 rfl 1; have H11 := H10.box_set 2 rfl rfl 1 (.int .i64 ew); have y0 := H11.cell 4 rfl 0 (v := .string s1) rfl; have y1 := H11.cell 4 rfl 1 (v := .string s2) rfl; have y2 := H11.cell 4 rfl 2 (v := .bool f1) rfl; have k0 := H11.cell 3 rfl 0 (v := .string ⟨#[]⟩) rfl; have k1 := H11.cell 3 rfl 1 (v := .string ⟨#[]⟩) rfl; have k2 := H11.cell 3 rfl 2 (v := .bool false) rfl; have v0 := H11.unfrozen 3 rfl 0; have v1 := H11.unfrozen 3 rfl 1; have v2 := H11.unfrozen 3 rfl 2))
    have H12 := ((H11.box_set 3 rfl rfl 0 (.string s1)).box_set 3 rfl rfl 1 (.string s2)).box_set 3 rfl rfl 2 (.bool f1)
    have c0 := H12.cell 3 rfl 0 (v := .string s1) rfl
    have c1 := H12.cell 3 rfl 1 (v := .string s2) rfl
    have c2 := H12.cell 3 rfl 2 (v := .bool f1) rfl
    refine bodyPost_ret (v := .agg #[.string s1, .string s2, .bool f1]) (by simp [results, Try.f61, go_sem, c0, c1, c2]) rfl ⟨_, rfl, ?_⟩
    exact tk_shut (H12.keep [0, 1, 2, 5]) hc hld
  · rw [if_neg he]
    have q1 : (e3 == 0) = false := beq_eq_false_iff_ne.mpr he
    go_enter Try.func61, Try.ntmps61
    go_wp2_with (first
      | ((with_reducible refine gate_dst (N := 2) rfl ?_); refine Hp.at_box H 3 ?hg (N := 2) ?hd (cs := #[.string ⟨#[]⟩, .string ⟨#[]⟩, .bool false]) (t := 33) ?hr ?_; (case hd => rfl); (case hg => rfl); (case hr => first | (go_simp; done) | (go_simp; rfl)); intro g2 w1 H1; clear H)
      | (go_at_call 70; refine (H1.call TA.out 2 rfl rfl (fun lab h => (Asn.rd U8 A0 _ _).mono (h.get (p := 1) rfl) (fun k _ hk => by have h2 : lab k = 0 := hk; omega))).mono ?_; rintro e' w2 ⟨r, rfl, H'⟩; obtain rfl := H'.fact 2 rfl (fun S h => h.1); have H2 := H'.imp 2 (A' := isTk p A0 b a1 e1) rfl (fun S h => h.2); clear H'; clear H1)
      | ((with_reducible refine gate_dst (N := 3) rfl ?_); refine Hp.at_box H2 4 ?hg (N := 3) ?hd (cs := #[.string ⟨#[]⟩, .string ⟨#[]⟩, .bool false]) (t := 33) ?hr ?_; (case hd => rfl); (case hg => rfl); (case hr => first | (go_simp; done) | (go_simp; rfl)); intro g3 w3 H3; clear H2; have x0 := H3.cell 4 rfl 0 (v := .string ⟨#[]⟩) rfl; have x1 := H3.cell 4 rfl 1 (v := .string ⟨#[]⟩) rfl; have x2 := H3.cell 4 rfl 2 (v := .bool false) rfl; have u0 := H3.unfrozen 4 rfl 0; have u1 := H3.unfrozen 4 rfl 1; have u2 := H3.unfrozen 4 rfl 2)
      | ((with_reducible refine gate_store (t := 33) (p := 3) rfl ?_); refine Hp.at_sets H3 4 rfl rfl ?hg (T := 33) (z := 3) (x := ?vo) ?ho ?hn 0 [.string s1, .string ⟨#[]⟩, .bool false] ?hr (cs' := #[.string s1, .string ⟨#[]⟩, .bool false]) ?hc ?_; (case ho => rfl); (case hg => rfl); (case hn => rfl); (case hr => first | (go_simp; done) | (go_simp; rfl)); (case hc => rfl); clear x0 x1 x2 u0 u1 u2; intro w4 H4; clear H3)
      | (go_at_call 69; refine (H4.call TB'.out 2 rfl rfl (fun lab h => (Asn.rd U8 A0 _ _).mono (h.get (p := 1) rfl) (fun k _ hk => by have h2 : lab k = 0 := hk; omega))).mono ?_; rintro e' w5 ⟨r, rfl, H'⟩; obtain rfl := H'.fact 2 rfl (fun S h => h.1); have H5 := H'.imp 2 (A' := isTk p A0 b a2 e2) rfl (fun S h => h.2); clear H'; clear H4; have x2 := H5.cell 4 rfl 2 (v := .bool false) rfl; have u2 := H5.unfrozen 4 rfl 2)
      | (go_at_call 70; refine ((H5.box_set 4 rfl rfl 2 (.bool f1)).call TC'.out 2 rfl rfl (fun lab h => (Asn.rd U8 A0 _ _).mono (h.get (p := 1) rfl) (fun k _ hk => by have h2 : lab k = 0 := hk; omega))).mono ?_; rintro e' w6 ⟨r, rfl, H'⟩; clear x2 u2 H5; obtain rfl := H'.fact 2 rfl (fun S h => h.1); have H6 := H'.imp 2 (A' := isTk p A0 b a3 e3) rfl (fun S h => h.2); clear H'; have x1 := H6.cell 4 rfl 1 (v := .string ⟨#[]⟩) rfl; have u1 := H6.unfrozen 4 rfl 1; have H7 := H6.box_set 4 rfl rfl 1 (.string s2); obtain ⟨⟨rb, A, c⟩, H8⟩ := H7.open_ 2 rfl; obtain ⟨hc, hld⟩ := H8.fact 2 rfl (fun S h => h.1); have H9' := (H8.imp 2 (A' := Asn.star (Asn.box p #[.pointer (some ⟨rb, 0, none⟩), .int .i64 e3] 97) (Asn.box rb #[.slice A (dr b a3).length c] 95)) rfl (fun S h => h.2)).split 2 2 rfl rfl (by decide); have H9 : Hp w _ [(0, Asn.old w U), (0, Asn.rd U8 A0 b.length b), (1, Asn.box p #[.pointer (some ⟨rb, 0, none⟩), .int .i64 e3] 97), (3, Asn.box g2 #[.string ⟨#[]⟩, .string ⟨#[]⟩, .bool false] 33), (4, Asn.box g3 #[.string s1, .string s2, .bool f1] 33), (2, Asn.box rb #[.slice A (dr b a3).length c] 95)] := H9'; clear H6 H7 H8 H9'; have z1 := H9.cell 2 rfl 1 (v := .int .i64 e3) rfl; have y0 := H9.cell 4 rfl 0 (v := .string s1) rfl; have y1 := H9.cell 4 rfl 1 (v := .string s2) rfl; have y2 := H9.cell 4 rfl 2 (v := .bool f1) rfl; have k0 := H9.cell 3 rfl 0 (v := .string ⟨#[]⟩) rfl; have k1 := H9.cell 3 rfl 1 (v := .string ⟨#[]⟩) rfl; have k2 := H9.cell 3 rfl 2 (v := .bool false) rfl; have v0 := H9.unfrozen 3 rfl 0; have v1 := H9.unfrozen 3 rfl 1; have v2 := H9.unfrozen 3 rfl 2))
    have H12 := ((H9.box_set 3 rfl rfl 0 (.string s1)).box_set 3 rfl rfl 1 (.string s2)).box_set 3 rfl rfl 2 (.bool f1)
    have c0 := H12.cell 3 rfl 0 (v := .string s1) rfl
    have c1 := H12.cell 3 rfl 1 (v := .string s2) rfl
    have c2 := H12.cell 3 rfl 2 (v := .bool f1) rfl
    refine bodyPost_ret (v := .agg #[.string s1, .string s2, .bool f1]) (by simp [results, Try.f61, go_sem, c0, c1, c2]) rfl ⟨_, rfl, ?_⟩
    exact tk_shut (H12.keep [0, 1, 2, 5]) hc hld
end
theorem ends_tr {b : List Int} {p : Nat} {A0 : Option Addr} {a : Int} (ha : In b a) (e : Int) : Tr Try.prog 62 #[.pointer (some ⟨p, 0, none⟩)] (Asn.rd U8 A0 b.length b) (isTk p A0 b a e) (fun r => Asn.and (Asn.lift (r = .int .i64 (endE b a e 0))) (isTk p A0 b a (endE b a e 0))) := by
  refine Tr.intro fun w U H0 => ?_
  obtain ⟨rb, A, c, hc, hld, H⟩ := tk_open H0
  clear H0
  have z0 := H.cell 2 rfl 0 (v := .pointer (some ⟨rb, 0, none⟩)) rfl
  have z1 := H.cell 2 rfl 1 (v := .int .i64 e) rfl
  have y0 := H.cell 3 rfl 0 (v := .slice A (dr b a).length c) rfl
  have u1 := H.unfrozen 2 rfl 1
  have hlen := dr_len ha
  unfold endE
  by_cases he : e = 0
  · subst he
    rw [if_pos rfl]
    by_cases hlt : a < (b.length : Int)
    · rw [if_pos hlt]
      have g1 : decide ((0 : Int) < ((dr b a).length : Int)) = true := decide_eq_true (by omega)
      have g2 : decide (0 < (dr b a).length) = true := decide_eq_true (by omega)
      have H1 := H.box_set 2 rfl rfl 1 (.int .i64 13)
      have z2 := H1.cell 2 rfl 1 (v := .int .i64 13) rfl
      clear hlt hlen
      go_enter Try.func62, Try.ntmps62
      go_wp2
      go_ret
      exact ⟨_, rfl, tk_shut (H1.keep [0, 1, 2, 3]) hc hld⟩
    · rw [if_neg hlt]
      have g1 : decide ((0 : Int) < ((dr b a).length : Int)) = false := decide_eq_false (by omega)
      have g2 : decide (0 < (dr b a).length) = false := decide_eq_false (by omega)
      clear hlt hlen
      go_enter Try.func62, Try.ntmps62
      go_wp2
      go_ret
      exact ⟨_, rfl, tk_shut (H.keep [0, 1, 2, 3]) hc hld⟩
  · rw [if_neg he]
    have q1 : (e == 0) = false := beq_eq_false_iff_ne.mpr he
    go_enter Try.func62, Try.ntmps62
    go_wp2
    go_ret
    exact ⟨_, rfl, tk_shut (H.keep [0, 1, 2, 3]) hc hld⟩
end Go.Proofs.Ytkcdmoghnoodmaa.Tk

set_option linter.unusedVariables false
set_option linter.unusedSimpArgs false
namespace Go.Proofs.Ytkcdmoghnoodmaa.Tk
open Go.RowKit Go.Proofs.Ytkcdmoghnoodmaa.B Go.Proofs.YtkcdmoghnoodmaaW.PrintWords Go.Proofs.YtkcdmoghnoodmaaW.PrintLast Go.Proofs.YtkcdmoghnoodmaaW.PrintMore Go.Proofs.YtkcdmoghnoodmaaW.Mine Go.Proofs.YtkcdmoghnoodmaaW.Hp
open Go.Proofs.Ytkcdmoghnoodmaa.Lib Go.Proofs.Ytkcdmoghnoodmaa.Cod Go.Proofs.Ytkcdmoghnoodmaa.Rd Go.Proofs.Ytkcdmoghnoodmaa.Wr

theorem RM_range {b : List Int} {a e most : Int} (hm : 0 ≤ most) : 0 ≤ (RM b a e most).1 ∧ (RM b a e most).1 ≤ most := by
  unfold RM
  (repeat' split) <;> dsimp only <;> omega
theorem endE_two (b : List Int) (a e c : Int) : endE b a e c = if endE b a e 0 = 0 then c else endE b a e 0 := by
  unfold endE
  by_cases h : e = 0
  · rw [if_pos h, if_pos h]
    by_cases h2 : a < (b.length : Int)
    · rw [if_pos h2, if_pos h2, if_neg (by decide)]
    · rw [if_neg h2, if_neg h2, if_pos rfl]
  · rw [if_neg h, if_neg h, if_neg h]
theorem In0 (b : List Int) : In b 0 := ⟨Int.le_refl _, by omega⟩
theorem relabel {w0 w : World} {X A : Asn} (H : Hp w0 w [(0, X), (5, A)]) : Hp w0 w [(0, X), (1, A)] :=
  (((H.free 1 (A := Asn.top) trivial).join 2 1 rfl rfl (by decide) rfl rfl).imp 2 (A' := A) rfl (fun S ⟨_, _, _, hs, _, hB⟩ => A.mono hB (fun k hk h => hs k (.inr h) hk))).keep [0, 2]
theorem leads_refl (A0 : Option Addr) (b : List Int) : Leads A0 b A0 (dr b 0) := fun _ _ h => h
section
variable {b : List Int} (hb : Bytes b) (hl : b.length ≤ 140737488351232)
include hb hl
set_option maxHeartbeats 16000000 in
set_option maxRecDepth 100000 in
theorem takeC_tr (A0 : Option Addr) (c0 : Nat) (hc : b.length ≤ c0) : Tr Try.prog 32 #[.slice A0 b.length c0] (Asn.rd U8 A0 b.length b) Asn.top (fun r => Asn.ex fun v : Value => Asn.and (Asn.lift (r = .tuple #[.agg #[.int .i64 (TC b).1, v], .int .i64 (TC b).2.2])) (Asn.row k33 33 v (TC b).2.1)) := by
  refine Tr.intro fun w U H0 => ?_
  have H : Hp w w [(0, Asn.old w U), (0, Asn.rd U8 A0 b.length b)] := H0.keep [0, 1]
  clear H0
  have i1 := RN_in (e := 0) hb (In0 b)
  have i2 := RM_in (e := (RN b 0 0).2.2) (most := 64) hb i1
  have hr := RM_range (b := b) (a := (RN b 0 0).2.1) (e := (RN b 0 0).2.2) (most := 64) (by decide)
  have T1 := fun p => num_tr hb hl (p := p) (A0 := A0) (In0 b) 0
  have T2 := fun p => count_tr hb hl (p := p) (A0 := A0) i1 (RN b 0 0).2.2 64 (by decide)
  have hT : TC b = TC b := rfl
  conv at hT => rhs; unfold TC; dsimp only
  obtain ⟨⟨ts, a1, e1⟩, h1⟩ : ∃ q, RN b 0 0 = q := ⟨_, rfl⟩
  rw [h1] at T1 T2 i2 hr hT
  dsimp only at T1 T2 i2 hr hT
  obtain ⟨⟨n, a2, e2⟩, h2⟩ : ∃ q, RM b a1 e1 64 = q := ⟨_, rfl⟩
  rw [h2] at T2 i2 hr hT
  dsimp only at T2 i2 hr hT
  obtain ⟨⟨lw, a3, e3⟩, h3⟩ : ∃ q, WS b n.toNat a2 e2 [] = q := ⟨_, rfl⟩
  rw [h3] at hT
  dsimp only at hT
  have HTC := Aside0.mk hT
  clear hT
  have TA := Aside0.mk T1
  have TB' := Aside0.mk T2
  have HI := Aside0.mk i2
  have HW := Aside0.mk h3
  clear T1 T2 h1 h2 i1 i2 h3
  obtain ⟨n, rfl⟩ := Int.eq_ofNat_of_zero_le hr.1
  rw [Int.toNat_natCast] at HW
  have hn64 : n ≤ 64 := by omega
  clear hr
  go_enter Try.func32, Try.ntmps32
  go_wp2_with (first
    | ((with_reducible refine gate_dst (N := 2) rfl ?_); refine Hp.at_box H 3 ?hg (N := 2) ?hd (cs := #[.int .i64 0, .slice none 0 0]) (t := 24) ?hr ?_; (case hd => rfl); (case hg => rfl); (case hr => first | (go_simp; done) | (go_simp; rfl)); intro g2 w1 H1; clear H)
    | ((with_reducible refine gate_dst (N := 11) rfl ?_); refine Hp.at_box H1 2 ?hg (N := 11) ?hd (cs := #[.slice A0 b.length c0]) (t := 95) ?hr ?_; (case hd => rfl); (case hg => rfl); (case hr => first | (go_simp; done) | (go_simp; rfl)); intro rb w2 H2; clear H1)
    | ((with_reducible refine gate_dst (N := 13) rfl ?_); refine Hp.at_box H2 1 ?hg (N := 13) ?hd (cs := #[.pointer (some ⟨rb, 0, none⟩), .int .i64 0]) (t := 97) ?hr ?_; (case hd => rfl); (case hg => rfl); (case hr => first | (go_simp; done) | (go_simp; rfl)); intro p w3 H3'; have H3 : Hp w w3 [(0, Asn.old w U), (0, Asn.rd U8 A0 b.length b), (1, isTk p A0 b 0 0), (3, Asn.box g2 #[.int .i64 0, .slice none 0 0] 24)] := (((H3'.join 4 3 rfl rfl (by decide) rfl rfl).imp 4 (A' := isTk p A0 b 0 0) rfl (fun S h => ⟨(rb, A0, c0), ⟨hc, leads_refl A0 b⟩, h⟩)).keep [0, 1, 4, 2]); clear H2 H3')
    | (go_at_call 59; refine (H3.call (TA.out p) 2 rfl rfl (fun lab h => (Asn.rd U8 A0 _ _).mono (h.get (p := 1) rfl) (fun k _ hk => by have h2 : lab k = 0 := hk; omega))).mono ?_; rintro e' w4 ⟨r, rfl, H'⟩; obtain rfl := H'.fact 2 rfl (fun S h => h.1); have H4 := H'.imp 2 (A' := isTk p A0 b a1 e1) rfl (fun S h => h.2); clear H' H3)
    | ((with_reducible refine gate_dst (N := 5) rfl ?_); refine Hp.at_box H4 4 ?hg (N := 5) ?hd (cs := #[.int .i64 0, .slice none 0 0]) (t := 24) ?hr ?_; (case hd => rfl); (case hg => rfl); (case hr => first | (go_simp; done) | (go_simp; rfl)); intro g5 w5 H5; clear H4; have x0 := H5.cell 4 rfl 0 (v := .int .i64 0) rfl; have x1 := H5.cell 4 rfl 1 (v := .slice none 0 0) rfl; have u0 := H5.unfrozen 4 rfl 0; have u1 := H5.unfrozen 4 rfl 1)
    | (go_at_call 60; refine (((H5.box_set 4 rfl rfl 0 (.int .i64 ts)).box_set 4 rfl rfl 1 (.slice none 0 0)).call (TB'.out p) 2 rfl rfl (fun lab h => (Asn.rd U8 A0 _ _).mono (h.get (p := 1) rfl) (fun k _ hk => by have h2 : lab k = 0 := hk; omega))).mono ?_; rintro e' w6 ⟨r, rfl, H'⟩; clear x0 x1 u0 u1 H5; obtain rfl := H'.fact 2 rfl (fun S h => h.1); have H6 := (H'.imp 2 (A' := isTk p A0 b a2 e2) rfl (fun S h => h.2)).free 5 (A := Asn.row k33 33 (.slice none 0 0) []) (Kd.R_nil _ _ _ _ _); clear H'))
  go_loopw [7] (fun q wr => ∃ (m : Nat) (a e : Int) (l : List S33) (v : Value), q = .int .i64 m ∧ m ≤ n ∧ l.length = m ∧ Aside0 (WS b (n - m) a e l = (lw, a3, e3)) ∧ Aside0 (In b a) ∧ Aside0 (Hp w wr [(0, Asn.old w U), (0, Asn.rd U8 A0 b.length b), (1, isTk p A0 b a e), (3, Asn.box g2 #[.int .i64 0, .slice none 0 0] 24), (4, Asn.box g5 #[.int .i64 ts, v] 24), (5, Asn.row k33 33 v l)])) (fun q _ => n - (intOf q).toNat)
  case atStart => exact ⟨0, a2, e2, [], .slice none 0 0, rfl, Nat.zero_le _, rfl, ⟨HW.out⟩, ⟨HI.out⟩, ⟨H6⟩⟩
  case round =>
    clear H6 HW HI
    obtain ⟨m, a, e, l, v, rfl, hm, hlm, HS, HA, HO⟩ := hrel
    by_cases hlt : m < n
    · have hltz : (m : Int) < (n : Int) := by omega
      have hd1 : decide ((m : Int) < (n : Int)) = true := decide_eq_true hltz
      have hd2 : decide (m < n) = true := decide_eq_true hlt
      obtain ⟨Av, cv, rfl⟩ := HO.out.fact 5 rfl (fun S h => Kd.R_slice h)
      have TW := Aside0.mk (write_tr hb hl (p := p) (A0 := A0) HA.out e)
      have HN := Aside0.mk (RW_in (e := e) hb HA.out)
      have HS2 : Aside0 (WS b (n - (m + 1)) (RW b a e).2.1 (RW b a e).2.2 (l ++ [(RW b a e).1]) = (lw, a3, e3)) := ⟨by
        have h := HS.out
        rw [show n - m = (n - (m + 1)) + 1 by omega] at h
        exact h⟩
      obtain ⟨⟨x, a', e'⟩, hx⟩ : ∃ q, RW b a e = q := ⟨_, rfl⟩
      rw [hx] at TW HN HS2
      clear hx HS HA
      dsimp only at TW HN HS2
      have HD := HO.out.drew
      rw [hlm] at HD
      have s0 := HD.cell 4 rfl 1 (v := .slice Av m cv) rfl
      have HLM := Aside0.mk hlm
      clear HO hlm
      go_wp2
      go_region_law (first
        | (refine goes_ Try.func61 (by kernel_rfl) rfl #[.pointer (some ⟨p, 0, none⟩)] (by rfl) rfl rfl (by (try simp only [List.map_toArray, List.map_cons, List.map_nil]); first | done | rfl) ?_; refine (HD.call TW.out 2 rfl rfl (fun lab h => (Asn.rd U8 A0 _ _).mono (h.get (p := 1) rfl) (fun k _ hk => by have h2 : lab k = 0 := hk; omega))).mono ?_; rintro e9 w9 ⟨r, rfl, H'⟩; obtain rfl := H'.fact 2 rfl (fun S h => h.1); have H9 := H'.imp 2 (A' := isTk p A0 b a' e') rfl (fun S h => h.2); clear H'; have s1 := H9.cell 4 rfl 1 (v := .slice Av m cv) rfl; have s2 := (H9.box_new 9 #[.string x.f0, .string x.f1, .bool x.f2] 33).cell 4 rfl 1 (v := .slice Av m cv) rfl; refine ⟨_, rfl, ?_⟩)
        | (refine Hp.step_append k33 H9 5 ?hw (.tmp 25) (.tmp 28) 22 33 (.agg #[.string ⟨#[]⟩, .string ⟨#[]⟩, .bool false]) 40 rfl Try.underlying22 info33 rfl (by decide) (by omega) (.slice Av m cv) l rfl rfl x [.string x.f0, .string x.f1, .bool x.f2] ?hs ?hx (fun _ => k33_mkM _ _ _ _) (by have := HLM.out; omega) ?_; (case hw => rfl); (case hs => rfl); (case hx => rfl); intro v5 w5 H11; obtain ⟨A5, c5, hv5⟩ := H11.fact 5 rfl (fun S h => Kd.R_slice h); rw [show (l ++ [x]).length = m + 1 by have := HLM.out; simp; omega] at hv5; subst hv5; have t5 := H11.cell 4 rfl 1 (v := .slice Av m cv) rfl; have t6 := H11.unfrozen 4 rfl 1))
      all_goals
        have H12' := H11.box_set 4 rfl rfl 1 (.slice A5 (m + 1) c5)
        have H12 : Hp w (w5.setCell ⟨g5, 1, none⟩ (.slice A5 (m + 1) c5)) [(0, Asn.old w U), (0, Asn.rd U8 A0 b.length b), (1, isTk p A0 b a' e'), (3, Asn.box g2 #[.int .i64 0, .slice none 0 0] 24), (4, Asn.box g5 #[.int .i64 ts, .slice A5 (m + 1) c5] 24), (5, Asn.row k33 33 (.slice A5 (m + 1) c5) (l ++ [x]))] := H12'
        clear H12' H11 t5 t6 s0 s1 s2 H9 HD
        go_wp2
        go_roundw
        case rel => exact ⟨m + 1, a', e', l ++ [x], .slice A5 (m + 1) c5, by go_num, by omega, by have := HLM.out; simp; omega, HS2, HN, ⟨H12⟩⟩
        case measure => simp [intOf]; omega
    · have hle : m = n := by omega
      subst hle
      have hltz : ¬ (m : Int) < (m : Int) := by omega
      have hws := HS.out
      rw [Nat.sub_self] at hws
      have q1 : l = lw := congrArg (fun q => q.1) hws
      have q2 : a = a3 := congrArg (fun q => q.2.1) hws
      have q3 : e = e3 := congrArg (fun q => q.2.2) hws
      have H8 := HO.out
      have ha3 := HA.out
      obtain ⟨Av, cv, rfl⟩ := H8.fact 5 rfl (fun S h => Kd.R_slice h)
      rw [q1, q2, q3] at H8
      rw [q2] at ha3
      have HEN := Aside0.mk (ends_tr (p := p) (A0 := A0) ha3 e3)
      clear HO HS hws q1 q2 q3 HA ha3 hlm
      have HE2 := Aside0.mk (endE_two b a3 e3 (commitE ts lw))
      obtain ⟨f, hfe⟩ : ∃ f, endE b a3 e3 0 = f := ⟨_, rfl⟩
      rw [hfe] at HEN HE2
      clear hfe
      by_cases hf : f = 0
      · subst hf
        have HE3 : Aside0 (endE b a3 e3 (commitE ts lw) = commitE ts lw) := ⟨by have := HE2.out; rwa [if_pos rfl] at this⟩
        obtain ⟨kc, hkc⟩ := (checkCommitR_ev ts lw).rounds
        obtain ⟨g, hge⟩ : ∃ g, commitE ts lw = g := ⟨_, rfl⟩
        rw [hge] at hkc
        have HGE := Aside0.mk hge
        clear HE2 hge
        have HKC := Aside0.mk hkc
        clear hkc
        by_cases hg : g = 0
        · subst hg
          have HQ : Aside0 (TC b = (ts, lw, 0)) := ⟨by rw [HTC.out, HE3.out.trans HGE.out, if_pos rfl]⟩
          go_wp2_with (first
            | (go_at_call 62; refine (H8.call HEN.out 2 rfl rfl (fun lab h => (Asn.rd U8 A0 _ _).mono (h.get (p := 1) rfl) (fun k _ hk => by have h2 : lab k = 0 := hk; omega))).mono ?_; rintro e9 w9 ⟨r, rfl, H'⟩; obtain rfl := H'.fact 2 rfl (fun S h => h.1); have H9 : Hp w w9 [(0, Asn.old w U), (3, Asn.box g2 #[.int .i64 0, .slice none 0 0] 24), (4, Asn.box g5 #[.int .i64 ts, .slice Av lw.length cv] 24), (5, Asn.row k33 33 (.slice Av lw.length cv) lw)] := H'.keep [0, 3, 4, 5]; clear H' H8; have y0 := H9.cell 2 rfl 0 (v := .int .i64 ts) rfl; have y1 := H9.cell 2 rfl 1 (v := .slice Av lw.length cv) rfl; have k0 := H9.cell 1 rfl 0 (v := .int .i64 0) rfl; have k1 := H9.cell 1 rfl 1 (v := .slice none 0 0) rfl; have v0 := H9.unfrozen 1 rfl 0; have v1 := H9.unfrozen 1 rfl 1)
            | (go_at_call 19; refine (cressetref03_CheckCommit.calls kc ts Av cv lw 0 _ (H9.row_C 3 rfl).2.2 (H9.row_C 3 rfl).2.1 HKC.out).mono ?_; rintro e10 w10 ⟨rfl, hb10⟩; have H10 := H9.same hb10; clear H9 hb10 y0 y1 k0 k1 v0 v1; have y0 := H10.cell 2 rfl 0 (v := .int .i64 ts) rfl; have y1 := H10.cell 2 rfl 1 (v := .slice Av lw.length cv) rfl; have k0 := H10.cell 1 rfl 0 (v := .int .i64 0) rfl; have k1 := H10.cell 1 rfl 1 (v := .slice none 0 0) rfl; have v0 := H10.unfrozen 1 rfl 0; have v1 := H10.unfrozen 1 rfl 1))
          have HZ := (H10.box_set 1 rfl rfl 0 (.int .i64 ts)).box_set 1 rfl rfl 1 (.slice Av lw.length cv)
          have c0 := HZ.cell 1 rfl 0 (v := .int .i64 ts) rfl
          have c1 := HZ.cell 1 rfl 1 (v := .slice Av lw.length cv) rfl
          refine bodyPost_ret (v := .tuple #[.agg #[.int .i64 ts, .slice Av lw.length cv], .int .i64 0]) (by simp [results, Try.f32, go_sem, c0, c1]) rfl ⟨_, rfl, ?_⟩
          rw [HQ.out]
          exact (relabel (HZ.keep [0, 3])).imp 1 (A' := Asn.ex fun v : Value => Asn.and (Asn.lift (Value.tuple #[.agg #[.int .i64 ts, .slice Av lw.length cv], .int .i64 0] = Value.tuple #[.agg #[.int .i64 ts, v], .int .i64 0])) (Asn.row k33 33 v lw)) rfl (fun S h => ⟨.slice Av lw.length cv, rfl, h⟩)
        · have HQ : Aside0 (TC b = (0, [], g)) := ⟨by rw [HTC.out, HE3.out.trans HGE.out, if_neg hg]⟩
          have g1 : (g == 0) = false := beq_eq_false_iff_ne.mpr hg
          have g2' : (g != 0) = true := bne_iff_ne.mpr hg
          go_wp2_with (first
            | (go_at_call 62; refine (H8.call HEN.out 2 rfl rfl (fun lab h => (Asn.rd U8 A0 _ _).mono (h.get (p := 1) rfl) (fun k _ hk => by have h2 : lab k = 0 := hk; omega))).mono ?_; rintro e9 w9 ⟨r, rfl, H'⟩; obtain rfl := H'.fact 2 rfl (fun S h => h.1); have H9 : Hp w w9 [(0, Asn.old w U), (3, Asn.box g2 #[.int .i64 0, .slice none 0 0] 24), (4, Asn.box g5 #[.int .i64 ts, .slice Av lw.length cv] 24), (5, Asn.row k33 33 (.slice Av lw.length cv) lw)] := H'.keep [0, 3, 4, 5]; clear H' H8; have y0 := H9.cell 2 rfl 0 (v := .int .i64 ts) rfl; have y1 := H9.cell 2 rfl 1 (v := .slice Av lw.length cv) rfl; have k0 := H9.cell 1 rfl 0 (v := .int .i64 0) rfl; have k1 := H9.cell 1 rfl 1 (v := .slice none 0 0) rfl; have v0 := H9.unfrozen 1 rfl 0; have v1 := H9.unfrozen 1 rfl 1)
            | (go_at_call 19; refine (cressetref03_CheckCommit.calls kc ts Av cv lw g _ (H9.row_C 3 rfl).2.2 (H9.row_C 3 rfl).2.1 HKC.out).mono ?_; rintro e10 w10 ⟨rfl, hb10⟩; have H10 := H9.same hb10; clear H9 hb10 y0 y1 k0 k1 v0 v1; have y0 := H10.cell 2 rfl 0 (v := .int .i64 ts) rfl; have y1 := H10.cell 2 rfl 1 (v := .slice Av lw.length cv) rfl; have k0 := H10.cell 1 rfl 0 (v := .int .i64 0) rfl; have k1 := H10.cell 1 rfl 1 (v := .slice none 0 0) rfl; have v0 := H10.unfrozen 1 rfl 0; have v1 := H10.unfrozen 1 rfl 1))
          have HZ := (H10.box_set 1 rfl rfl 0 (.int .i64 0)).box_set 1 rfl rfl 1 (.slice none 0 0)
          have c0 := HZ.cell 1 rfl 0 (v := .int .i64 0) rfl
          have c1 := HZ.cell 1 rfl 1 (v := .slice none 0 0) rfl
          refine bodyPost_ret (v := .tuple #[.agg #[.int .i64 0, .slice none 0 0], .int .i64 g]) (by simp [results, Try.f32, go_sem, c0, c1]) rfl ⟨_, rfl, ?_⟩
          rw [HQ.out]
          exact ((HZ.keep [0]).free 1 (A := Asn.row k33 33 (.slice none 0 0) []) (Kd.R_nil _ _ _ _ _)).imp 1 (A' := Asn.ex fun v : Value => Asn.and (Asn.lift (Value.tuple #[.agg #[.int .i64 0, .slice none 0 0], .int .i64 g] = Value.tuple #[.agg #[.int .i64 0, v], .int .i64 g])) (Asn.row k33 33 v [])) rfl (fun S h => ⟨.slice none 0 0, rfl, h⟩)
      · have HQ : Aside0 (TC b = (0, [], f)) := ⟨by have := HE2.out; rw [if_neg hf] at this; rw [HTC.out, this, if_neg hf]⟩
        have g1 : (f == 0) = false := beq_eq_false_iff_ne.mpr hf
        have g2' : (f != 0) = true := bne_iff_ne.mpr hf
        go_wp2_with (first
          | (go_at_call 62; refine (H8.call HEN.out 2 rfl rfl (fun lab h => (Asn.rd U8 A0 _ _).mono (h.get (p := 1) rfl) (fun k _ hk => by have h2 : lab k = 0 := hk; omega))).mono ?_; rintro e9 w9 ⟨r, rfl, H'⟩; obtain rfl := H'.fact 2 rfl (fun S h => h.1); have H9 : Hp w w9 [(0, Asn.old w U), (3, Asn.box g2 #[.int .i64 0, .slice none 0 0] 24), (4, Asn.box g5 #[.int .i64 ts, .slice Av lw.length cv] 24), (5, Asn.row k33 33 (.slice Av lw.length cv) lw)] := H'.keep [0, 3, 4, 5]; clear H' H8; have y0 := H9.cell 2 rfl 0 (v := .int .i64 ts) rfl; have y1 := H9.cell 2 rfl 1 (v := .slice Av lw.length cv) rfl; have k0 := H9.cell 1 rfl 0 (v := .int .i64 0) rfl; have k1 := H9.cell 1 rfl 1 (v := .slice none 0 0) rfl; have v0 := H9.unfrozen 1 rfl 0; have v1 := H9.unfrozen 1 rfl 1))
        have HZ := (H9.box_set 1 rfl rfl 0 (.int .i64 0)).box_set 1 rfl rfl 1 (.slice none 0 0)
        have c0 := HZ.cell 1 rfl 0 (v := .int .i64 0) rfl
        have c1 := HZ.cell 1 rfl 1 (v := .slice none 0 0) rfl
        refine bodyPost_ret (v := .tuple #[.agg #[.int .i64 0, .slice none 0 0], .int .i64 f]) (by simp [results, Try.f32, go_sem, c0, c1]) rfl ⟨_, rfl, ?_⟩
        rw [HQ.out]
        exact ((HZ.keep [0]).free 1 (A := Asn.row k33 33 (.slice none 0 0) []) (Kd.R_nil _ _ _ _ _)).imp 1 (A' := Asn.ex fun v : Value => Asn.and (Asn.lift (Value.tuple #[.agg #[.int .i64 0, .slice none 0 0], .int .i64 f] = Value.tuple #[.agg #[.int .i64 0, v], .int .i64 f])) (Asn.row k33 33 v [])) rfl (fun S h => ⟨.slice none 0 0, rfl, h⟩)
end
end Go.Proofs.Ytkcdmoghnoodmaa.Tk

set_option linter.unusedVariables false
set_option linter.unusedSimpArgs false
namespace Go.Proofs.Ytkcdmoghnoodmaa.Tk
open Go.RowKit Go.Shelf Go.Proofs.Ytkcdmoghnoodmaa.B Go.Proofs.YtkcdmoghnoodmaaW.PrintWords Go.Proofs.YtkcdmoghnoodmaaW.PrintLast Go.Proofs.YtkcdmoghnoodmaaW.PrintMore Go.Proofs.YtkcdmoghnoodmaaW.Mine Go.Proofs.YtkcdmoghnoodmaaW.Hp
open Go.Proofs.Ytkcdmoghnoodmaa.Lib Go.Proofs.Ytkcdmoghnoodmaa.Cod Go.Proofs.Ytkcdmoghnoodmaa.Rd Go.Proofs.Ytkcdmoghnoodmaa.Wr

theorem stamped_loop (l m : List S74) (hl : l.length ≤ 9223372036854775807) (hm : m.length = l.length) : ∀ (d i : Nat), i + d = l.length → ∃ v, Ev (fun k => api_Stamped.l0 k l m (l.length : Int) (i : Int)) v ∧ Ev (fun k => cressetref03_SamePairs.l0 k l m (i : Int)) v
  | 0, i, h => by
    refine ⟨true, Ev.step (f := fun _ => some true) (fun k => by simp only [api_Stamped.l0]; rw [if_neg (by omega)]) (Ev.now _), Ev.step (f := fun _ => some true) (fun k => by simp only [cressetref03_SamePairs.l0]; rw [if_neg (by omega)]) (Ev.now _)⟩
  | d + 1, i, h => by
    obtain ⟨v, h1, h2⟩ := stamped_loop l m hl hm d (i + 1) (by omega)
    by_cases ht : (!((((rd_T74 l i).f0).toList) == (((rd_T74 m i).f0).toList)) || (!((((rd_T74 l i).f1).toList) == (((rd_T74 m i).f1).toList)) || (!(((rd_T74 l i).f2) == ((rd_T74 m i).f2))))) = true
    · refine ⟨false, Ev.step (f := fun _ => some false) (fun k => by simp only [api_Stamped.l0]; rw [if_pos (by omega), if_pos (by omega), if_pos (by omega), if_pos (by omega), if_pos ht]) (Ev.now _), Ev.step (f := fun _ => some false) (fun k => by simp only [cressetref03_SamePairs.l0]; rw [if_pos (by omega), if_pos (by omega), if_pos (by omega), if_pos ht]) (Ev.now _)⟩
    · refine ⟨v, ?_, ?_⟩
      · refine Ev.step (fun k => by simp only [api_Stamped.l0]; rw [if_pos (by omega), if_pos (by omega), if_pos (by omega), if_pos (by omega), if_neg ht]) ?_
        rw [Cod.wr1 (x := (i : Int) + 1) (by omega) (by omega)]
        exact h1
      · refine Ev.step (fun k => by simp only [cressetref03_SamePairs.l0]; rw [if_pos (by omega), if_pos (by omega), if_pos (by omega), if_neg ht]) ?_
        rw [Cod.wr1 (x := (i : Int) + 1) (by omega) (by omega)]
        exact h2
theorem sameKs_ev (a b : Int) (l m : List S74) (f g : Bool) (hl : l.length ≤ 9223372036854775807) : ∃ v, Ev (fun k => record_SameChunk.f k a l f b m g) v ∧ Ev (fun k => cressetref03_SameChunk.f k a l f b m g) v := by
  unfold record_SameChunk.f cressetref03_SameChunk.f
  by_cases hab : a = b
  · by_cases hfg : (f == g) = true
    · by_cases hm : m.length = l.length
      · obtain ⟨v, h1, h2⟩ := stamped_loop l m hl hm l.length 0 (by omega)
        refine ⟨v, ?_, ?_⟩
        · refine Ev.congr (f := _) (fun k => if_pos hab) ?_
          refine Ev.congr (f := _) (fun k => if_pos hfg) ?_
          refine Ev.bind (a := v) ?_ (Ev.now _)
          unfold api_Stamped.f
          exact Ev.congr (f := _) (fun k => if_pos (by omega)) h1
        · refine Ev.congr (f := _) (fun k => if_pos hab) ?_
          refine Ev.congr (f := _) (fun k => if_pos hfg) ?_
          refine Ev.bind (a := v) ?_ (Ev.now _)
          unfold cressetref03_SamePairs.f
          exact Ev.congr (f := _) (fun k => if_pos (by omega)) h2
      · refine ⟨false, ?_, ?_⟩
        · refine Ev.congr (f := _) (fun k => if_pos hab) ?_
          refine Ev.congr (f := _) (fun k => if_pos hfg) ?_
          refine Ev.bind (a := false) ?_ (Ev.now _)
          unfold api_Stamped.f
          exact Ev.congr (f := _) (fun k => if_neg (by omega)) (Ev.now _)
        · refine Ev.congr (f := _) (fun k => if_pos hab) ?_
          refine Ev.congr (f := _) (fun k => if_pos hfg) ?_
          refine Ev.bind (a := false) ?_ (Ev.now _)
          unfold cressetref03_SamePairs.f
          exact Ev.congr (f := _) (fun k => if_neg (by omega)) (Ev.now _)
    · exact ⟨false, Ev.congr (f := _) (fun k => if_pos hab) (Ev.congr (f := _) (fun k => if_neg hfg) (Ev.now _)), Ev.congr (f := _) (fun k => if_pos hab) (Ev.congr (f := _) (fun k => if_neg hfg) (Ev.now _))⟩
  · exact ⟨false, Ev.congr (f := _) (fun k => if_neg hab) (Ev.now _), Ev.congr (f := _) (fun k => if_neg hab) (Ev.now _)⟩
theorem stampedT_loop (l : List S74) (hl : l.length ≤ 9223372036854775807) : ∀ (d i : Nat), i + d = l.length → Ev (fun k => api_Stamped.l0 k l l (l.length : Int) (i : Int)) true
  | 0, i, h => Ev.step (f := fun _ => some true) (fun k => by simp only [api_Stamped.l0]; rw [if_neg (by omega)]) (Ev.now _)
  | d + 1, i, h => by
    have ih := stampedT_loop l hl d (i + 1) (by omega)
    refine Ev.step (fun k => by simp only [api_Stamped.l0]; rw [if_pos (by omega), if_pos (by omega), if_pos (by omega), if_pos (by omega), if_neg (by simp)]) ?_
    rw [Cod.wr1 (x := (i : Int) + 1) (by omega) (by omega)]
    exact ih
theorem sameKd_ev (a : Int) (l : List S74) (f : Bool) (hl : l.length ≤ 9223372036854775807) : Ev (fun k => record_SameChunk.f k a l f a l f) true := by
  unfold record_SameChunk.f
  refine Ev.congr (f := _) (fun k => if_pos rfl) ?_
  refine Ev.congr (f := _) (fun k => if_pos (by simp)) ?_
  refine Ev.bind (a := true) ?_ (Ev.now _)
  unfold api_Stamped.f
  refine Ev.congr (f := _) (fun k => if_pos rfl) ?_
  exact stampedT_loop l hl l.length 0 (by omega)
theorem commitR_bytes {a : Int} {l : List S33} (ha : i64 a) : Bytes (commitR a l).1 ∧ (commitR a l).1.length ≤ 1000000 := by
  unfold commitR
  by_cases h : commitE a l = 0
  · simp only [if_pos h]
    exact cB_bytes ha h
  · simp only [if_neg h]
    exact ⟨fun x hx => by simp at hx, by simp⟩

end Go.Proofs.Ytkcdmoghnoodmaa.Tk

set_option linter.unusedVariables false
set_option linter.unusedSimpArgs false
namespace Go.Proofs.Ytkcdmoghnoodmaa.Tk
open Go.RowKit Go.Shelf Go.Proofs.Ytkcdmoghnoodmaa.B Go.Proofs.YtkcdmoghnoodmaaW.PrintWords Go.Proofs.YtkcdmoghnoodmaaW.PrintLast Go.Proofs.YtkcdmoghnoodmaaW.PrintMore Go.Proofs.YtkcdmoghnoodmaaW.Mine Go.Proofs.YtkcdmoghnoodmaaW.Hp
open Go.Proofs.Ytkcdmoghnoodmaa.Lib Go.Proofs.Ytkcdmoghnoodmaa.Cod Go.Proofs.Ytkcdmoghnoodmaa.Rd Go.Proofs.Ytkcdmoghnoodmaa.Wr

theorem sameC_loop' (a : Int) (l : List S33) (hl : l.length ≤ 9223372036854775807) : ∀ (d i : Nat), i + d = l.length → Ev (fun k => cressetref03_SameCommit.l0 k (i : Int) a l a l) true
  | 0, i, h => by
    refine Ev.step (f := fun _ => some true) (fun k => by simp only [cressetref03_SameCommit.l0]; rw [if_neg (by omega)]) ?_
    exact Ev.now _
  | d + 1, i, h => by
    have ih := sameC_loop' a l hl d (i + 1) (by omega)
    refine Ev.step (fun k => by simp only [cressetref03_SameCommit.l0]; rw [if_pos (by omega), if_pos (by omega), if_pos (by omega), if_neg (by simp)]) ?_
    rw [Cod.wr1 (x := (i : Int) + 1) (by omega) (by omega)]
    exact ih
theorem sameC_ev' (a : Int) (l : List S33) (hl : l.length ≤ 9223372036854775807) : Ev (fun k => cressetref03_SameCommit.f k a l a l) true := by
  unfold cressetref03_SameCommit.f
  refine Ev.congr (f := _) (fun k => if_pos rfl) ?_
  refine Ev.step (f := fun k => cressetref03_SameCommit.l0 k 0 a l a l) (fun k => by simp only [cressetref03_SameCommit.j0]; rw [if_neg (by simp)]) ?_
  exact sameC_loop' a l hl l.length 0 (by omega)
theorem h33 : Kd.Heap k33 := Kd.heap_iso _ (Kd.heap_pair Kd.heap_string (Kd.heap_pair Kd.heap_string Kd.heap_bool))
theorem h74 : Kd.Heap k74 := Kd.heap_iso _ (Kd.heap_pair Kd.heap_string (Kd.heap_pair Kd.heap_string (Kd.heap_int _)))
theorem TC_len {b : List Int} (hb : Bytes b) : (TC b).2.1.length ≤ 64 := by
  by_cases h : (TC b).2.2 = 0
  · obtain ⟨_, h1, _⟩ := TC_ok hb (a := (TC b).1) (l := (TC b).2.1) (by rw [← h])
    obtain ⟨h2, _, _⟩ := commit_valid h1
    omega
  · unfold TC at h ⊢
    dsimp only at h ⊢
    split at h
    · exact absurd rfl h
    · rename_i hn
      rw [if_neg hn]
      exact Nat.zero_le _
theorem row_box {α : Type} {d : Kd α} {e : Nat} {v : Value} {xs : List α} {w : World} {S : Nat → Prop} (h : (Asn.row d e v xs).P w S) (hn : 0 < xs.length) : ∃ (g c : Nat) (cs : Array Value), v = .slice (some ⟨g, 0, none⟩) xs.length c ∧ xs.length * d.sz ≤ cs.size ∧ (Asn.box g cs e).P w S := by
  obtain ⟨h0, inner, ⟨_, ho⟩, _⟩ := h
  rcases ho with ⟨_, h⟩ | ⟨g, cap, cur, rfl, _, hg, hc, _, hs, _⟩
  · omega
  · exact ⟨g, cap, cur, rfl, by rw [hs]; exact Nat.mul_le_mul_right _ hc, hg, h0 g rfl⟩
theorem row_out {α : Type} {d : Kd α} {e i n c : Nat} {A : Option Addr} {xs : List α} {w0 w : World} {L : List (Nat × Asn)} (H : Hp w0 w L) (q : Nat) (hi : L[q]? = some (i, Asn.row d e (.slice A n c) xs)) (hn : 0 < xs.length) :
    ∃ (g : Nat) (cs : Array Value), A = some ⟨g, 0, none⟩ ∧ xs.length * d.sz ≤ cs.size ∧ Hp w0 w (L.set q (i, Asn.box g cs e)) := by
  have hf : ∃ g : Nat, A = some ⟨g, 0, none⟩ := H.fact q hi (fun S h => by
    obtain ⟨g, _, _, he, _, _⟩ := row_box h hn
    injection he with e1
    exact ⟨g, e1⟩)
  obtain ⟨g, rfl⟩ := hf
  have h1 := H.imp q (A' := Asn.ex fun r : Array Value => Asn.and (Asn.lift (xs.length * d.sz ≤ r.size)) (Asn.box g r e)) hi (fun S h => by
    obtain ⟨g', _, cs', he', hs', hb'⟩ := row_box h hn
    injection he' with e2
    injection e2 with e3
    injection e3 with e4
    subst e4
    exact ⟨cs', hs', hb'⟩)
  have hq : (L.set q (i, Asn.ex fun r : Array Value => Asn.and (Asn.lift (xs.length * d.sz ≤ r.size)) (Asn.box g r e)))[q]? = some (i, Asn.ex fun r : Array Value => Asn.and (Asn.lift (xs.length * d.sz ≤ r.size)) (Asn.box g r e)) := List.getElem?_set_self (List.getElem?_eq_some_iff.1 hi).1
  obtain ⟨r, h2⟩ := h1.open_ q hq
  rw [List.set_set] at h2
  have hq2 : (L.set q (i, Asn.and (Asn.lift (xs.length * d.sz ≤ r.size)) (Asn.box g r e)))[q]? = some (i, Asn.and (Asn.lift (xs.length * d.sz ≤ r.size)) (Asn.box g r e)) := List.getElem?_set_self (List.getElem?_eq_some_iff.1 hi).1
  have h3 := h2.fact q hq2 (fun S h => h.1)
  have h4 := h2.imp q (A' := Asn.box g r e) hq2 (fun S h => h.2)
  rw [List.set_set] at h4
  exact ⟨g, r, rfl, h3, h4⟩
def rsT.T17 : Bool × List (List Nat × List Nat) := (true, [([], []), ([0, 0], [0]), ([1], [1]), ([1], [1]), ([2, 3, 1, 1], [1, 2, 3]), ([1], [1]), ([1], [1]), ([5, 6, 4, 1], [1, 5, 6]), ([4, 7, 1], [1, 4, 7]), ([1, 8], [1, 8]), ([9, 7], [9]), ([10], [10]), ([10], [10]), ([11, 12, 10, 10], [10, 11, 12]), ([10, 13], [10, 13]), ([14, 13], [14]), ([15], [15]), ([15], [15]), ([17, 15], [15, 17]), ([15], [15]), ([18, 19, 15], [15, 18, 19]), ([16, 20, 15, 15], [15, 16, 20]), ([15, 21], [15, 21]), ([22, 21], [22]), ([23], [23]), ([23], [23]), ([24, 25, 23, 23], [23, 24, 25]), ([23, 26], [23, 26]), ([27, 26, 0, 1, 2, 3, 4, 5, 6, 7, 8, 9, 10, 11, 12, 13, 14, 15, 16, 17, 18, 19, 20, 21, 22, 23, 24, 25, 26, 27], [27])])
def rsT.B17 : List Nat := [0, 1, 3, 3, 15, 3, 3, 127, 255, 511, 1023, 2047, 2047, 8191, 16383, 32767, 65535, 65535, 196607, 65535, 983039, 2097151, 4194303, 8388607, 16777215, 16777215, 67108863, 134217727, 268435455]
theorem rsT.tab17 : rtab .any (opsOf Try.f5 17) = rsT.T17 := by kernel_rfl
theorem rsT.bits17 : waitsOk rsT.T17.2 rsT.B17 = true := by kernel_rfl

set_option maxHeartbeats 16000000 in
set_option maxRecDepth 100000 in
theorem same_go (x0 : Int) (A0 : Option Addr) (c0 : Nat) (l0 : List S74) (f0 : Bool) (x1 : Int) (A1 : Option Addr) (c1 : Nat) (l1 : List S74) (f1 : Bool) (x2 : Int) (A2 : Option Addr) (c2 : Nat) (l2 : List S33) (w : World)
    (hr0 : Kd.C k74 w A0 l0.length l0) (hc0 : l0.length ≤ c0) (hr1 : Kd.C k74 w A1 l1.length l1) (hc1 : l1.length ≤ c1) (hr2 : Kd.C k33 w A2 l2.length l2) (hc2 : l2.length ≤ c2) (hi : i64 x2) (hl0 : l0.length ≤ 9223372036854775807) (hl2 : l2.length * 40 ≤ 140737488351232) :
    Calls Try.prog 5 #[.agg #[.int .i64 x0, .slice A0 l0.length c0, .bool f0], .agg #[.int .i64 x1, .slice A1 l1.length c1, .bool f1], .agg #[.int .i64 x2, .slice A2 l2.length c2]] w fun e w' => e = .returned (.bool true) ∧ Below w.heap.size w w' := by
  have H0 := (((Hp.start w).came h74 0 rfl hr0).came h74 0 rfl hr1).came h33 0 rfl hr2
  clear hr0 hr1 hr2
  obtain ⟨k1, hk1⟩ := (recCommit_ev x2 l2 hi).rounds
  obtain ⟨k2, hk2⟩ := (refCommit_ev x2 l2 hi).rounds
  obtain ⟨hyb, hyl⟩ := commitR_bytes (l := l2) hi
  obtain ⟨⟨y, ec⟩, hy⟩ : ∃ q, commitR x2 l2 = q := ⟨_, rfl⟩
  rw [hy] at hk1 hk2 hyb hyl
  dsimp only at hyb hyl
  clear hy
  obtain ⟨k3, hk3⟩ := (takeCommit_ev hyb (by omega)).rounds
  have HLW := Aside0.mk (TC_len hyb)
  have T := fun A c hc => takeC_tr hyb (by omega) A c hc
  obtain ⟨⟨ts, lw, et⟩, ht⟩ : ∃ q, TC y = q := ⟨_, rfl⟩
  rw [ht] at hk3 T HLW
  dsimp only at HLW
  dsimp only at T
  clear ht
  obtain ⟨vs, h4, h5⟩ := sameKs_ev x0 x1 l0 l1 f0 f1 hl0
  obtain ⟨k4, hk4⟩ := h4.rounds
  obtain ⟨k5, hk5⟩ := h5.rounds
  obtain ⟨k6, hk6⟩ := (sameKd_ev x0 l0 f0 hl0).rounds
  obtain ⟨k7, hk7⟩ := (sameC_ev' x2 l2 (by omega)).rounds
  obtain ⟨k8, hk8⟩ := (sameC_ev' ts lw (by have := HLW.out; omega)).rounds
  have HK8 := Aside0.mk hk8
  clear hk8
  have HK1 := Aside0.mk hk1
  have HK2 := Aside0.mk hk2
  have HK3 := Aside0.mk hk3
  have HK4 := Aside0.mk hk4
  have HK5 := Aside0.mk hk5
  have HK6 := Aside0.mk hk6
  have HK7 := Aside0.mk hk7
  have HT := Aside0.mk T
  have HL2 := Aside0.mk hl2
  have HYL := Aside0.mk hyl
  have hc0' := Aside0.mk hc0
  have hc1' := Aside0.mk hc1
  have hc2' := Aside0.mk hc2
  clear hk1 hk2 hk3 hk4 hk5 hk6 hk7 T h4 h5 hyb hyl hl2 hc0 hc1 hc2 hl0 hi
  have HKM33 : ∀ (W : World) (x : S33) (cs : List Value), k33.K W x cs → k33.M W 0 (fun _ => False) x cs := fun _ x cs h => h
  go_enter Try.func5, Try.ntmps5
  go_wp2_with (first
    | ((with_reducible refine gate_dst (N := 3) rfl ?_); refine Hp.at_box H0 1 ?hg (N := 3) ?hd (cs := #[.int .i64 x0, .slice A0 l0.length c0, .bool f0]) (t := 27) ?hr ?_; (case hd => rfl); (case hg => rfl); (case hr => first | (go_simp; done) | (go_simp; rfl)); intro g3 w1 H1; clear H0)
    | ((with_reducible refine gate_dst (N := 4) rfl ?_); refine Hp.at_box H1 2 ?hg (N := 4) ?hd (cs := #[.int .i64 x1, .slice A1 l1.length c1, .bool f1]) (t := 27) ?hr ?_; (case hd => rfl); (case hg => rfl); (case hr => first | (go_simp; done) | (go_simp; rfl)); intro g4 w2 H2; clear H1)
    | ((with_reducible refine gate_dst (N := 5) rfl ?_); refine Hp.at_box H2 3 ?hg (N := 5) ?hd (cs := #[.int .i64 x2, .slice A2 l2.length c2]) (t := 24) ?hr ?_; (case hd => rfl); (case hg => rfl); (case hr => first | (go_simp; done) | (go_simp; rfl)); intro g5 w3 H3; clear H2)
    | ((with_reducible refine gate_dst (N := 20) rfl ?_); refine Hp.at_lit k33 H3 4 33 ?hg (N := 20) ?hd (xs := ([] : List S33)) (inner := []) ?hr ?hp (by simp) ?_; (case hd => rfl); (case hg => rfl); (case hr => first | (go_simp; done) | (go_simp; rfl)); (case hp => exact fun _ => Reps.none _ _); intro A4 c4 w4 hc4 H4; clear H3 hc4; have y0 := H4.cell 6 rfl 0 (v := .int .i64 x2) rfl; have y1 := H4.cell 6 rfl 1 (v := .slice A2 l2.length c2) rfl)
    | ((with_reducible refine gate_builtin (b := .append) (xs := #[.tmp 20, .tmp 22]) rfl ?_); at_builtin; refine Hp.at_append_rows k33 H4 7 rfl (.tmp 20) (.tmp 22) 22 33 (.agg #[.string ⟨#[]⟩, .string ⟨#[]⟩, .bool false]) 40 rfl Try.underlying22 info33 rfl (by decide) (by omega) _ [] l2 A2 l2.length c2 rfl rfl ?hs ?hx (H4.reads 3 rfl) (HKM33 _) (by have := HL2.out; show (0 + l2.length) * 40 ≤ _; omega) ?_; (case hs => rfl); (case hx => rfl); intro v5 w5 H5'; obtain ⟨A5, c5, rfl⟩ := H5'.fact 7 rfl (fun _ h => Kd.R_slice h); have H5 : Hp w w5 [(0, Asn.old w (fun _ => False)), (0, Asn.rd k74 A0 l0.length l0), (0, Asn.rd k74 A1 l1.length l1), (0, Asn.rd k33 A2 l2.length l2), (1, Asn.box g3 #[.int .i64 x0, .slice A0 l0.length c0, .bool f0] 27), (2, Asn.box g4 #[.int .i64 x1, .slice A1 l1.length c1, .bool f1] 27), (3, Asn.box g5 #[.int .i64 x2, .slice A2 l2.length c2] 24), (4, Asn.row k33 33 (.slice A5 l2.length c5) l2)] := H5'; clear H4 H5' y0 y1; have y0 := H5.cell 6 rfl 0 (v := .int .i64 x2) rfl; have y1 := H5.cell 6 rfl 1 (v := .slice A2 l2.length c2) rfl)
    | (go_at_call 24; refine (record_Commit.calls k1 x2 A2 c2 l2 y ec _ (H5.reads 3 rfl) hc2'.out HK1.out).mono ?_; rintro e w6 ⟨v6, rfl, hR, hb6⟩; clear y0 y1; have H6' := H5.made 5 hb6 hR; obtain ⟨A6, c6, rfl⟩ := Kd.R_slice hR; clear hR hb6 H5; have H6 : Hp w w6 [(0, Asn.old w (fun _ => False)), (0, Asn.rd k74 A0 l0.length l0), (0, Asn.rd k74 A1 l1.length l1), (0, Asn.rd k33 A2 l2.length l2), (1, Asn.box g3 #[.int .i64 x0, .slice A0 l0.length c0, .bool f0] 27), (2, Asn.box g4 #[.int .i64 x1, .slice A1 l1.length c1, .bool f1] 27), (3, Asn.box g5 #[.int .i64 x2, .slice A2 l2.length c2] 24), (4, Asn.row k33 33 (.slice A5 l2.length c5) l2), (5, Asn.row U8 5 (.slice A6 y.length c6) y)] := H6'; clear H6'))
  have HYG := Aside0.mk (show y.length < 8796093022208 by have := HYL.out; omega)
  have HX0 : Aside0 (y.length = 0 ∨ ∃ (g : Nat) (cs : Array Value), A6 = some ⟨g, 0, none⟩ ∧ y.length ≤ cs.size ∧ Hp w w6 [(0, Asn.old w (fun _ => False)), (0, Asn.rd k74 A0 l0.length l0), (0, Asn.rd k74 A1 l1.length l1), (0, Asn.rd k33 A2 l2.length l2), (1, Asn.box g3 #[.int .i64 x0, .slice A0 l0.length c0, .bool f0] 27), (2, Asn.box g4 #[.int .i64 x1, .slice A1 l1.length c1, .bool f1] 27), (3, Asn.box g5 #[.int .i64 x2, .slice A2 l2.length c2] 24), (4, Asn.row k33 33 (.slice A5 l2.length c5) l2), (5, Asn.box g cs 5)]) := ⟨by
    by_cases h0 : y.length = 0
    · exact .inl h0
    · obtain ⟨g, cs, h1, h2, h3⟩ := row_out H6 8 rfl (by omega)
      exact .inr ⟨g, cs, h1, by have h4 : y.length * 1 ≤ cs.size := h2; omega, h3⟩⟩
  have H6b : Hp w w6 [(0, Asn.old w (fun _ => False)), (0, Asn.rd k74 A0 l0.length l0), (0, Asn.rd k74 A1 l1.length l1), (0, Asn.rd k33 A2 l2.length l2), (1, Asn.box g3 #[.int .i64 x0, .slice A0 l0.length c0, .bool f0] 27), (2, Asn.box g4 #[.int .i64 x1, .slice A1 l1.length c1, .bool f1] 27), (3, Asn.box g5 #[.int .i64 x2, .slice A2 l2.length c2] 24), (4, Asn.row k33 33 (.slice A5 l2.length c5) l2)] := H6.keep [0, 1, 2, 3, 4, 5, 6, 7]
  clear H6
  go_loopg [31] y.length (fun gk v31 wr => ∃ i : Nat, v31 = .int .i64 i ∧ i ≤ y.length ∧ y.length - i ≤ gk ∧ Aside0 (Hp w wr [(0, Asn.old w (fun _ => False)), (0, Asn.rd k74 A0 l0.length l0), (0, Asn.rd k74 A1 l1.length l1), (0, Asn.rd k33 A2 l2.length l2), (1, Asn.box g3 #[.int .i64 x0, .slice A0 l0.length c0, .bool f0] 27), (2, Asn.box g4 #[.int .i64 x1, .slice A1 l1.length c1, .bool f1] 27), (3, Asn.box g5 #[.int .i64 x2, .slice A2 l2.length c2] 24), (4, Asn.row k33 33 (.slice A5 l2.length c5) l2)]) ∧ Aside0 (y.length = 0 ∨ ∃ (g : Nat) (cs : Array Value), A6 = some ⟨g, 0, none⟩ ∧ y.length ≤ cs.size ∧ Hp w wr [(0, Asn.old w (fun _ => False)), (0, Asn.rd k74 A0 l0.length l0), (0, Asn.rd k74 A1 l1.length l1), (0, Asn.rd k33 A2 l2.length l2), (1, Asn.box g3 #[.int .i64 x0, .slice A0 l0.length c0, .bool f0] 27), (2, Asn.box g4 #[.int .i64 x1, .slice A1 l1.length c1, .bool f1] 27), (3, Asn.box g5 #[.int .i64 x2, .slice A2 l2.length c2] 24), (4, Asn.row k33 33 (.slice A5 l2.length c5) l2), (5, Asn.box g cs 5)]))
  case atStart => exact ⟨0, rfl, Nat.zero_le _, by omega, ⟨H6b⟩, HX0⟩
  case round =>
    clear H6b HX0
    obtain ⟨i, rfl, hil, hgk, HB, HX⟩ := hrel
    by_cases hlt : i < y.length
    · have hltz : (i : Int) < (y.length : Int) := by omega
      rcases HX.out with h | ⟨g, cs, rfl, hcs, HC⟩
      · omega
      have x0 := HC.cell 8 rfl i (Array.getElem?_eq_getElem (show i < cs.size by omega))
      have u0 := HC.unfrozen 8 rfl i
      generalize cs[i]'(show i < cs.size by omega) = Z at x0
      have HC2 := Aside0.mk (HC.box_set 8 rfl rfl i (.int .u8 255))
      have hcs2 : Aside0 (y.length ≤ (cs.setIfInBounds i (.int .u8 255)).size) := ⟨by rw [Array.size_setIfInBounds]; exact hcs⟩
      generalize cs.setIfInBounds i (.int .u8 255) = cs2 at HC2 hcs2
      have HGK := Aside0.mk hgk
      clear HB HX HC hcs hgk
      go_wp2
      go_roundg (y.length - (i + 1))
      case measure => have := HGK.out; omega
      case rel => exact ⟨i + 1, by (have h9 := Cod.wr1 (x := (i : Int) + 1) (by omega) (by have := HYG.out; omega); simp [h9]), by omega, by omega, ⟨HC2.out.keep [0, 1, 2, 3, 4, 5, 6, 7]⟩, ⟨.inr ⟨g, cs2, rfl, hcs2.out, HC2.out⟩⟩⟩
    · have hle : i = y.length := by omega
      have hltz : ¬ (i : Int) < (y.length : Int) := by omega
      have H7 := HB.out
      clear HB HX hle hgk
      have y0 := H7.cell 6 rfl 0 (v := .int .i64 x2) rfl
      have y1 := H7.cell 6 rfl 1 (v := .slice A2 l2.length c2) rfl
      go_wp2_with (first
        | (go_at_call 25; refine (cressetref03_Commit.calls k2 x2 A2 c2 l2 y ec _ (H7.reads 3 rfl) hc2'.out HK2.out).mono ?_; rintro e w8 ⟨v8, rfl, hR, hb8⟩; clear y0 y1; have H8' := H7.made 5 hb8 hR; obtain ⟨A7, c7, rfl⟩ := Kd.R_slice hR; clear hR hb8 H7; have H8 : Hp w w8 [(0, Asn.old w (fun _ => False)), (0, Asn.rd k74 A0 l0.length l0), (0, Asn.rd k74 A1 l1.length l1), (0, Asn.rd k33 A2 l2.length l2), (1, Asn.box g3 #[.int .i64 x0, .slice A0 l0.length c0, .bool f0] 27), (2, Asn.box g4 #[.int .i64 x1, .slice A1 l1.length c1, .bool f1] 27), (3, Asn.box g5 #[.int .i64 x2, .slice A2 l2.length c2] 24), (4, Asn.row k33 33 (.slice A5 l2.length c5) l2), (5, Asn.row U8 5 (.slice A7 y.length c7) y)] := H8'; clear H8')
        | (go_at_call 31; refine (record_TakeCommit.calls k3 A7 c7 y ts lw et _ (H8.row_C 8 rfl).2.2 (H8.row_C 8 rfl).2.1 HK3.out).mono ?_; rintro e w9 ⟨v9, rfl, hR, hb9⟩; have H9' := H8.made 6 hb9 hR; obtain ⟨A8, c8, rfl⟩ := Kd.R_slice hR; clear hR hb9 H8; have H9 : Hp w w9 [(0, Asn.old w (fun _ => False)), (0, Asn.rd k74 A0 l0.length l0), (0, Asn.rd k74 A1 l1.length l1), (0, Asn.rd k33 A2 l2.length l2), (1, Asn.box g3 #[.int .i64 x0, .slice A0 l0.length c0, .bool f0] 27), (2, Asn.box g4 #[.int .i64 x1, .slice A1 l1.length c1, .bool f1] 27), (3, Asn.box g5 #[.int .i64 x2, .slice A2 l2.length c2] 24), (4, Asn.row k33 33 (.slice A5 l2.length c5) l2), (5, Asn.row U8 5 (.slice A7 y.length c7) y), (6, Asn.row k33 33 (.slice A8 lw.length c8) lw)] := H9'; clear H9')
        | ((with_reducible refine gate_dst (N := 13) rfl ?_); refine Hp.at_box H9 7 ?hg (N := 13) ?hd (cs := #[.int .i64 0, .slice none 0 0]) (t := 24) ?hr ?_; (case hd => rfl); (case hg => rfl); (case hr => first | (go_simp; done) | (go_simp; rfl)); intro g13 vg13 H10'; clear H9; have H10z : Hp w vg13 [(0, Asn.old w (fun _ => False)), (0, Asn.rd k74 A0 l0.length l0), (0, Asn.rd k74 A1 l1.length l1), (0, Asn.rd k33 A2 l2.length l2), (1, Asn.box g3 #[.int .i64 x0, .slice A0 l0.length c0, .bool f0] 27), (2, Asn.box g4 #[.int .i64 x1, .slice A1 l1.length c1, .bool f1] 27), (3, Asn.box g5 #[.int .i64 x2, .slice A2 l2.length c2] 24), (4, Asn.row k33 33 (.slice A5 l2.length c5) l2), (5, Asn.row U8 5 (.slice A7 y.length c7) y), (6, Asn.row k33 33 (.slice A8 lw.length c8) lw), (7, Asn.box g13 #[.int .i64 0, .slice none 0 0] 24)] := H10'; clear H10'; have q0 := H10z.cell 10 rfl 0 (v := .int .i64 0) rfl; have q1 := H10z.cell 10 rfl 1 (v := .slice none 0 0) rfl; have uq0 := H10z.unfrozen 10 rfl 0; have uq1 := H10z.unfrozen 10 rfl 1; have H10 : Hp w (sets g13 vg13 0 [.int .i64 ts, .slice A8 lw.length c8]) [(0, Asn.old w (fun _ => False)), (0, Asn.rd k74 A0 l0.length l0), (0, Asn.rd k74 A1 l1.length l1), (0, Asn.rd k33 A2 l2.length l2), (1, Asn.box g3 #[.int .i64 x0, .slice A0 l0.length c0, .bool f0] 27), (2, Asn.box g4 #[.int .i64 x1, .slice A1 l1.length c1, .bool f1] 27), (3, Asn.box g5 #[.int .i64 x2, .slice A2 l2.length c2] 24), (4, Asn.row k33 33 (.slice A5 l2.length c5) l2), (5, Asn.row U8 5 (.slice A7 y.length c7) y), (6, Asn.row k33 33 (.slice A8 lw.length c8) lw), (7, Asn.box g13 #[.int .i64 ts, .slice A8 lw.length c8] 24)] := Hp.box_sets (i := 7) (p := 10) [.int .i64 ts, .slice A8 lw.length c8] 0 _ _ _ H10z rfl rfl; simp only [sets] at H10; have z0 := H10.cell 10 rfl 0 (v := .int .i64 ts) rfl; have z1 := H10.cell 10 rfl 1 (v := .slice A8 lw.length c8) rfl))
      have hlw : lw.length ≤ 9223372036854775807 := (H10.row_C 9 rfl).2.2.2.1
      have HLG := Aside0.mk (show lw.length < 8796093022208 by have := HLW.out; omega)
      have HX0 : Aside0 (lw.length = 0 ∨ ∃ (g : Nat) (cs : Array Value), A8 = some ⟨g, 0, none⟩ ∧ lw.length * 3 ≤ cs.size ∧ Hp w (sets g13 vg13 0 [.int .i64 ts, .slice A8 lw.length c8]) [(0, Asn.old w (fun _ => False)), (0, Asn.rd k74 A0 l0.length l0), (0, Asn.rd k74 A1 l1.length l1), (0, Asn.rd k33 A2 l2.length l2), (1, Asn.box g3 #[.int .i64 x0, .slice A0 l0.length c0, .bool f0] 27), (2, Asn.box g4 #[.int .i64 x1, .slice A1 l1.length c1, .bool f1] 27), (3, Asn.box g5 #[.int .i64 x2, .slice A2 l2.length c2] 24), (4, Asn.row k33 33 (.slice A5 l2.length c5) l2), (5, Asn.row U8 5 (.slice A7 y.length c7) y), (6, Asn.box g cs 33), (7, Asn.box g13 #[.int .i64 ts, .slice A8 lw.length c8] 24)]) := ⟨by
        by_cases h0 : lw.length = 0
        · exact .inl h0
        · obtain ⟨g, cs, h1, h2, h3⟩ := row_out H10 9 rfl (by omega)
          exact .inr ⟨g, cs, h1, h2, h3⟩⟩
      have H10b : Hp w (sets g13 vg13 0 [.int .i64 ts, .slice A8 lw.length c8]) [(0, Asn.old w (fun _ => False)), (0, Asn.rd k74 A0 l0.length l0), (0, Asn.rd k74 A1 l1.length l1), (0, Asn.rd k33 A2 l2.length l2), (1, Asn.box g3 #[.int .i64 x0, .slice A0 l0.length c0, .bool f0] 27), (2, Asn.box g4 #[.int .i64 x1, .slice A1 l1.length c1, .bool f1] 27), (3, Asn.box g5 #[.int .i64 x2, .slice A2 l2.length c2] 24), (4, Asn.row k33 33 (.slice A5 l2.length c5) l2), (5, Asn.row U8 5 (.slice A7 y.length c7) y), (7, Asn.box g13 #[.int .i64 ts, .slice A8 lw.length c8] 24)] := H10.keep [0, 1, 2, 3, 4, 5, 6, 7, 8, 10]
      simp only [sets] at H10b HX0
      clear H10 H10z z0 z1 q0 q1 uq0 uq1 hlw
      go_loopg [51] lw.length (fun gk v51 wr => ∃ j : Nat, v51 = .int .i64 j ∧ j ≤ lw.length ∧ lw.length - j ≤ gk ∧ Aside0 (Hp w wr [(0, Asn.old w (fun _ => False)), (0, Asn.rd k74 A0 l0.length l0), (0, Asn.rd k74 A1 l1.length l1), (0, Asn.rd k33 A2 l2.length l2), (1, Asn.box g3 #[.int .i64 x0, .slice A0 l0.length c0, .bool f0] 27), (2, Asn.box g4 #[.int .i64 x1, .slice A1 l1.length c1, .bool f1] 27), (3, Asn.box g5 #[.int .i64 x2, .slice A2 l2.length c2] 24), (4, Asn.row k33 33 (.slice A5 l2.length c5) l2), (5, Asn.row U8 5 (.slice A7 y.length c7) y), (7, Asn.box g13 #[.int .i64 ts, .slice A8 lw.length c8] 24)]) ∧ Aside0 (lw.length = 0 ∨ ∃ (g : Nat) (cs : Array Value), A8 = some ⟨g, 0, none⟩ ∧ lw.length * 3 ≤ cs.size ∧ Hp w wr [(0, Asn.old w (fun _ => False)), (0, Asn.rd k74 A0 l0.length l0), (0, Asn.rd k74 A1 l1.length l1), (0, Asn.rd k33 A2 l2.length l2), (1, Asn.box g3 #[.int .i64 x0, .slice A0 l0.length c0, .bool f0] 27), (2, Asn.box g4 #[.int .i64 x1, .slice A1 l1.length c1, .bool f1] 27), (3, Asn.box g5 #[.int .i64 x2, .slice A2 l2.length c2] 24), (4, Asn.row k33 33 (.slice A5 l2.length c5) l2), (5, Asn.row U8 5 (.slice A7 y.length c7) y), (6, Asn.box g cs 33), (7, Asn.box g13 #[.int .i64 ts, .slice A8 lw.length c8] 24)]))
      case atStart => exact ⟨0, rfl, Nat.zero_le _, by omega, ⟨H10b⟩, HX0⟩
      case round =>
        clear H10b HX0
        obtain ⟨j, rfl, hjl, hgk, HB, HX⟩ := hrel
        by_cases hlt : j < lw.length
        · have hltz' : (j : Int) < (lw.length : Int) := by omega
          rcases HX.out with h | ⟨g, cs, rfl, hcs, HC⟩
          · omega
          have x0 := HC.cell 9 rfl (j * 3) (Array.getElem?_eq_getElem (show j * 3 < cs.size by omega))
          have u0 := HC.unfrozen 9 rfl (j * 3)
          have z1 := HC.cell 10 rfl 1 (v := .slice (some ⟨g, 0, none⟩) lw.length c8) rfl
          generalize cs[j * 3]'(show j * 3 < cs.size by omega) = Z at x0
          have HC2 := Aside0.mk (HC.box_set 9 rfl rfl (j * 3) (.string (⟨#[115, 112, 111, 105, 108, 116]⟩ : ByteArray)))
          have hcs2 : Aside0 (lw.length * 3 ≤ (cs.setIfInBounds (j * 3) (.string (⟨#[115, 112, 111, 105, 108, 116]⟩ : ByteArray))).size) := ⟨by rw [Array.size_setIfInBounds]; exact hcs⟩
          generalize cs.setIfInBounds (j * 3) (.string (⟨#[115, 112, 111, 105, 108, 116]⟩ : ByteArray)) = cs2 at HC2 hcs2
          have HGK := Aside0.mk hgk
          clear HB HX HC hcs hgk
          go_wp2
          go_roundg (lw.length - (j + 1))
          case measure => have := HGK.out; omega
          case rel => exact ⟨j + 1, by (have h9 := Cod.wr1 (x := (j : Int) + 1) (by omega) (by have := HLG.out; omega); simp [h9]), by omega, by omega, ⟨HC2.out.keep [0, 1, 2, 3, 4, 5, 6, 7, 8, 10]⟩, ⟨.inr ⟨g, cs2, rfl, hcs2.out, HC2.out⟩⟩⟩
        · have hle : j = lw.length := by omega
          have hltz' : ¬ (j : Int) < (lw.length : Int) := by omega
          have H11 := HB.out
          clear HB HX hle hgk
          go_upto_region 17 with (first
            | (go_at_call 31; refine (record_TakeCommit.calls k3 A7 c7 y ts lw et _ (H11.row_C 8 rfl).2.2 (H11.row_C 8 rfl).2.1 HK3.out).mono ?_; rintro e w12 ⟨v12, rfl, hR, hb12⟩; have H12' := H11.made 8 hb12 hR; obtain ⟨A9, c9, rfl⟩ := Kd.R_slice hR; clear hR hb12 H11; have H12 : Hp w w12 [(0, Asn.old w (fun _ => False)), (0, Asn.rd k74 A0 l0.length l0), (0, Asn.rd k74 A1 l1.length l1), (0, Asn.rd k33 A2 l2.length l2), (1, Asn.box g3 #[.int .i64 x0, .slice A0 l0.length c0, .bool f0] 27), (2, Asn.box g4 #[.int .i64 x1, .slice A1 l1.length c1, .bool f1] 27), (3, Asn.box g5 #[.int .i64 x2, .slice A2 l2.length c2] 24), (4, Asn.row k33 33 (.slice A5 l2.length c5) l2), (5, Asn.row U8 5 (.slice A7 y.length c7) y), (7, Asn.box g13 #[.int .i64 ts, .slice A8 lw.length c8] 24), (8, Asn.row k33 33 (.slice A9 lw.length c9) lw)] := H12'; clear H12')
            | ((with_reducible refine gate_dst (N := 16) rfl ?_); refine Hp.at_box H12 9 ?hg (N := 16) ?hd (cs := #[.int .i64 0, .slice none 0 0]) (t := 24) ?hr ?_; (case hd => rfl); (case hg => rfl); (case hr => first | (go_simp; done) | (go_simp; rfl)); intro g16 vg16 H13'; clear H12; have H13z : Hp w vg16 [(0, Asn.old w (fun _ => False)), (0, Asn.rd k74 A0 l0.length l0), (0, Asn.rd k74 A1 l1.length l1), (0, Asn.rd k33 A2 l2.length l2), (1, Asn.box g3 #[.int .i64 x0, .slice A0 l0.length c0, .bool f0] 27), (2, Asn.box g4 #[.int .i64 x1, .slice A1 l1.length c1, .bool f1] 27), (3, Asn.box g5 #[.int .i64 x2, .slice A2 l2.length c2] 24), (4, Asn.row k33 33 (.slice A5 l2.length c5) l2), (5, Asn.row U8 5 (.slice A7 y.length c7) y), (7, Asn.box g13 #[.int .i64 ts, .slice A8 lw.length c8] 24), (8, Asn.row k33 33 (.slice A9 lw.length c9) lw), (9, Asn.box g16 #[.int .i64 0, .slice none 0 0] 24)] := H13'; clear H13'; have q0 := H13z.cell 11 rfl 0 (v := .int .i64 0) rfl; have q1 := H13z.cell 11 rfl 1 (v := .slice none 0 0) rfl; have uq0 := H13z.unfrozen 11 rfl 0; have uq1 := H13z.unfrozen 11 rfl 1; have H13 : Hp w (sets g16 vg16 0 [.int .i64 ts, .slice A9 lw.length c9]) [(0, Asn.old w (fun _ => False)), (0, Asn.rd k74 A0 l0.length l0), (0, Asn.rd k74 A1 l1.length l1), (0, Asn.rd k33 A2 l2.length l2), (1, Asn.box g3 #[.int .i64 x0, .slice A0 l0.length c0, .bool f0] 27), (2, Asn.box g4 #[.int .i64 x1, .slice A1 l1.length c1, .bool f1] 27), (3, Asn.box g5 #[.int .i64 x2, .slice A2 l2.length c2] 24), (4, Asn.row k33 33 (.slice A5 l2.length c5) l2), (5, Asn.row U8 5 (.slice A7 y.length c7) y), (7, Asn.box g13 #[.int .i64 ts, .slice A8 lw.length c8] 24), (8, Asn.row k33 33 (.slice A9 lw.length c9) lw), (9, Asn.box g16 #[.int .i64 ts, .slice A9 lw.length c9] 24)] := Hp.box_sets (i := 9) (p := 11) [.int .i64 ts, .slice A9 lw.length c9] 0 _ _ _ H13z rfl rfl; simp only [sets] at H13)
            | (go_at_call 32; refine (H13.make 10 (HT.out A7 c7 (H13.row_C 8 rfl).2.1) (fun lab h => (Asn.rd U8 A7 _ y).mono (row_rd (h.get (p := 8) rfl)) (fun _ _ _ => trivial))).mono ?_; rintro e w14 ⟨r, rfl, H'⟩; clear q0 q1 uq0 uq1 H13z H13; obtain ⟨vv, H''⟩ := H'.open_ 12 rfl; obtain rfl := H''.fact 12 rfl (fun S h => h.1); obtain ⟨A10, c10, rfl⟩ := H''.fact 12 rfl (fun S h => Kd.R_slice h.2); have H14 : Hp w w14 [(0, Asn.old w (fun _ => False)), (0, Asn.rd k74 A0 l0.length l0), (0, Asn.rd k74 A1 l1.length l1), (0, Asn.rd k33 A2 l2.length l2), (1, Asn.box g3 #[.int .i64 x0, .slice A0 l0.length c0, .bool f0] 27), (2, Asn.box g4 #[.int .i64 x1, .slice A1 l1.length c1, .bool f1] 27), (3, Asn.box g5 #[.int .i64 x2, .slice A2 l2.length c2] 24), (4, Asn.row k33 33 (.slice A5 l2.length c5) l2), (5, Asn.row U8 5 (.slice A7 y.length c7) y), (7, Asn.box g13 #[.int .i64 ts, .slice A8 lw.length c8] 24), (8, Asn.row k33 33 (.slice A9 lw.length c9) lw), (9, Asn.box g16 #[.int .i64 ts, .slice A9 lw.length c9] 24), (10, Asn.row k33 33 (.slice A10 lw.length c10) lw)] := H''.imp 12 rfl (fun S h => h.2); clear H' H'')
            | ((with_reducible refine gate_dst (N := 18) rfl ?_); refine Hp.at_box H14 11 ?hg (N := 18) ?hd (cs := #[.int .i64 0, .slice none 0 0]) (t := 24) ?hr ?_; (case hd => rfl); (case hg => rfl); (case hr => first | (go_simp; done) | (go_simp; rfl)); intro g18 vg18 H15'; clear H14; have H15z : Hp w vg18 [(0, Asn.old w (fun _ => False)), (0, Asn.rd k74 A0 l0.length l0), (0, Asn.rd k74 A1 l1.length l1), (0, Asn.rd k33 A2 l2.length l2), (1, Asn.box g3 #[.int .i64 x0, .slice A0 l0.length c0, .bool f0] 27), (2, Asn.box g4 #[.int .i64 x1, .slice A1 l1.length c1, .bool f1] 27), (3, Asn.box g5 #[.int .i64 x2, .slice A2 l2.length c2] 24), (4, Asn.row k33 33 (.slice A5 l2.length c5) l2), (5, Asn.row U8 5 (.slice A7 y.length c7) y), (7, Asn.box g13 #[.int .i64 ts, .slice A8 lw.length c8] 24), (8, Asn.row k33 33 (.slice A9 lw.length c9) lw), (9, Asn.box g16 #[.int .i64 ts, .slice A9 lw.length c9] 24), (10, Asn.row k33 33 (.slice A10 lw.length c10) lw), (11, Asn.box g18 #[.int .i64 0, .slice none 0 0] 24)] := H15'; clear H15'; have q0 := H15z.cell 13 rfl 0 (v := .int .i64 0) rfl; have q1 := H15z.cell 13 rfl 1 (v := .slice none 0 0) rfl; have uq0 := H15z.unfrozen 13 rfl 0; have uq1 := H15z.unfrozen 13 rfl 1; have H15 : Hp w (sets g18 vg18 0 [.int .i64 ts, .slice A10 lw.length c10]) [(0, Asn.old w (fun _ => False)), (0, Asn.rd k74 A0 l0.length l0), (0, Asn.rd k74 A1 l1.length l1), (0, Asn.rd k33 A2 l2.length l2), (1, Asn.box g3 #[.int .i64 x0, .slice A0 l0.length c0, .bool f0] 27), (2, Asn.box g4 #[.int .i64 x1, .slice A1 l1.length c1, .bool f1] 27), (3, Asn.box g5 #[.int .i64 x2, .slice A2 l2.length c2] 24), (4, Asn.row k33 33 (.slice A5 l2.length c5) l2), (5, Asn.row U8 5 (.slice A7 y.length c7) y), (7, Asn.box g13 #[.int .i64 ts, .slice A8 lw.length c8] 24), (8, Asn.row k33 33 (.slice A9 lw.length c9) lw), (9, Asn.box g16 #[.int .i64 ts, .slice A9 lw.length c9] 24), (10, Asn.row k33 33 (.slice A10 lw.length c10) lw), (11, Asn.box g18 #[.int .i64 ts, .slice A10 lw.length c10] 24)] := Hp.box_sets (i := 11) (p := 13) [.int .i64 ts, .slice A10 lw.length c10] 0 _ _ _ H15z rfl rfl; simp only [sets] at H15))
          have HD := H15.drew
          clear H15z q0 q1 uq0 uq1
          refine start_ (n := 29) (S := fun w' => w'.cell? ⟨g3, 0, none⟩ = some (.int .i64 x0) ∧ w'.cell? ⟨g3, 1, none⟩ = some (.slice A0 l0.length c0) ∧ w'.cell? ⟨g3, 2, none⟩ = some (.bool f0) ∧ w'.cell? ⟨g4, 0, none⟩ = some (.int .i64 x1) ∧ w'.cell? ⟨g4, 1, none⟩ = some (.slice A1 l1.length c1) ∧ w'.cell? ⟨g4, 2, none⟩ = some (.bool f1) ∧ w'.cell? ⟨g5, 0, none⟩ = some (.int .i64 x2) ∧ w'.cell? ⟨g5, 1, none⟩ = some (.slice A2 l2.length c2) ∧ w'.cell? ⟨g16, 0, none⟩ = some (.int .i64 ts) ∧ w'.cell? ⟨g16, 1, none⟩ = some (.slice A9 lw.length c9) ∧ w'.cell? ⟨g18, 0, none⟩ = some (.int .i64 ts) ∧ w'.cell? ⟨g18, 1, none⟩ = some (.slice A10 lw.length c10)) (ds := []) #[false, false, false, false, false, false, false, false, false, false, false, false, false, false, false, false, false, false, false, false, false, false, false, false, false, false, false, false, false] (by kernel_rfl) rfl rfl ⟨(HD.cell 4 rfl 0 (v := .int .i64 x0) rfl), (HD.cell 4 rfl 1 (v := .slice A0 l0.length c0) rfl), (HD.cell 4 rfl 2 (v := .bool f0) rfl), (HD.cell 5 rfl 0 (v := .int .i64 x1) rfl), (HD.cell 5 rfl 1 (v := .slice A1 l1.length c1) rfl), (HD.cell 5 rfl 2 (v := .bool f1) rfl), (HD.cell 6 rfl 0 (v := .int .i64 x2) rfl), (HD.cell 6 rfl 1 (v := .slice A2 l2.length c2) rfl), (HD.cell 11 rfl 0 (v := .int .i64 ts) rfl), (HD.cell 11 rfl 1 (v := .slice A9 lw.length c9) rfl), (HD.cell 13 rfl 0 (v := .int .i64 ts) rfl), (HD.cell 13 rfl 1 (v := .slice A10 lw.length c10) rfl)⟩ (fun hHeld => ?_); refine with_tabW rsT.tab17 rsT.bits17 (fun HT_ HW_ => ?_)
          refine one_ (i := 0) (N := some 70) #[true, false, false, false, false, false, false, false, false, false, false, false, false, false, false, false, false, false, false, false, false, false, false, false, false, false, false, false, false] rfl rfl (one_of HT_.out (by kernel_rfl)) (by decide) (fun Kx_ hKx_ => ?_)
          refine goes_ Try.func17 (by kernel_rfl) rfl #[] (by rfl) rfl rfl (by (try simp only [List.map_toArray, List.map_cons, List.map_nil]); first | done | rfl) ?_
          refine (cressetlaw03_live.calls 0 true _ rfl).mono ?_
          rintro e w16 ⟨rfl, hb1⟩
          have H16 := HD.same hb1
          clear hb1
          refine ⟨_, rfl, ?_⟩
          refine hKx_.out _ _ ⟨(H16.cell 4 rfl 0 (v := .int .i64 x0) rfl), (H16.cell 4 rfl 1 (v := .slice A0 l0.length c0) rfl), (H16.cell 4 rfl 2 (v := .bool f0) rfl), (H16.cell 5 rfl 0 (v := .int .i64 x1) rfl), (H16.cell 5 rfl 1 (v := .slice A1 l1.length c1) rfl), (H16.cell 5 rfl 2 (v := .bool f1) rfl), (H16.cell 6 rfl 0 (v := .int .i64 x2) rfl), (H16.cell 6 rfl 1 (v := .slice A2 l2.length c2) rfl), (H16.cell 11 rfl 0 (v := .int .i64 ts) rfl), (H16.cell 11 rfl 1 (v := .slice A9 lw.length c9) rfl), (H16.cell 13 rfl 0 (v := .int .i64 ts) rfl), (H16.cell 13 rfl 1 (v := .slice A10 lw.length c10) rfl)⟩ (fun hHeld => ?_)
          clear hKx_ Kx_
          refine norm_ (a' := ?_) ?_ ?_
          rotate_left
          · show Act.put _ (some 70) _ = _
            simp only [Act.put, List.setIfInBounds_toArray, List.set_cons_zero, List.set_cons_succ, i64_w, i32_w]
            rfl
          refine pure_ (i := 1) (N := some 71) (v := ?_) (a' := ?_) #[true, true, false, false, false, false, false, false, false, false, false, false, false, false, false, false, false, false, false, false, false, false, false, false, false, false, false, false, false] rfl rfl (any_of HT_.out (by kernel_rfl)) (fun _ _ _ h => h) (Or.inl ⟨by rfl, ?_⟩) ?_ ?_
          rotate_left
          · intro w'
            go_simp
            with_reducible rfl
          rotate_left
          · simp only [Act.put, List.setIfInBounds_toArray, List.set_cons_zero, List.set_cons_succ, i64_w, i32_w]
            rfl
          refine take_ (i := 2) (N := some 72) (v := ?_) (a' := ?_) #[true, true, true, false, false, false, false, false, false, false, false, false, false, false, false, false, false, false, false, false, false, false, false, false, false, false, false, false, false] rfl rfl (take_ofW HT_.out HW_.out (by kernel_rfl)) (fun _ _ _ h => h) (Or.inl ⟨by rfl, ?_⟩) hHeld ?_ ?_
          rotate_left
          · rintro w' ⟨s0, s1, s2, s3, s4, s5, s6, s7, s8, s9, s10, s11⟩
            go_simp
            with_reducible rfl
          rotate_left
          · simp only [Act.put, List.setIfInBounds_toArray, List.set_cons_zero, List.set_cons_succ, i64_w, i32_w]
            rfl
          refine take_ (i := 3) (N := some 73) (v := ?_) (a' := ?_) #[true, true, true, true, false, false, false, false, false, false, false, false, false, false, false, false, false, false, false, false, false, false, false, false, false, false, false, false, false] rfl rfl (take_ofW HT_.out HW_.out (by kernel_rfl)) (fun _ _ _ h => h) (Or.inl ⟨by rfl, ?_⟩) hHeld ?_ ?_
          rotate_left
          · rintro w' ⟨s0, s1, s2, s3, s4, s5, s6, s7, s8, s9, s10, s11⟩
            go_simp
            with_reducible rfl
          rotate_left
          · simp only [Act.put, List.setIfInBounds_toArray, List.set_cons_zero, List.set_cons_succ, i64_w, i32_w]
            rfl
          refine take_ (i := 5) (N := some 75) (v := ?_) (a' := ?_) #[true, true, true, true, false, true, false, false, false, false, false, false, false, false, false, false, false, false, false, false, false, false, false, false, false, false, false, false, false] rfl rfl (take_ofW HT_.out HW_.out (by kernel_rfl)) (fun _ _ _ h => h) (Or.inl ⟨by rfl, ?_⟩) hHeld ?_ ?_
          rotate_left
          · rintro w' ⟨s0, s1, s2, s3, s4, s5, s6, s7, s8, s9, s10, s11⟩
            go_simp
            with_reducible rfl
          rotate_left
          · simp only [Act.put, List.setIfInBounds_toArray, List.set_cons_zero, List.set_cons_succ, i64_w, i32_w]
            rfl
          refine take_ (i := 6) (N := some 76) (v := ?_) (a' := ?_) #[true, true, true, true, false, true, true, false, false, false, false, false, false, false, false, false, false, false, false, false, false, false, false, false, false, false, false, false, false] rfl rfl (take_ofW HT_.out HW_.out (by kernel_rfl)) (fun _ _ _ h => h) (Or.inl ⟨by rfl, ?_⟩) hHeld ?_ ?_
          rotate_left
          · rintro w' ⟨s0, s1, s2, s3, s4, s5, s6, s7, s8, s9, s10, s11⟩
            go_simp
            with_reducible rfl
          rotate_left
          · simp only [Act.put, List.setIfInBounds_toArray, List.set_cons_zero, List.set_cons_succ, i64_w, i32_w]
            rfl
          refine one_ (i := 4) (N := some 74) #[true, true, true, true, true, true, true, false, false, false, false, false, false, false, false, false, false, false, false, false, false, false, false, false, false, false, false, false, false] rfl rfl (one_of HT_.out (by kernel_rfl)) (by decide) (fun Kx_ hKx_ => ?_)
          refine goes_ Try.func33 (by kernel_rfl) rfl #[.agg #[.int .i64 x0, .slice A0 l0.length c0, .bool f0], .agg #[.int .i64 x1, .slice A1 l1.length c1, .bool f1]] (by rfl) rfl rfl (by (try simp only [List.map_toArray, List.map_cons, List.map_nil]); first | done | rfl) ?_
          refine (record_SameChunk.calls k4 x0 A0 c0 l0 f0 x1 A1 c1 l1 f1 vs _ (H16.reads 1 rfl) hc0'.out (H16.reads 2 rfl) hc1'.out HK4.out).mono ?_
          rintro e w17 ⟨rfl, hb1⟩
          have H17 := H16.same hb1
          clear hb1
          refine ⟨_, rfl, ?_⟩
          refine hKx_.out _ _ ⟨(H17.cell 4 rfl 0 (v := .int .i64 x0) rfl), (H17.cell 4 rfl 1 (v := .slice A0 l0.length c0) rfl), (H17.cell 4 rfl 2 (v := .bool f0) rfl), (H17.cell 5 rfl 0 (v := .int .i64 x1) rfl), (H17.cell 5 rfl 1 (v := .slice A1 l1.length c1) rfl), (H17.cell 5 rfl 2 (v := .bool f1) rfl), (H17.cell 6 rfl 0 (v := .int .i64 x2) rfl), (H17.cell 6 rfl 1 (v := .slice A2 l2.length c2) rfl), (H17.cell 11 rfl 0 (v := .int .i64 ts) rfl), (H17.cell 11 rfl 1 (v := .slice A9 lw.length c9) rfl), (H17.cell 13 rfl 0 (v := .int .i64 ts) rfl), (H17.cell 13 rfl 1 (v := .slice A10 lw.length c10) rfl)⟩ (fun hHeld => ?_)
          clear hKx_ Kx_
          refine norm_ (a' := ?_) ?_ ?_
          rotate_left
          · show Act.put _ (some 74) _ = _
            simp only [Act.put, List.setIfInBounds_toArray, List.set_cons_zero, List.set_cons_succ, i64_w, i32_w]
            rfl
          refine one_ (i := 7) (N := some 77) #[true, true, true, true, true, true, true, true, false, false, false, false, false, false, false, false, false, false, false, false, false, false, false, false, false, false, false, false, false] rfl rfl (one_of HT_.out (by kernel_rfl)) (by decide) (fun Kx_ hKx_ => ?_)
          refine goes_ Try.func34 (by kernel_rfl) rfl #[.agg #[.int .i64 x0, .slice A0 l0.length c0, .bool f0], .agg #[.int .i64 x1, .slice A1 l1.length c1, .bool f1]] (by rfl) rfl rfl (by (try simp only [List.map_toArray, List.map_cons, List.map_nil]); first | done | rfl) ?_
          refine (cressetref03_SameChunk.calls k5 x0 A0 c0 l0 f0 x1 A1 c1 l1 f1 vs _ (H17.reads 1 rfl) hc0'.out (H17.reads 2 rfl) hc1'.out HK5.out).mono ?_
          rintro e w18 ⟨rfl, hb1⟩
          have H18 := H17.same hb1
          clear hb1
          refine ⟨_, rfl, ?_⟩
          refine hKx_.out _ _ ⟨(H18.cell 4 rfl 0 (v := .int .i64 x0) rfl), (H18.cell 4 rfl 1 (v := .slice A0 l0.length c0) rfl), (H18.cell 4 rfl 2 (v := .bool f0) rfl), (H18.cell 5 rfl 0 (v := .int .i64 x1) rfl), (H18.cell 5 rfl 1 (v := .slice A1 l1.length c1) rfl), (H18.cell 5 rfl 2 (v := .bool f1) rfl), (H18.cell 6 rfl 0 (v := .int .i64 x2) rfl), (H18.cell 6 rfl 1 (v := .slice A2 l2.length c2) rfl), (H18.cell 11 rfl 0 (v := .int .i64 ts) rfl), (H18.cell 11 rfl 1 (v := .slice A9 lw.length c9) rfl), (H18.cell 13 rfl 0 (v := .int .i64 ts) rfl), (H18.cell 13 rfl 1 (v := .slice A10 lw.length c10) rfl)⟩ (fun hHeld => ?_)
          clear hKx_ Kx_
          refine norm_ (a' := ?_) ?_ ?_
          rotate_left
          · show Act.put _ (some 77) _ = _
            simp only [Act.put, List.setIfInBounds_toArray, List.set_cons_zero, List.set_cons_succ, i64_w, i32_w]
            rfl
          refine pure_ (i := 8) (N := some 78) (v := ?_) (a' := ?_) #[true, true, true, true, true, true, true, true, true, false, false, false, false, false, false, false, false, false, false, false, false, false, false, false, false, false, false, false, false] rfl rfl (any_of HT_.out (by kernel_rfl)) (fun _ _ _ h => h) (Or.inl ⟨by rfl, ?_⟩) ?_ ?_
          rotate_left
          · intro w'
            go_simp
            with_reducible rfl
          rotate_left
          · simp only [Act.put, List.setIfInBounds_toArray, List.set_cons_zero, List.set_cons_succ, i64_w, i32_w]
            rfl
          refine pure_ (i := 9) (N := some 79) (v := ?_) (a' := ?_) #[true, true, true, true, true, true, true, true, true, true, false, false, false, false, false, false, false, false, false, false, false, false, false, false, false, false, false, false, false] rfl rfl (any_of HT_.out (by kernel_rfl)) (fun _ _ _ h => h) (Or.inl ⟨by rfl, ?_⟩) ?_ ?_
          rotate_left
          · intro w'
            go_simp
            with_reducible rfl
          rotate_left
          · simp only [Act.put, List.setIfInBounds_toArray, List.set_cons_zero, List.set_cons_succ, i64_w, i32_w]
            rfl
          refine pure_ (i := 10) (N := some 80) (v := ?_) (a' := ?_) #[true, true, true, true, true, true, true, true, true, true, true, false, false, false, false, false, false, false, false, false, false, false, false, false, false, false, false, false, false] rfl rfl (any_of HT_.out (by kernel_rfl)) (fun _ _ _ h => h) (Or.inl ⟨by rfl, ?_⟩) ?_ ?_
          rotate_left
          · intro w'
            go_simp
            with_reducible rfl
          rotate_left
          · simp only [Act.put, List.setIfInBounds_toArray, List.set_cons_zero, List.set_cons_succ, i64_w, i32_w]
            rfl
          refine take_ (i := 11) (N := some 81) (v := ?_) (a' := ?_) #[true, true, true, true, true, true, true, true, true, true, true, true, false, false, false, false, false, false, false, false, false, false, false, false, false, false, false, false, false] rfl rfl (take_ofW HT_.out HW_.out (by kernel_rfl)) (fun _ _ _ h => h) (Or.inl ⟨by rfl, ?_⟩) hHeld ?_ ?_
          rotate_left
          · rintro w' ⟨s0, s1, s2, s3, s4, s5, s6, s7, s8, s9, s10, s11⟩
            go_simp
            with_reducible rfl
          rotate_left
          · simp only [Act.put, List.setIfInBounds_toArray, List.set_cons_zero, List.set_cons_succ, i64_w, i32_w]
            rfl
          refine take_ (i := 12) (N := some 82) (v := ?_) (a' := ?_) #[true, true, true, true, true, true, true, true, true, true, true, true, true, false, false, false, false, false, false, false, false, false, false, false, false, false, false, false, false] rfl rfl (take_ofW HT_.out HW_.out (by kernel_rfl)) (fun _ _ _ h => h) (Or.inl ⟨by rfl, ?_⟩) hHeld ?_ ?_
          rotate_left
          · rintro w' ⟨s0, s1, s2, s3, s4, s5, s6, s7, s8, s9, s10, s11⟩
            go_simp
            with_reducible rfl
          rotate_left
          · simp only [Act.put, List.setIfInBounds_toArray, List.set_cons_zero, List.set_cons_succ, i64_w, i32_w]
            rfl
          refine one_ (i := 13) (N := some 83) #[true, true, true, true, true, true, true, true, true, true, true, true, true, true, false, false, false, false, false, false, false, false, false, false, false, false, false, false, false] rfl rfl (one_of HT_.out (by kernel_rfl)) (by decide) (fun Kx_ hKx_ => ?_)
          refine goes_ Try.func33 (by kernel_rfl) rfl #[.agg #[.int .i64 x0, .slice A0 l0.length c0, .bool f0], .agg #[.int .i64 x0, .slice A0 l0.length c0, .bool f0]] (by rfl) rfl rfl (by (try simp only [List.map_toArray, List.map_cons, List.map_nil]); first | done | rfl) ?_
          refine (record_SameChunk.calls k6 x0 A0 c0 l0 f0 x0 A0 c0 l0 f0 true _ (H18.reads 1 rfl) hc0'.out (H18.reads 1 rfl) hc0'.out HK6.out).mono ?_
          rintro e w19 ⟨rfl, hb1⟩
          have H19 := H18.same hb1
          clear hb1
          refine ⟨_, rfl, ?_⟩
          refine hKx_.out _ _ ⟨(H19.cell 4 rfl 0 (v := .int .i64 x0) rfl), (H19.cell 4 rfl 1 (v := .slice A0 l0.length c0) rfl), (H19.cell 4 rfl 2 (v := .bool f0) rfl), (H19.cell 5 rfl 0 (v := .int .i64 x1) rfl), (H19.cell 5 rfl 1 (v := .slice A1 l1.length c1) rfl), (H19.cell 5 rfl 2 (v := .bool f1) rfl), (H19.cell 6 rfl 0 (v := .int .i64 x2) rfl), (H19.cell 6 rfl 1 (v := .slice A2 l2.length c2) rfl), (H19.cell 11 rfl 0 (v := .int .i64 ts) rfl), (H19.cell 11 rfl 1 (v := .slice A9 lw.length c9) rfl), (H19.cell 13 rfl 0 (v := .int .i64 ts) rfl), (H19.cell 13 rfl 1 (v := .slice A10 lw.length c10) rfl)⟩ (fun hHeld => ?_)
          clear hKx_ Kx_
          refine norm_ (a' := ?_) ?_ ?_
          rotate_left
          · show Act.put _ (some 83) _ = _
            simp only [Act.put, List.setIfInBounds_toArray, List.set_cons_zero, List.set_cons_succ, i64_w, i32_w]
            rfl
          refine pure_ (i := 14) (N := some 84) (v := ?_) (a' := ?_) #[true, true, true, true, true, true, true, true, true, true, true, true, true, true, true, false, false, false, false, false, false, false, false, false, false, false, false, false, false] rfl rfl (any_of HT_.out (by kernel_rfl)) (fun _ _ _ h => h) (Or.inl ⟨by rfl, ?_⟩) ?_ ?_
          rotate_left
          · intro w'
            go_simp
            with_reducible rfl
          rotate_left
          · simp only [Act.put, List.setIfInBounds_toArray, List.set_cons_zero, List.set_cons_succ, i64_w, i32_w]
            rfl
          refine pure_ (i := 15) (N := some 85) (v := ?_) (a' := ?_) #[true, true, true, true, true, true, true, true, true, true, true, true, true, true, true, true, false, false, false, false, false, false, false, false, false, false, false, false, false] rfl rfl (any_of HT_.out (by kernel_rfl)) (fun _ _ _ h => h) (Or.inl ⟨by rfl, ?_⟩) ?_ ?_
          rotate_left
          · intro w'
            go_simp
            with_reducible rfl
          rotate_left
          · simp only [Act.put, List.setIfInBounds_toArray, List.set_cons_zero, List.set_cons_succ, i64_w, i32_w]
            rfl
          refine pure_ (i := 17) (N := some 87) (v := ?_) (a' := ?_) #[true, true, true, true, true, true, true, true, true, true, true, true, true, true, true, true, false, true, false, false, false, false, false, false, false, false, false, false, false] rfl rfl (any_of HT_.out (by kernel_rfl)) (fun _ _ _ h => h) (Or.inl ⟨by rfl, ?_⟩) ?_ ?_
          rotate_left
          · intro w'
            go_simp
            with_reducible rfl
          rotate_left
          · simp only [Act.put, List.setIfInBounds_toArray, List.set_cons_zero, List.set_cons_succ, i64_w, i32_w]
            rfl
          refine pure_ (i := 19) (N := some 89) (v := ?_) (a' := ?_) #[true, true, true, true, true, true, true, true, true, true, true, true, true, true, true, true, false, true, false, true, false, false, false, false, false, false, false, false, false] rfl rfl (any_of HT_.out (by kernel_rfl)) (fun _ _ _ h => h) (Or.inl ⟨by rfl, ?_⟩) ?_ ?_
          rotate_left
          · intro w'
            go_simp
            with_reducible rfl
          rotate_left
          · simp only [Act.put, List.setIfInBounds_toArray, List.set_cons_zero, List.set_cons_succ, i64_w, i32_w]
            rfl
          refine take_ (i := 16) (N := some 86) (v := ?_) (a' := ?_) #[true, true, true, true, true, true, true, true, true, true, true, true, true, true, true, true, true, true, false, true, false, false, false, false, false, false, false, false, false] rfl rfl (take_ofW HT_.out HW_.out (by kernel_rfl)) (fun _ _ _ h => h) (Or.inl ⟨by rfl, ?_⟩) hHeld ?_ ?_
          rotate_left
          · rintro w' ⟨s0, s1, s2, s3, s4, s5, s6, s7, s8, s9, s10, s11⟩
            go_simp
            with_reducible rfl
          rotate_left
          · simp only [Act.put, List.setIfInBounds_toArray, List.set_cons_zero, List.set_cons_succ, i64_w, i32_w]
            rfl
          refine take_ (i := 18) (N := some 88) (v := ?_) (a' := ?_) #[true, true, true, true, true, true, true, true, true, true, true, true, true, true, true, true, true, true, true, true, false, false, false, false, false, false, false, false, false] rfl rfl (take_ofW HT_.out HW_.out (by kernel_rfl)) (fun _ _ _ h => h) (Or.inl ⟨by rfl, ?_⟩) hHeld ?_ ?_
          rotate_left
          · rintro w' ⟨s0, s1, s2, s3, s4, s5, s6, s7, s8, s9, s10, s11⟩
            go_simp
            with_reducible rfl
          rotate_left
          · simp only [Act.put, List.setIfInBounds_toArray, List.set_cons_zero, List.set_cons_succ, i64_w, i32_w]
            rfl
          refine pure_ (i := 20) (N := some 90) (v := ?_) (a' := ?_) #[true, true, true, true, true, true, true, true, true, true, true, true, true, true, true, true, true, true, true, true, true, false, false, false, false, false, false, false, false] rfl rfl (any_of HT_.out (by kernel_rfl)) (fun _ _ _ h => h) (Or.inl ⟨by rfl, ?_⟩) ?_ ?_
          rotate_left
          · intro w'
            go_simp
            with_reducible rfl
          rotate_left
          · simp only [Act.put, List.setIfInBounds_toArray, List.set_cons_zero, List.set_cons_succ, i64_w, i32_w]
            rfl
          refine one_ (i := 21) (N := some 91) #[true, true, true, true, true, true, true, true, true, true, true, true, true, true, true, true, true, true, true, true, true, true, false, false, false, false, false, false, false] rfl rfl (one_of HT_.out (by kernel_rfl)) (by decide) (fun Kx_ hKx_ => ?_)
          refine goes_ Try.func35 (by kernel_rfl) rfl #[.agg #[.int .i64 x2, .slice A2 l2.length c2], .agg #[.int .i64 x2, .slice A5 l2.length c5]] (by rfl) rfl rfl (by (try simp only [List.map_toArray, List.map_cons, List.map_nil]); first | done | rfl) ?_
          refine (cressetref03_SameCommit.calls k7 x2 A2 c2 l2 x2 A5 c5 l2 true _ (H19.reads 3 rfl) hc2'.out (H19.row_C 7 rfl).2.2 (H19.row_C 7 rfl).2.1 HK7.out).mono ?_
          rintro e w20 ⟨rfl, hb1⟩
          have H20 := H19.same hb1
          clear hb1
          refine ⟨_, rfl, ?_⟩
          refine hKx_.out _ _ ⟨(H20.cell 4 rfl 0 (v := .int .i64 x0) rfl), (H20.cell 4 rfl 1 (v := .slice A0 l0.length c0) rfl), (H20.cell 4 rfl 2 (v := .bool f0) rfl), (H20.cell 5 rfl 0 (v := .int .i64 x1) rfl), (H20.cell 5 rfl 1 (v := .slice A1 l1.length c1) rfl), (H20.cell 5 rfl 2 (v := .bool f1) rfl), (H20.cell 6 rfl 0 (v := .int .i64 x2) rfl), (H20.cell 6 rfl 1 (v := .slice A2 l2.length c2) rfl), (H20.cell 11 rfl 0 (v := .int .i64 ts) rfl), (H20.cell 11 rfl 1 (v := .slice A9 lw.length c9) rfl), (H20.cell 13 rfl 0 (v := .int .i64 ts) rfl), (H20.cell 13 rfl 1 (v := .slice A10 lw.length c10) rfl)⟩ (fun hHeld => ?_)
          clear hKx_ Kx_
          refine norm_ (a' := ?_) ?_ ?_
          rotate_left
          · show Act.put _ (some 91) _ = _
            simp only [Act.put, List.setIfInBounds_toArray, List.set_cons_zero, List.set_cons_succ, i64_w, i32_w]
            rfl
          refine pure_ (i := 22) (N := some 92) (v := ?_) (a' := ?_) #[true, true, true, true, true, true, true, true, true, true, true, true, true, true, true, true, true, true, true, true, true, true, true, false, false, false, false, false, false] rfl rfl (any_of HT_.out (by kernel_rfl)) (fun _ _ _ h => h) (Or.inl ⟨by rfl, ?_⟩) ?_ ?_
          rotate_left
          · intro w'
            go_simp
            with_reducible rfl
          rotate_left
          · simp only [Act.put, List.setIfInBounds_toArray, List.set_cons_zero, List.set_cons_succ, i64_w, i32_w]
            rfl
          refine pure_ (i := 23) (N := some 93) (v := ?_) (a' := ?_) #[true, true, true, true, true, true, true, true, true, true, true, true, true, true, true, true, true, true, true, true, true, true, true, true, false, false, false, false, false] rfl rfl (any_of HT_.out (by kernel_rfl)) (fun _ _ _ h => h) (Or.inl ⟨by rfl, ?_⟩) ?_ ?_
          rotate_left
          · intro w'
            go_simp
            with_reducible rfl
          rotate_left
          · simp only [Act.put, List.setIfInBounds_toArray, List.set_cons_zero, List.set_cons_succ, i64_w, i32_w]
            rfl
          refine take_ (i := 24) (N := some 94) (v := ?_) (a' := ?_) #[true, true, true, true, true, true, true, true, true, true, true, true, true, true, true, true, true, true, true, true, true, true, true, true, true, false, false, false, false] rfl rfl (take_ofW HT_.out HW_.out (by kernel_rfl)) (fun _ _ _ h => h) (Or.inl ⟨by rfl, ?_⟩) hHeld ?_ ?_
          rotate_left
          · rintro w' ⟨s0, s1, s2, s3, s4, s5, s6, s7, s8, s9, s10, s11⟩
            go_simp
            with_reducible rfl
          rotate_left
          · simp only [Act.put, List.setIfInBounds_toArray, List.set_cons_zero, List.set_cons_succ, i64_w, i32_w]
            rfl
          refine take_ (i := 25) (N := some 95) (v := ?_) (a' := ?_) #[true, true, true, true, true, true, true, true, true, true, true, true, true, true, true, true, true, true, true, true, true, true, true, true, true, true, false, false, false] rfl rfl (take_ofW HT_.out HW_.out (by kernel_rfl)) (fun _ _ _ h => h) (Or.inl ⟨by rfl, ?_⟩) hHeld ?_ ?_
          rotate_left
          · rintro w' ⟨s0, s1, s2, s3, s4, s5, s6, s7, s8, s9, s10, s11⟩
            go_simp
            with_reducible rfl
          rotate_left
          · simp only [Act.put, List.setIfInBounds_toArray, List.set_cons_zero, List.set_cons_succ, i64_w, i32_w]
            rfl
          refine one_ (i := 26) (N := some 96) #[true, true, true, true, true, true, true, true, true, true, true, true, true, true, true, true, true, true, true, true, true, true, true, true, true, true, true, false, false] rfl rfl (one_of HT_.out (by kernel_rfl)) (by decide) (fun Kx_ hKx_ => ?_)
          refine goes_ Try.func35 (by kernel_rfl) rfl #[.agg #[.int .i64 ts, .slice A9 lw.length c9], .agg #[.int .i64 ts, .slice A10 lw.length c10]] (by rfl) rfl rfl (by (try simp only [List.map_toArray, List.map_cons, List.map_nil]); first | done | rfl) ?_
          refine (cressetref03_SameCommit.calls k8 ts A9 c9 lw ts A10 c10 lw true _ (H20.row_C 10 rfl).2.2 (H20.row_C 10 rfl).2.1 (H20.row_C 12 rfl).2.2 (H20.row_C 12 rfl).2.1 HK8.out).mono ?_
          rintro e w21 ⟨rfl, hb1⟩
          have H21 := H20.same hb1
          clear hb1
          refine ⟨_, rfl, ?_⟩
          refine hKx_.out _ _ ⟨(H21.cell 4 rfl 0 (v := .int .i64 x0) rfl), (H21.cell 4 rfl 1 (v := .slice A0 l0.length c0) rfl), (H21.cell 4 rfl 2 (v := .bool f0) rfl), (H21.cell 5 rfl 0 (v := .int .i64 x1) rfl), (H21.cell 5 rfl 1 (v := .slice A1 l1.length c1) rfl), (H21.cell 5 rfl 2 (v := .bool f1) rfl), (H21.cell 6 rfl 0 (v := .int .i64 x2) rfl), (H21.cell 6 rfl 1 (v := .slice A2 l2.length c2) rfl), (H21.cell 11 rfl 0 (v := .int .i64 ts) rfl), (H21.cell 11 rfl 1 (v := .slice A9 lw.length c9) rfl), (H21.cell 13 rfl 0 (v := .int .i64 ts) rfl), (H21.cell 13 rfl 1 (v := .slice A10 lw.length c10) rfl)⟩ (fun hHeld => ?_)
          clear hKx_ Kx_
          refine norm_ (a' := ?_) ?_ ?_
          rotate_left
          · show Act.put _ (some 96) _ = _
            simp only [Act.put, List.setIfInBounds_toArray, List.set_cons_zero, List.set_cons_succ, i64_w, i32_w]
            rfl
          refine pure_ (i := 27) (N := some 97) (v := ?_) (a' := ?_) #[true, true, true, true, true, true, true, true, true, true, true, true, true, true, true, true, true, true, true, true, true, true, true, true, true, true, true, true, false] rfl rfl (any_of HT_.out (by kernel_rfl)) (fun _ _ _ h => h) (Or.inl ⟨by rfl, ?_⟩) ?_ ?_
          rotate_left
          · intro w'
            go_simp
            with_reducible rfl
          rotate_left
          · simp only [Act.put, List.setIfInBounds_toArray, List.set_cons_zero, List.set_cons_succ, i64_w, i32_w]
            rfl
          refine pure_ (i := 28) (N := some 6) (v := ?_) (a' := ?_) #[true, true, true, true, true, true, true, true, true, true, true, true, true, true, true, true, true, true, true, true, true, true, true, true, true, true, true, true, true] rfl rfl (any_of HT_.out (by kernel_rfl)) (fun _ _ _ h => h) (Or.inl ⟨by rfl, ?_⟩) ?_ ?_
          rotate_left
          · intro w'
            go_simp
            with_reducible rfl
          rotate_left
          · simp only [Act.put, List.setIfInBounds_toArray, List.set_cons_zero, List.set_cons_succ, i64_w, i32_w]
            rfl
          refine done_ (done_of HT_.out (by kernel_rfl)) ?_
          clear HT_ HW_ hHeld
          go_wp2
          go_ret
          exact ⟨rfl, H21.below 0 rfl (fun _ h => h)⟩
theorem RecordSame : cressetlaw03_RecordSame.Pure := by
  intro x0 A0 c0 l0 f0 x1 A1 c1 l1 f1 x2 A2 c2 l2 w hr0 hc0 hr1 hc1 hr2 hc2 w00 w01 w10 w11 w20 w21
  exact same_go x0 A0 c0 l0 f0 x1 A1 c1 l1 f1 x2 A2 c2 l2 w hr0 hc0 hr1 hc1 hr2 hc2 (i64_of w20) (by have := w01.2.1; omega) w21.2.1

end Go.Proofs.Ytkcdmoghnoodmaa.Tk
namespace Go.Proofs.Ytkcdmoghnoodmaa.Pure
open Go.RowKit Go.Proofs.Ytkcdmoghnoodmaa.B

theorem RecordSame : cressetlaw03_RecordSame.Pure := Tk.RecordSame
end Go.Proofs.Ytkcdmoghnoodmaa.Pure

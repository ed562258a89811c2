/-
Of the row ImageBack: printed walks and plain laws, merged (wip/claim2.py).
-/
import Derived.Test.YtkflgkmblebdmaaQImageBack2
import Derived.Test.YtkflgkmblebdmaaQImageBack3
import Derived.Test.YtkflgkmblebdmaaQImageBack7
import Derived.Test.YtkflgkmblebdmaaQImageBack10
import Derived.WalkLawsBesides
import Derived.Deep.RegionLaw
import Derived.Outline
set_option linter.unusedVariables false
set_option linter.unusedSimpArgs false
namespace Go.Proofs.Ytkflgkmblebdmaa.Im
open Go.RowKit Go.Proofs.Ytkflgkmblebdmaa.B Go.Proofs.YtkflgkmblebdmaaW.PrintWords Go.Proofs.YtkflgkmblebdmaaW.PrintLast Go.Proofs.YtkflgkmblebdmaaW.PrintMore Go.Proofs.YtkflgkmblebdmaaW.Mine Go.Proofs.YtkflgkmblebdmaaW.Hp
structure S where
  ts : Int
  fr : ByteArray
  l : List S56
def isImg (b : Nat) (s : S) : Asn := Asn.ex fun v : Value => Asn.star (Asn.box b #[.int .i64 s.ts, .string s.fr, v, .bool true] 48) (Asn.row k56 56 v s.l)
theorem none_calls (b : Nat) (w : World) (m : Bool) (h : w.cell? ⟨b, 3, none⟩ = some (.bool m)) : Calls Try.prog 34 #[.pointer (some ⟨b, 0, none⟩)] w fun e w' => e = .returned (.bool !m) ∧ w = w' := by
  go_enter Try.func34, Try.ntmps34
  go_wp2
  go_ret
  exact ⟨rfl, rfl⟩
theorem from_calls (b : Nat) (w : World) (f : ByteArray) (h3 : w.cell? ⟨b, 3, none⟩ = some (.bool true)) (h : w.cell? ⟨b, 1, none⟩ = some (.string f)) : Calls Try.prog 15 #[.pointer (some ⟨b, 0, none⟩)] w fun e w' => e = .returned (.string f) ∧ w = w' := by
  go_enter Try.func15, Try.ntmps15
  go_wp2_with (go_at_call 34; refine (none_calls b w true h3).mono ?_; rintro e w' ⟨rfl, rfl⟩)
  go_ret
  exact ⟨rfl, rfl⟩
theorem ts_calls (b : Nat) (w : World) (f : Int) (h3 : w.cell? ⟨b, 3, none⟩ = some (.bool true)) (h : w.cell? ⟨b, 0, none⟩ = some (.int .i64 f)) : Calls Try.prog 21 #[.pointer (some ⟨b, 0, none⟩)] w fun e w' => e = .returned (.int .i64 f) ∧ w = w' := by
  go_enter Try.func21, Try.ntmps21
  go_wp2_with (go_at_call 34; refine (none_calls b w true h3).mono ?_; rintro e w' ⟨rfl, rfl⟩)
  go_ret
  exact ⟨rfl, rfl⟩
theorem len_calls (b : Nat) (w : World) (A : Option Addr) (n c : Nat) (h3 : w.cell? ⟨b, 3, none⟩ = some (.bool true)) (h : w.cell? ⟨b, 2, none⟩ = some (.slice A n c)) : Calls Try.prog 17 #[.pointer (some ⟨b, 0, none⟩)] w fun e w' => e = .returned (.int .i64 n) ∧ w = w' := by
  go_enter Try.func17, Try.ntmps17
  go_wp2_with (go_at_call 34; refine (none_calls b w true h3).mono ?_; rintro e w' ⟨rfl, rfl⟩)
  go_ret
  exact ⟨rfl, rfl⟩
theorem new_calls (ts : Int) (h0 : 0 ≤ ts) (h1 : ts ≤ 1099511627776) : Tr Try.prog 10 #[.int .i64 ts] Asn.top Asn.top (fun r => Asn.ex fun b : Nat => Asn.and (Asn.lift (r = .tuple #[.pointer (some ⟨b, 0, none⟩), .int .i64 0])) (isImg b ⟨ts, ⟨#[]⟩, []⟩)) := by
  refine Tr.intro fun w U H0 => ?_
  have H : Hp w w [(0, Asn.old w U)] := H0.keep [0]
  clear H0
  have c0 : decide (ts < 0) = false := decide_eq_false (by omega)
  have c1 : decide (1099511627776 < ts) = false := decide_eq_false (by omega)
  go_enter Try.func10, Try.ntmps10
  go_wp2_with ((with_reducible refine gate_dst (N := 12) rfl ?_); refine Hp.at_box H 1 ?hg (N := 12) ?hd (cs := #[.int .i64 ts, .string ⟨#[]⟩, .slice none 0 0, .bool true]) (t := 48) ?hr ?_; (case hd => rfl); (case hg => rfl); (case hr => first | (go_simp; done) | (go_simp; rfl)); intro g w1 H1)
  go_ret2
  refine ⟨_, rfl, ?_⟩
  have H2 := H1.free 2 (A := Asn.row k56 56 (.slice none 0 0) []) (Kd.R_nil _ _ _ _ _)
  have H3 := H2.join 1 2 rfl rfl (by decide) rfl rfl
  exact (H3.imp 1 (A' := Asn.ex fun b : Nat => Asn.and (Asn.lift (_ = Value.tuple #[.pointer (some ⟨b, 0, none⟩), .int .i64 0])) (isImg b ⟨ts, ⟨#[]⟩, []⟩)) rfl (fun S h => ⟨g, rfl, _, h⟩)).keep [0, 1]
theorem shut {w0 w : World} {U : Nat → Prop} {X : Asn} {b : Nat} {v : Value} {s : S} {r : Value} (H : Hp w0 w [(0, Asn.old w0 U), (0, X), (1, Asn.box b #[.int .i64 s.ts, .string s.fr, v, .bool true] 48), (2, Asn.row k56 56 v s.l)]) : Hp w0 w [(0, Asn.old w0 U), (1, Asn.and (Asn.lift (r = r)) (isImg b s))] :=
  ((H.join 2 3 rfl rfl (by decide) rfl rfl).imp 2 (A' := Asn.and (Asn.lift (r = r)) (isImg b s)) rfl (fun S h => ⟨rfl, _, h⟩)).keep [0, 2]
def addO (k : Nat) (s : S) (key : ByteArray) (l : List S87) : Option (Int × S) :=
  (record_Key.f key).bind fun e => if ¬ e = 0 then some (e, s) else
  if Op.bytesLess key.toList s.fr.toList = true then some (150, s) else
  (version_Check.f k l).bind fun e => if ¬ e = 0 then some (e, s) else
  (version_At.f l s.ts).bind fun v => (keys_Next.f key).bind fun nx =>
  if v.2.2.2 = true ∧ v.2.2.1 = false then (if (s.l.length : Int) ≥ 65536 then some (3, s) else some (0, ⟨s.ts, nx, s.l ++ [⟨key, v.2.1, v.1⟩]⟩)) else some (0, ⟨s.ts, nx, s.l⟩)
set_option maxHeartbeats 8000000 in
set_option maxRecDepth 100000 in
theorem add_calls (k : Nat) (b : Nat) (s s' : S) (key : ByteArray) (A : Option Addr) (c : Nat) (l : List S87) (e : Int) (hc : l.length ≤ c) (h : addO k s key l = some (e, s')) :
    Tr Try.prog 13 #[.pointer (some ⟨b, 0, none⟩), .string key, .slice A l.length c] (Asn.rd k87 A l.length l) (isImg b s) (fun r => Asn.and (Asn.lift (r = .int .i64 e)) (isImg b s')) := by
  refine Tr.intro fun w U H0 => ?_
  obtain ⟨v, H1⟩ := H0.open_ 2 rfl
  have H : Hp w w [(0, Asn.old w U), (0, Asn.rd k87 A l.length l), (1, Asn.box b #[.int .i64 s.ts, .string s.fr, v, .bool true] 48), (2, Asn.row k56 56 v s.l)] := H1.split 2 2 rfl rfl (by decide)
  clear H0 H1
  have z0 : w.cell? ⟨b, 0, none⟩ = some (.int .i64 s.ts) := H.cell 2 rfl 0 rfl
  have z1 : w.cell? ⟨b, 1, none⟩ = some (.string s.fr) := H.cell 2 rfl 1 rfl
  have z2 : w.cell? ⟨b, 2, none⟩ = some (v) := H.cell 2 rfl 2 rfl
  have z3 : w.cell? ⟨b, 3, none⟩ = some (.bool true) := H.cell 2 rfl 3 rfl
  unfold addO at h
  obtain ⟨e1, he1, h⟩ := Option.bind_eq_some_iff.mp h
  by_cases q1 : e1 = 0
  · rw [if_neg (by simpa using q1)] at h
    subst q1
    by_cases q2 : Op.bytesLess key.toList s.fr.toList = true
    · rw [if_pos q2] at h
      obtain ⟨rfl, rfl⟩ := Prod.mk.inj (Option.some.inj h)
      clear h
      go_enter Try.func13, Try.ntmps13
      go_wp2_with (first | (go_at_call 34; refine (none_calls b w true z3).mono ?_; rintro e w' ⟨rfl, rfl⟩) | (go_at_call 35; refine (record_Key.calls key _ _ he1).mono ?_; rintro e w' ⟨rfl, ⟨nd, rfl⟩⟩))
      go_ret
      exact ⟨_, rfl, shut (H.drewN _)⟩
    · rw [if_neg q2] at h
      simp only [Bool.not_eq_true] at q2
      obtain ⟨e2, he2, h⟩ := Option.bind_eq_some_iff.mp h
      by_cases q3 : e2 = 0
      · rw [if_neg (by simpa using q3)] at h
        subst q3
        obtain ⟨⟨r1, r2, r3, r4⟩, he3, h⟩ := Option.bind_eq_some_iff.mp h
        obtain ⟨nx, he4, h⟩ := Option.bind_eq_some_iff.mp h
        cases r4 with
        | false =>
          rw [if_neg (by simp)] at h
          obtain ⟨rfl, rfl⟩ := Prod.mk.inj (Option.some.inj h)
          clear h
          go_enter Try.func13, Try.ntmps13
          go_wp2_with (first | (go_at_call 34; refine (none_calls b w true z3).mono ?_; rintro e w' ⟨rfl, rfl⟩) | (go_at_call 35; refine (record_Key.calls key _ _ he1).mono ?_; rintro e w' ⟨rfl, ⟨nd, rfl⟩⟩) | (go_at_call 36; refine (version_Check.calls k _ _ _ _ _ ((H.drewN _).reads 1 rfl) hc he2).mono ?_; rintro e w1 ⟨rfl, hb⟩; have H1 := (H.drewN _).same hb; clear hb; have y0 : w1.cell? ⟨b, 0, none⟩ = some (.int .i64 s.ts) := H1.cell 2 rfl 0 rfl) | (go_at_call 37; refine (version_At.calls _ _ l s.ts r1 r2 _ _ _ (H1.reads 1 rfl) hc he3).mono ?_; rintro e w2 ⟨rfl, hb⟩; have H2 := H1.same hb; clear hb) | ((with_reducible refine gate_dst (N := 9) rfl ?_); refine Hp.at_box H2 3 ?hg (N := 9) ?hd (cs := #[.int .i64 0, .string ⟨#[]⟩, .bool false]) (t := 87) ?hr ?_; (case hd => rfl); (case hg => rfl); (case hr => first | (go_simp; done) | (go_simp; rfl)); intro g w3 H3; have x0 : w3.cell? ⟨g, 0, none⟩ = some (.int .i64 0) := H3.cell 4 rfl 0 rfl; have x1 : w3.cell? ⟨g, 1, none⟩ = some (.string ⟨#[]⟩) := H3.cell 4 rfl 1 rfl; have x2 : w3.cell? ⟨g, 2, none⟩ = some (.bool false) := H3.cell 4 rfl 2 rfl; have u0 := H3.unfrozen 4 rfl 0; have u1 := H3.unfrozen 4 rfl 1; have u2 := H3.unfrozen 4 rfl 2) | ((with_reducible refine gate_store (t := 87) (p := 9) rfl ?_); go_loud (refine Hp.at_sets H3 4 rfl rfl ?hg (T := 87) (z := 9) (x := ?vo) ?ho ?hn 0 [.int .i64 r1, .string r2, .bool r3] ?hr (cs' := #[.int .i64 r1, .string r2, .bool r3]) ?hc ?_); (case ho => rfl); (case hg => rfl); (case hn => rfl); (case hr => first | (go_simp; done) | (go_simp; rfl)); (case hc => rfl); clear x0 x1 x2 u0 u1 u2; intro w4 H4; have x0 := H4.cell 4 rfl 0 (v := .int .i64 r1) rfl; have x1 := H4.cell 4 rfl 1 (v := .string r2) rfl; have x2 := H4.cell 4 rfl 2 (v := .bool r3) rfl; have t1 := H4.cell 2 rfl 1 (v := .string s.fr) rfl; have t2 := H4.cell 2 rfl 2 (v := v) rfl) | (go_at_call 38; refine (keys_Next.calls key nx _ he4).mono ?_; rintro e w4 ⟨rfl, ⟨nd2, rfl⟩⟩; have H5 := H4.drewN nd2; have t3 := H5.cell 2 rfl 1 (v := .string s.fr) rfl; have t4 := H5.unfrozen 2 rfl 1) | ((with_reducible refine gate_store (t := 9) (p := 69) rfl ?_); refine Hp.at_store H5 2 rfl rfl ?hg (T := 9) (z := 69) (x := ?vo) ?ho ?hn 1 (.string nx) ?hr (cs' := #[.int .i64 s.ts, .string nx, v, .bool true]) ?hc ?_; (case ho => rfl); (case hg => rfl); (case hn => rfl); (case hc => rfl); (case hr => first | (go_simp; done) | (go_simp; rfl)); intro w6 H6))
          go_ret
          exact ⟨_, rfl, shut (s := ⟨s.ts, nx, s.l⟩) ((H5.box_set 2 rfl rfl 1 (.string nx)).keep [0, 1, 2, 3])⟩
        | true =>
          cases r3 with
          | true =>
            rw [if_neg (by simp)] at h
            obtain ⟨rfl, rfl⟩ := Prod.mk.inj (Option.some.inj h)
            clear h
            go_enter Try.func13, Try.ntmps13
            go_wp2_with (first | (go_at_call 34; refine (none_calls b w true z3).mono ?_; rintro e w' ⟨rfl, rfl⟩) | (go_at_call 35; refine (record_Key.calls key _ _ he1).mono ?_; rintro e w' ⟨rfl, ⟨nd, rfl⟩⟩) | (go_at_call 36; refine (version_Check.calls k _ _ _ _ _ ((H.drewN _).reads 1 rfl) hc he2).mono ?_; rintro e w1 ⟨rfl, hb⟩; have H1 := (H.drewN _).same hb; clear hb; have y0 : w1.cell? ⟨b, 0, none⟩ = some (.int .i64 s.ts) := H1.cell 2 rfl 0 rfl) | (go_at_call 37; refine (version_At.calls _ _ l s.ts r1 r2 _ _ _ (H1.reads 1 rfl) hc he3).mono ?_; rintro e w2 ⟨rfl, hb⟩; have H2 := H1.same hb; clear hb) | ((with_reducible refine gate_dst (N := 9) rfl ?_); refine Hp.at_box H2 3 ?hg (N := 9) ?hd (cs := #[.int .i64 0, .string ⟨#[]⟩, .bool false]) (t := 87) ?hr ?_; (case hd => rfl); (case hg => rfl); (case hr => first | (go_simp; done) | (go_simp; rfl)); intro g w3 H3; have x0 : w3.cell? ⟨g, 0, none⟩ = some (.int .i64 0) := H3.cell 4 rfl 0 rfl; have x1 : w3.cell? ⟨g, 1, none⟩ = some (.string ⟨#[]⟩) := H3.cell 4 rfl 1 rfl; have x2 : w3.cell? ⟨g, 2, none⟩ = some (.bool false) := H3.cell 4 rfl 2 rfl; have u0 := H3.unfrozen 4 rfl 0; have u1 := H3.unfrozen 4 rfl 1; have u2 := H3.unfrozen 4 rfl 2) | ((with_reducible refine gate_store (t := 87) (p := 9) rfl ?_); refine Hp.at_sets H3 4 rfl rfl ?hg (T := 87) (z := 9) (x := ?vo) ?ho ?hn 0 [.int .i64 r1, .string r2, .bool true] ?hr (cs' := #[.int .i64 r1, .string r2, .bool true]) ?hc ?_; (case ho => rfl); (case hg => rfl); (case hn => rfl); (case hr => first | (go_simp; done) | (go_simp; rfl)); (case hc => rfl); clear x0 x1 x2 u0 u1 u2; intro w4 H4; have x0 := H4.cell 4 rfl 0 (v := .int .i64 r1) rfl; have x1 := H4.cell 4 rfl 1 (v := .string r2) rfl; have x2 := H4.cell 4 rfl 2 (v := .bool true) rfl; have t1 := H4.cell 2 rfl 1 (v := .string s.fr) rfl; have t2 := H4.cell 2 rfl 2 (v := v) rfl) | (go_at_call 38; refine (keys_Next.calls key nx _ he4).mono ?_; rintro e w4 ⟨rfl, ⟨nd2, rfl⟩⟩; have H5 := H4.drewN nd2; have t3 := H5.cell 2 rfl 1 (v := .string s.fr) rfl; have t4 := H5.unfrozen 2 rfl 1) | ((with_reducible refine gate_store (t := 9) (p := 69) rfl ?_); refine Hp.at_store H5 2 rfl rfl ?hg (T := 9) (z := 69) (x := ?vo) ?ho ?hn 1 (.string nx) ?hr (cs' := #[.int .i64 s.ts, .string nx, v, .bool true]) ?hc ?_; (case ho => rfl); (case hg => rfl); (case hn => rfl); (case hc => rfl); (case hr => first | (go_simp; done) | (go_simp; rfl)); intro w6 H6))
            go_ret
            exact ⟨_, rfl, shut (s := ⟨s.ts, nx, s.l⟩) ((H5.box_set 2 rfl rfl 1 (.string nx)).keep [0, 1, 2, 3])⟩
          | false =>
            rw [if_pos ⟨rfl, rfl⟩] at h
            obtain ⟨Av, cv, rfl⟩ := H.fact 3 rfl (fun S h => Kd.R_slice h)
            by_cases q4 : (s.l.length : Int) ≥ 65536
            · rw [if_pos q4] at h
              obtain ⟨rfl, rfl⟩ := Prod.mk.inj (Option.some.inj h)
              clear h
              have q4b : decide (65536 ≤ (s.l.length : Int)) = true := decide_eq_true q4
              go_enter Try.func13, Try.ntmps13
              go_wp2_with (first | (go_at_call 34; refine (none_calls b w true z3).mono ?_; rintro e w' ⟨rfl, rfl⟩) | (go_at_call 35; refine (record_Key.calls key _ _ he1).mono ?_; rintro e w' ⟨rfl, ⟨nd, rfl⟩⟩) | (go_at_call 36; refine (version_Check.calls k _ _ _ _ _ ((H.drewN _).reads 1 rfl) hc he2).mono ?_; rintro e w1 ⟨rfl, hb⟩; have H1 := (H.drewN _).same hb; clear hb; have y0 : w1.cell? ⟨b, 0, none⟩ = some (.int .i64 s.ts) := H1.cell 2 rfl 0 rfl) | (go_at_call 37; refine (version_At.calls _ _ l s.ts r1 r2 _ _ _ (H1.reads 1 rfl) hc he3).mono ?_; rintro e w2 ⟨rfl, hb⟩; have H2 := H1.same hb; clear hb) | ((with_reducible refine gate_dst (N := 9) rfl ?_); refine Hp.at_box H2 3 ?hg (N := 9) ?hd (cs := #[.int .i64 0, .string ⟨#[]⟩, .bool false]) (t := 87) ?hr ?_; (case hd => rfl); (case hg => rfl); (case hr => first | (go_simp; done) | (go_simp; rfl)); intro g w3 H3; have x0 : w3.cell? ⟨g, 0, none⟩ = some (.int .i64 0) := H3.cell 4 rfl 0 rfl; have x1 : w3.cell? ⟨g, 1, none⟩ = some (.string ⟨#[]⟩) := H3.cell 4 rfl 1 rfl; have x2 : w3.cell? ⟨g, 2, none⟩ = some (.bool false) := H3.cell 4 rfl 2 rfl; have u0 := H3.unfrozen 4 rfl 0; have u1 := H3.unfrozen 4 rfl 1; have u2 := H3.unfrozen 4 rfl 2) | ((with_reducible refine gate_store (t := 87) (p := 9) rfl ?_); refine Hp.at_sets H3 4 rfl rfl ?hg (T := 87) (z := 9) (x := ?vo) ?ho ?hn 0 [.int .i64 r1, .string r2, .bool false] ?hr (cs' := #[.int .i64 r1, .string r2, .bool false]) ?hc ?_; (case ho => rfl); (case hg => rfl); (case hn => rfl); (case hr => first | (go_simp; done) | (go_simp; rfl)); (case hc => rfl); clear x0 x1 x2 u0 u1 u2; intro w4 H4; have x0 := H4.cell 4 rfl 0 (v := .int .i64 r1) rfl; have x1 := H4.cell 4 rfl 1 (v := .string r2) rfl; have x2 := H4.cell 4 rfl 2 (v := .bool false) rfl; have t1 := H4.cell 2 rfl 1 (v := .string s.fr) rfl; have t2 := H4.cell 2 rfl 2 (v := .slice Av s.l.length cv) rfl))
              go_ret
              exact ⟨_, rfl, shut (H4.keep [0, 1, 2, 3])⟩
            · rw [if_neg q4] at h
              obtain ⟨rfl, rfl⟩ := Prod.mk.inj (Option.some.inj h)
              clear h
              have q4b : decide (65536 ≤ (s.l.length : Int)) = false := decide_eq_false q4
              go_enter Try.func13, Try.ntmps13
              go_wp2_with (first | (go_at_call 34; refine (none_calls b w true z3).mono ?_; rintro e w' ⟨rfl, rfl⟩) | (go_at_call 35; refine (record_Key.calls key _ _ he1).mono ?_; rintro e w' ⟨rfl, ⟨nd, rfl⟩⟩) | (go_at_call 36; refine (version_Check.calls k _ _ _ _ _ ((H.drewN _).reads 1 rfl) hc he2).mono ?_; rintro e w1 ⟨rfl, hb⟩; have H1 := (H.drewN _).same hb; clear hb; have y0 : w1.cell? ⟨b, 0, none⟩ = some (.int .i64 s.ts) := H1.cell 2 rfl 0 rfl) | (go_at_call 37; refine (version_At.calls _ _ l s.ts r1 r2 _ _ _ (H1.reads 1 rfl) hc he3).mono ?_; rintro e w2 ⟨rfl, hb⟩; have H2 := H1.same hb; clear hb) | ((with_reducible refine gate_dst (N := 9) rfl ?_); refine Hp.at_box H2 3 ?hg (N := 9) ?hd (cs := #[.int .i64 0, .string ⟨#[]⟩, .bool false]) (t := 87) ?hr ?_; (case hd => rfl); (case hg => rfl); (case hr => first | (go_simp; done) | (go_simp; rfl)); intro g w3 H3; have x0 : w3.cell? ⟨g, 0, none⟩ = some (.int .i64 0) := H3.cell 4 rfl 0 rfl; have x1 : w3.cell? ⟨g, 1, none⟩ = some (.string ⟨#[]⟩) := H3.cell 4 rfl 1 rfl; have x2 : w3.cell? ⟨g, 2, none⟩ = some (.bool false) := H3.cell 4 rfl 2 rfl; have u0 := H3.unfrozen 4 rfl 0; have u1 := H3.unfrozen 4 rfl 1; have u2 := H3.unfrozen 4 rfl 2) | ((with_reducible refine gate_store (t := 87) (p := 9) rfl ?_); refine Hp.at_sets H3 4 rfl rfl ?hg (T := 87) (z := 9) (x := ?vo) ?ho ?hn 0 [.int .i64 r1, .string r2, .bool false] ?hr (cs' := #[.int .i64 r1, .string r2, .bool false]) ?hc ?_; (case ho => rfl); (case hg => rfl); (case hn => rfl); (case hr => first | (go_simp; done) | (go_simp; rfl)); (case hc => rfl); clear x0 x1 x2 u0 u1 u2; intro w4 H4; have x0 := H4.cell 4 rfl 0 (v := .int .i64 r1) rfl; have x1 := H4.cell 4 rfl 1 (v := .string r2) rfl; have x2 := H4.cell 4 rfl 2 (v := .bool false) rfl; have t1 := H4.cell 2 rfl 1 (v := .string s.fr) rfl; have t2 := H4.cell 2 rfl 2 (v := .slice Av s.l.length cv) rfl))
              have hdr := H4.drew
              have hal := (H4.box_new 9 #[.string key, .string r2, .int .i64 r1] 56).drew
              have s0 := hal.cell 2 rfl 2 (v := .slice Av s.l.length cv) rfl
              have s1 := hal.cell 4 rfl 0 (v := .int .i64 r1) rfl
              have s2 := hal.cell 4 rfl 1 (v := .string r2) rfl
              go_region_law (first | (refine Hp.step_append k56 H4.drew 3 ?hw (.tmp 54) (.tmp 61) 38 56 (.agg #[.string ⟨#[]⟩, .string ⟨#[]⟩, .int .i64 0]) 40 rfl Try.underlying38 info56 rfl (by decide) (by omega) (.slice Av s.l.length cv) s.l rfl rfl (⟨key, r2, r1⟩ : S56) [.string key, .string r2, .int .i64 r1] ?hs ?hx (fun _ => k56_mkM _ _ _ _) (by omega) ?_; (case hw => rfl); (case hs => rfl); (case hx => rfl); intro v5 w5 H5; obtain ⟨A5, c5, rfl⟩ := H5.fact 3 rfl (fun S h => Kd.R_slice h); have t5 := H5.cell 2 rfl 2 (v := .slice Av s.l.length cv) rfl; have t6 := H5.unfrozen 2 rfl 2))
              all_goals (clear s0 s1 s2 hal hdr z0 z1 z2 z3 x0 x1 x2 t1 t2 y0 t5 t6; rw [show (s.l ++ [(⟨key, r2, r1⟩ : S56)]).length = s.l.length + 1 by simp] at H5; have H6 := H5.box_set 2 rfl rfl 2 (.slice A5 (s.l.length + 1) c5); go_wp2_with (go_at_call 38; refine (keys_Next.calls key nx _ he4).mono ?_; rintro e w' ⟨rfl, ⟨nd2, rfl⟩⟩; have H7 := H6.drewN nd2; have t7 := H7.cell 2 rfl 1 (v := .string s.fr) rfl; have t8 := H7.unfrozen 2 rfl 1); go_ret; exact ⟨_, rfl, shut (s := ⟨s.ts, nx, s.l ++ [⟨key, r2, r1⟩]⟩) ((H7.box_set 2 rfl rfl 1 (.string nx)).keep [0, 1, 2, 3])⟩)
      · rw [if_pos q3] at h
        obtain ⟨rfl, rfl⟩ := Prod.mk.inj (Option.some.inj h)
        clear h
        have q3b : (e2 == 0) = false := beq_eq_false_iff_ne.mpr q3
        have q3c : (e2 != 0) = true := bne_iff_ne.mpr q3
        go_enter Try.func13, Try.ntmps13
        go_wp2_with (first | (go_at_call 34; refine (none_calls b w true z3).mono ?_; rintro e w' ⟨rfl, rfl⟩) | (go_at_call 35; refine (record_Key.calls key _ _ he1).mono ?_; rintro e w' ⟨rfl, ⟨nd, rfl⟩⟩) | (go_at_call 36; refine (version_Check.calls k _ _ _ _ _ ((H.drewN _).reads 1 rfl) hc he2).mono ?_; rintro e w' ⟨rfl, hb⟩; have H1 := (H.drewN _).same hb; clear hb))
        go_ret
        exact ⟨_, rfl, shut H1⟩
  · rw [if_pos q1] at h
    obtain ⟨rfl, rfl⟩ := Prod.mk.inj (Option.some.inj h)
    clear h
    have q1b : (e1 == 0) = false := beq_eq_false_iff_ne.mpr q1
    have q1c : (e1 != 0) = true := bne_iff_ne.mpr q1
    go_enter Try.func13, Try.ntmps13
    go_wp2_with (first | (go_at_call 34; refine (none_calls b w true z3).mono ?_; rintro e w' ⟨rfl, rfl⟩) | (go_at_call 35; refine (record_Key.calls key e1 _ he1).mono ?_; rintro e w' ⟨rfl, ⟨nd, rfl⟩⟩))
    go_ret
    exact ⟨_, rfl, shut (H.drewN _)⟩
end Go.Proofs.Ytkflgkmblebdmaa.Im

set_option linter.unusedVariables false
set_option linter.unusedSimpArgs false
namespace Go.Proofs.Ytkflgkmblebdmaa.Im
open Go.RowKit Go.Proofs.Ytkflgkmblebdmaa.B Go.Proofs.YtkflgkmblebdmaaW.PrintWords Go.Proofs.YtkflgkmblebdmaaW.PrintLast Go.Proofs.YtkflgkmblebdmaaW.PrintMore Go.Proofs.YtkflgkmblebdmaaW.Mine Go.Proofs.YtkflgkmblebdmaaW.Hp
theorem add1 : addO 20 ⟨6, ⟨#[]⟩, []⟩ ⟨#[97]⟩ [⟨7, ⟨#[121]⟩, false⟩, ⟨5, ⟨#[120]⟩, false⟩] = some (0, ⟨6, ⟨#[97, 0]⟩, [⟨⟨#[97]⟩, ⟨#[120]⟩, 5⟩]⟩) := by kernel_rfl
theorem add2 : addO 20 ⟨6, ⟨#[97, 0]⟩, [⟨⟨#[97]⟩, ⟨#[120]⟩, 5⟩]⟩ ⟨#[98]⟩ [⟨6, ⟨#[]⟩, true⟩] = some (0, ⟨6, ⟨#[98, 0]⟩, [⟨⟨#[97]⟩, ⟨#[120]⟩, 5⟩]⟩) := by kernel_rfl
set_option maxHeartbeats 8000000 in
set_option maxRecDepth 100000 in
theorem begun_calls (w : World) : Calls Try.prog 12 #[] w fun e w' => e = .returned (.bool true) ∧ Below w.heap.size w w' := by
  have H := Hp.start w
  go_enter Try.func12, Try.ntmps12
  go_wp2_with (first
    | (go_at_call 10; refine (H.make 1 (new_calls 6 (by decide) (by decide)) (fun _ _ => trivial)).mono ?_; rintro e w1 ⟨r, rfl, H1⟩; obtain ⟨b, H2⟩ := H1.open_ 1 rfl; obtain rfl := H2.fact 1 rfl (fun S h => h.1); have H3 : Hp w w1 [(0, Asn.old w (fun _ => False)), (1, isImg b ⟨6, ⟨#[]⟩, []⟩)] := H2.imp 1 rfl (fun S h => h.2); clear H1 H2)
    | ((with_reducible refine gate_dst (N := 17) rfl ?_); (try (refine gate_guard (by rfl) ?_; dsimp only)); refine Hp.at_lit k87 H3 2 87 ?hg (N := 17) ?hd (xs := ([⟨7, ⟨#[121]⟩, false⟩, ⟨5, ⟨#[120]⟩, false⟩] : List S87)) (inner := [.int .i64 7, .string ⟨#[121]⟩, .bool false, .int .i64 5, .string ⟨#[120]⟩, .bool false]) ?hr ?hp (by decide) ?_; (case hd => rfl); (case hg => rfl); (case hr => first | (go_simp; done) | (go_simp; rfl)); (case hp => exact fun _ => Reps.c3 (k87_mkM _ _ _ (⟨7, ⟨#[121]⟩, false⟩ : S87)) (Reps.c3 (k87_mkM _ _ _ (⟨5, ⟨#[120]⟩, false⟩ : S87)) (Reps.none _ _))); intro A c w2 hc H4)
    | ((with_reducible refine gate_dst (N := 24) rfl ?_); (try (refine gate_guard (by rfl) ?_; dsimp only)); refine Hp.at_lit k87 H5 3 87 ?hg (N := 24) ?hd (xs := ([⟨6, ⟨#[]⟩, true⟩] : List S87)) (inner := [.int .i64 6, .string ⟨#[]⟩, .bool true]) ?hr ?hp (by decide) ?_; (case hd => rfl); (case hg => rfl); (case hr => first | (go_simp; done) | (go_simp; rfl)); (case hp => exact fun _ => Reps.c3 (k87_mkM _ _ _ (⟨6, ⟨#[]⟩, true⟩ : S87)) (Reps.none _ _)); intro A2 c2 w4 hc2 H6)
    | (go_at_call 13; refine (H4.call (add_calls 20 b _ _ _ A c [⟨7, ⟨#[121]⟩, false⟩, ⟨5, ⟨#[120]⟩, false⟩] 0 hc add1) 1 rfl rfl ?hR).mono ?_; (case hR => exact fun lab h => (Asn.rd k87 A _ _).mono (row_rd (h.get (p := 2) rfl)) (fun k _ hk => by have h2 : lab k = 2 := hk; omega)); rintro e w3 ⟨r, rfl, H4b⟩; obtain rfl := H4b.fact 1 rfl (fun S h => h.1); have H5 : Hp w w3 [(0, Asn.old w (fun _ => False)), (1, isImg b ⟨6, ⟨#[97, 0]⟩, [⟨⟨#[97]⟩, ⟨#[120]⟩, 5⟩]⟩)] := (H4b.imp 1 (A' := isImg b ⟨6, ⟨#[97, 0]⟩, [⟨⟨#[97]⟩, ⟨#[120]⟩, 5⟩]⟩) rfl (fun S h => h.2)).keep [0, 1]; clear H4b H4)
    | (go_at_call 13; refine (H6.call (add_calls 20 b _ _ _ A2 c2 [⟨6, ⟨#[]⟩, true⟩] 0 hc2 add2) 1 rfl rfl ?hR).mono ?_; (case hR => exact fun lab h => (Asn.rd k87 A2 _ _).mono (row_rd (h.get (p := 2) rfl)) (fun k _ hk => by have h2 : lab k = 3 := hk; omega)); rintro e w5 ⟨r, rfl, H6b⟩; obtain rfl := H6b.fact 1 rfl (fun S h => h.1); have H7 : Hp w w5 [(0, Asn.old w (fun _ => False)), (1, isImg b ⟨6, ⟨#[98, 0]⟩, [⟨⟨#[97]⟩, ⟨#[120]⟩, 5⟩]⟩)] := (H6b.imp 1 (A' := isImg b ⟨6, ⟨#[98, 0]⟩, [⟨⟨#[97]⟩, ⟨#[120]⟩, 5⟩]⟩) rfl (fun S h => h.2)).keep [0, 1]; clear H6b H6; obtain ⟨v, H8⟩ := H7.open_ 1 rfl; have H9 := H8.split 1 9 rfl rfl (by decide); obtain ⟨Av, cv, rfl⟩ := H9.fact 2 rfl (fun S h => Kd.R_slice h); have z0 := H9.cell 1 rfl 0 (v := .int .i64 6) rfl; have z1 := H9.cell 1 rfl 1 (v := .string ⟨#[98, 0]⟩) rfl; have z2 := H9.cell 1 rfl 2 (v := .slice Av 1 cv) rfl; have z3 := H9.cell 1 rfl 3 (v := .bool true) rfl)
    | (go_at_call 17; refine (len_calls b _ _ _ _ z3 z2).mono ?_; rintro e w' ⟨rfl, rfl⟩)
    | (go_at_call 15; refine (from_calls b _ _ z3 z1).mono ?_; rintro e w' ⟨rfl, rfl⟩)
    | (go_at_call 21; refine (ts_calls b _ _ z3 z0).mono ?_; rintro e w' ⟨rfl, rfl⟩))
  go_ret
  exact ⟨rfl, H9.below 0 rfl (fun _ h => h)⟩
end Go.Proofs.Ytkflgkmblebdmaa.Im

namespace Go.Proofs.Ytkflgkmblebdmaa.B
open Go.RowKit Go.Proofs.YtkflgkmblebdmaaW.PrintWords Go.Proofs.YtkflgkmblebdmaaW.PrintLast Go.Proofs.YtkflgkmblebdmaaW.PrintMore Go.Proofs.YtkflgkmblebdmaaW.Mine
attribute [local go_sem] max2_int min2_int max_two min_two max_three min_three max_four min_four str_gtr str_leq str_geq str_max str_min   -- for this text's walks alone
set_option linter.unusedVariables false
set_option linter.unusedSimpArgs false

def cressetlaw18_begun.f : Option Bool := some true
end Go.Proofs.Ytkflgkmblebdmaa.B

namespace Go.Proofs.Ytkflgkmblebdmaa.B
open Go.RowKit Go.Proofs.YtkflgkmblebdmaaW.PrintWords Go.Proofs.YtkflgkmblebdmaaW.PrintLast Go.Proofs.YtkflgkmblebdmaaW.PrintMore Go.Proofs.YtkflgkmblebdmaaW.Mine
attribute [local go_sem] max2_int min2_int max_two min_two max_three min_three max_four min_four str_gtr str_leq str_geq str_max str_min   -- for this text's walks alone
set_option linter.unusedVariables false
set_option linter.unusedSimpArgs false

def cressetlaw18_ImageBuilds.f (k : Nat) (l0 : List (S65)) : Option (Bool) := (image_Build.f k l0).bind fun bt214 => ((cressetref18_Build.f k l0).bind fun bt218 => ((cressetlaw18_begun.f).bind fun t222 => (if t222 = true then ((api_Stamped_24.f k bt214.1 bt218.1).bind fun t223 => (if t223 = true then (some (bt214.2 == bt218.2)) else (some false))) else (some false))))
def cressetlaw18_ImageBuilds.Pure : Prop := ∀ (l0 : List (S65)), (l0.length ≤ maxLen ∧ l0.length * 40 ≤ 140737488351232 ∧ ∀ x_ ∈ l0, ok65 x_) → ∃ k, cressetlaw18_ImageBuilds.f k l0 = some true
end Go.Proofs.Ytkflgkmblebdmaa.B

namespace Go.Proofs.Ytkflgkmblebdmaa.Pure
open Go.RowKit Go.Proofs.Ytkflgkmblebdmaa.B Go.Proofs.YtkflgkmblebdmaaW.PrintWords Go.Proofs.YtkflgkmblebdmaaW.PrintLast
set_option linter.unusedVariables false
set_option linter.unusedSimpArgs false
theorem wr1 {x : Int} (h0 : -9223372036854775808 ≤ x) (h : x ≤ 9223372036854775807) : wrap64 x = x := by
  unfold wrap64; omega
def keyE (s : ByteArray) : Int := if s.toList = ([] : List UInt8) then 30 else if (s.size : Int) > 64 then 30 else 0
def valE (s : ByteArray) : Int := if (s.size : Int) > 256 then 31 else 0
def tsOk (n : Int) : Bool := decide (n ≥ 1) && decide (n ≤ 1099511627776)
theorem key_ev (s : ByteArray) : record_Key.f s = some (keyE s) := by
  unfold record_Key.f keyE
  (repeat' split) <;> rfl
theorem rkey_ev (s : ByteArray) : cressetref03_Key.f s = some (keyE s) := by
  unfold cressetref03_Key.f keyE
  (repeat' split) <;> rfl
theorem val_ev (s : ByteArray) : record_Value.f s = some (valE s) := by
  unfold record_Value.f valE
  split <;> rfl
theorem rval_ev (s : ByteArray) : cressetref03_Value.f s = some (valE s) := by
  unfold cressetref03_Value.f valE
  split <;> rfl
theorem ts_ev (n : Int) : cressetref03_ts.f n = some (tsOk n) := by
  unfold cressetref03_ts.f tsOk
  by_cases c : n ≥ 1
  · rw [if_pos c, decide_eq_true c, Bool.true_and]
  · rw [if_neg c, decide_eq_false c, Bool.false_and]
theorem stamp_ev (n : Int) : record_stamp.f n 1 = some (tsOk n) := by
  unfold record_stamp.f tsOk
  by_cases c : n ≥ 1
  · rw [if_pos c, decide_eq_true c, Bool.true_and]
  · rw [if_neg c, decide_eq_false c, Bool.false_and]
theorem first_ev (a b c : Int) : Ev (fun k => record_first.f k [a, b, c]) (if a = 0 then if b = 0 then c else b else a) := by
  show Ev (fun k => record_first.l0 k [a, b, c] 3 0) _
  have st : ∀ (i : Int) (x : Int), 0 ≤ i → i < 3 → rd [a, b, c] i = x → ∀ k, record_first.l0 (k + 1) [a, b, c] 3 i = if x = 0 then record_first.l0 k [a, b, c] 3 (i + 1) else some x := by
    intro i x h0 h1 hx k
    simp only [record_first.l0]
    rw [if_pos h1, if_pos h0, if_pos (by simp; omega), hx, wr1 (by omega) (by omega)]
  have s3 : ∀ k, record_first.l0 (k + 1) [a, b, c] 3 3 = some 0 := by
    intro k
    simp only [record_first.l0]
    rw [if_neg (by omega)]
  have S0 := st 0 a (by omega) (by omega) rfl
  have S1 := st 1 b (by omega) (by omega) rfl
  have S2 := st 2 c (by omega) (by omega) rfl
  by_cases ha : a = 0
  · simp only [if_pos ha] at S0 ⊢
    refine Ev.step S0 ?_
    by_cases hb : b = 0
    · simp only [if_pos hb] at S1 ⊢
      refine Ev.step S1 ?_
      by_cases hc : c = 0
      · simp only [if_pos hc] at S2
        rw [hc] at S2 ⊢
        exact Ev.step S2 (Ev.step s3 (Ev.now _))
      · simp only [if_neg hc] at S2
        exact Ev.step S2 (Ev.now _)
    · simp only [if_neg hb] at S1 ⊢
      exact Ev.step S1 (Ev.now _)
  · simp only [if_neg ha] at S0 ⊢
    exact Ev.step S0 (Ev.now _)
def pairE (l : List S56) (i : Int) : Int :=
  if keyE (rd_T56 l i).f0 = 0 then if valE (rd_T56 l i).f1 = 0 then (if tsOk (rd_T56 l i).f2 = true then (if i = 0 then 0 else if Op.bytesLess (rd_T56 l (i - 1)).f0.toList (rd_T56 l i).f0.toList = true then 0 else 32) else 32) else valE (rd_T56 l i).f1 else keyE (rd_T56 l i).f0
def chkL (l : List S56) : Nat → Int → Int
  | 0, _ => 0
  | d + 1, i => if pairE l i = 0 then chkL l d (i + 1) else pairE l i
theorem chk_loop (l : List S56) (hl : l.length ≤ 16) (y : Int) (z : Bool) : ∀ (d i : Nat), i + d = l.length → Ev (fun k => record_CheckChunk.l0 k l (l.length : Int) (i : Int) y l z) (chkL l d (i : Int))
  | 0, i, h => by
    refine Ev.step (f := fun _ => some 0) (fun k => ?_) (Ev.now _)
    simp only [record_CheckChunk.l0]
    rw [if_neg (by omega)]
  | d + 1, i, h => by
    have ih := chk_loop l hl y z d (i + 1) (by omega)
    have fin : ∀ (a b c : Int), (if a = 0 then if b = 0 then c else b else a) = pairE l i → Ev (fun k => (record_first.f k [a, b, c]).bind fun t => if t = 0 then record_CheckChunk.l0 k l (l.length : Int) (wrap64 ((i : Int) + 1)) y l z else some t) (chkL l (d + 1) (i : Int)) := by
      intro a b c e
      refine Ev.bind (first_ev a b c) ?_
      rw [e]
      unfold chkL
      by_cases c0 : pairE l i = 0
      · rw [if_pos c0, wr1 (by omega) (by omega)]
        exact Ev.congr (fun k => if_pos c0) ih
      · rw [if_neg c0]
        exact Ev.congr (fun k => if_neg c0) (Ev.now _)
    refine Ev.step (fun k => by simp only [record_CheckChunk.l0]; rfl) ?_
    refine Ev.congr (f := _) (fun k => if_pos (by omega)) ?_
    refine Ev.congr (f := _) (fun k => if_pos (by omega)) ?_
    refine Ev.congr (f := _) (fun k => if_pos (by omega)) ?_
    simp only [key_ev, val_ev, stamp_ev, Option.bind_some]
    by_cases ct : tsOk (rd_T56 l i).f2 = true
    · refine Ev.congr (f := _) (fun k => if_pos ct) ?_
      by_cases ci : (i : Int) = 0
      · refine Ev.congr (f := _) (fun k => if_pos ci) ?_
        simp only [record_field.f, if_true, Option.bind_some]
        exact fin _ _ _ (by unfold pairE; rw [if_pos ct, if_pos ci])
      · refine Ev.congr (f := _) (fun k => if_neg ci) ?_
        rw [wr1 (x := (i : Int) - 1) (by omega) (by omega)]
        refine Ev.congr (f := _) (fun k => if_pos (by omega)) ?_
        refine Ev.congr (f := _) (fun k => if_pos (by omega)) ?_
        by_cases cb : Op.bytesLess (rd_T56 l ((i : Int) - 1)).f0.toList (rd_T56 l i).f0.toList = true
        · simp only [record_field.f, if_pos cb, Option.bind_some]
          exact fin _ _ _ (by unfold pairE; rw [if_pos ct, if_neg ci, if_pos cb])
        · simp only [record_field.f, if_neg cb, Option.bind_some]
          exact fin _ _ _ (by unfold pairE; rw [if_pos ct, if_neg ci, if_neg cb])
    · refine Ev.congr (f := _) (fun k => if_neg ct) ?_
      simp only [record_field.f, Bool.false_eq_true, if_false, Option.bind_some]
      exact fin _ _ _ (by unfold pairE; rw [if_neg ct])
theorem rchk_loop (l : List S56) (hl : l.length ≤ 16) (y : Int) (z : Bool) : ∀ (d i : Nat), i + d = l.length → Ev (fun k => cressetref03_CheckChunk.l0 k (i : Int) y l z) (chkL l d (i : Int))
  | 0, i, h => by
    refine Ev.step (f := fun _ => some 0) (fun k => ?_) (Ev.now _)
    simp only [cressetref03_CheckChunk.l0]
    rw [if_neg (by omega)]
  | d + 1, i, h => by
    have ih := rchk_loop l hl y z d (i + 1) (by omega)
    refine Ev.step (fun k => by simp only [cressetref03_CheckChunk.l0]; rfl) ?_
    refine Ev.congr (f := _) (fun k => if_pos (by omega)) ?_
    refine Ev.congr (f := _) (fun k => if_pos (by omega)) ?_
    simp only [rkey_ev, rval_ev, ts_ev, Option.bind_some]
    unfold chkL pairE
    rw [wr1 (x := (i : Int) + 1) (by omega) (by omega)]
    by_cases ck : keyE (rd_T56 l i).f0 = 0
    · simp only [if_pos ck]
      by_cases cv : valE (rd_T56 l i).f1 = 0
      · simp only [if_pos cv]
        by_cases ct : tsOk (rd_T56 l i).f2 = true
        · simp only [if_pos ct]
          by_cases ci : (i : Int) = 0
          · simp only [if_pos ci]
            refine Ev.congr (f := _) (fun k => if_neg (by omega)) ?_
            exact ih
          · simp only [if_neg ci]
            refine Ev.congr (f := _) (fun k => if_pos (by omega)) ?_
            rw [wr1 (x := (i : Int) - 1) (by omega) (by omega)]
            refine Ev.congr (f := _) (fun k => if_pos (by omega)) ?_
            refine Ev.congr (f := _) (fun k => if_pos (by omega)) ?_
            by_cases cb : Op.bytesLess (rd_T56 l ((i : Int) - 1)).f0.toList (rd_T56 l i).f0.toList = true
            · simp only [if_pos cb, if_true]
              exact ih
            · simp only [if_neg cb]
              exact Ev.now _
        · simp only [if_neg ct]
          exact Ev.now _
      · simp only [if_neg cv]
        exact Ev.now _
    · simp only [if_neg ck]
      exact Ev.now _
def chk (y : Int) (l : List S56) : Int := if y < 0 ∨ y ≥ 4096 ∨ (l.length : Int) > 16 then 32 else chkL l l.length 0
theorem chk_ev (y : Int) (l : List S56) (z : Bool) : Ev (fun k => record_CheckChunk.f k y l z) (chk y l) := by
  unfold record_CheckChunk.f chk
  by_cases c1 : y < 0
  · rw [if_pos (.inl c1)]
    refine Ev.congr (f := _) (fun k => if_pos c1) ?_
    exact Ev.step (f := fun _ => some 32) (fun k => by simp only [record_CheckChunk.j0]; rfl) (Ev.now _)
  · refine Ev.congr (f := _) (fun k => if_neg c1) ?_
    by_cases c2 : y ≥ 4096
    · rw [if_pos (.inr (.inl c2))]
      refine Ev.congr (f := _) (fun k => if_pos c2) ?_
      exact Ev.step (f := fun _ => some 32) (fun k => by simp only [record_CheckChunk.j0]; rfl) (Ev.now _)
    · refine Ev.congr (f := _) (fun k => if_neg c2) ?_
      by_cases c3 : (l.length : Int) > 16
      · rw [if_pos (.inr (.inr c3)), decide_eq_true c3]
        exact Ev.step (f := fun _ => some 32) (fun k => by simp only [record_CheckChunk.j0]; rfl) (Ev.now _)
      · rw [if_neg (by omega), decide_eq_false c3]
        exact Ev.step (fun k => by simp only [record_CheckChunk.j0]; rfl) (chk_loop l (by omega) y z l.length 0 (by omega))
theorem rchk_ev (y : Int) (l : List S56) (z : Bool) : Ev (fun k => cressetref03_CheckChunk.f k y l z) (chk y l) := by
  unfold cressetref03_CheckChunk.f chk
  by_cases c1 : y < 0
  · rw [if_pos (.inl c1)]
    refine Ev.congr (f := _) (fun k => if_pos c1) ?_
    exact Ev.step (f := fun _ => some 32) (fun k => by simp only [cressetref03_CheckChunk.j0]; rfl) (Ev.now _)
  · refine Ev.congr (f := _) (fun k => if_neg c1) ?_
    by_cases c2 : y ≥ 4096
    · rw [if_pos (.inr (.inl c2))]
      refine Ev.congr (f := _) (fun k => if_pos c2) ?_
      exact Ev.step (f := fun _ => some 32) (fun k => by simp only [cressetref03_CheckChunk.j0]; rfl) (Ev.now _)
    · refine Ev.congr (f := _) (fun k => if_neg c2) ?_
      by_cases c3 : (l.length : Int) > 16
      · rw [if_pos (.inr (.inr c3)), decide_eq_true c3]
        exact Ev.step (f := fun _ => some 32) (fun k => by simp only [cressetref03_CheckChunk.j0]; rfl) (Ev.now _)
      · rw [if_neg (by omega), decide_eq_false c3]
        exact Ev.step (fun k => by simp only [cressetref03_CheckChunk.j0]; rfl) (rchk_loop l (by omega) y z l.length 0 (by omega))
theorem chk_zero {y : Int} {l : List S56} (h : chk y l = 0) : 0 ≤ y ∧ y < 4096 ∧ l.length ≤ 16 := by
  unfold chk at h
  split at h
  · omega
  · omega
def lastLess (out xs : List S56) : Bool := Op.bytesLess (rd_T56 out ((out.length : Int) - 1)).f0.toList (rd_T56 xs 0).f0.toList
def goes (out xs : List S56) : Bool := if 0 < xs.length then if 0 < out.length then lastLess out xs else true else true
def bld (L : List S65) : Nat → Int → List S56 → List S56 × Int
  | 0, _, out => (out, 0)
  | d + 1, i, out => if chk (rd_T65 L i).f0 (rd_T65 L i).f1 = 0 then (if (rd_T65 L i).f0 = i then (if ((rd_T65 L i).f2 != (i == (L.length : Int) - 1)) = true then ([], 1) else (if goes out (rd_T65 L i).f1 = true then bld L d (i + 1) (out ++ (rd_T65 L i).f1) else ([], 150))) else ([], 1)) else ([], chk (rd_T65 L i).f0 (rd_T65 L i).f1)
theorem bld_len (L : List S65) : ∀ (d : Nat) (i : Int) (out : List S56), 0 ≤ i → (out.length : Int) ≤ 16 * i → i ≤ 4096 → (bld L d i out).1.length ≤ 65536
  | 0, i, out, h0, h1, h2 => by show out.length ≤ 65536; omega
  | d + 1, i, out, h0, h1, h2 => by
    unfold bld
    split
    · rename_i hc
      have hz := chk_zero hc
      split
      · split
        · exact Nat.zero_le _
        · split
          · exact bld_len L d (i + 1) _ (by omega) (by rw [List.length_append]; omega) (by omega)
          · exact Nat.zero_le _
      · exact Nat.zero_le _
    · exact Nat.zero_le _
theorem build_loop (L : List S65) (hL : L.length ≤ 9223372036854775000) (hne : L.length ≠ 0) : ∀ (d i : Nat) (out : List S56), i + d = L.length → out.length ≤ 16 * i → i ≤ 4096 → Ev (fun k => image_Build.l0 k L out L (L.length : Int) (i : Int)) (bld L d (i : Int) out)
  | 0, i, out, h, ho, hi => by
    refine Ev.step (fun k => by simp only [image_Build.l0]; rw [if_neg (by omega), if_neg (by omega)]) ?_
    exact Ev.now _
  | d + 1, i, out, h, ho, hi => by
    have ih := build_loop L hL hne d (i + 1)
    refine Ev.step (fun k => by simp only [image_Build.l0]; rw [if_pos (by omega), if_pos (by omega), if_pos (by omega)]) ?_
    refine Ev.bind (chk_ev _ _ _) ?_
    unfold bld
    by_cases c1 : chk (rd_T65 L i).f0 (rd_T65 L i).f1 = 0
    · refine Ev.congr (f := _) (fun k => if_pos c1) ?_
      rw [if_pos c1]
      have hz := chk_zero c1
      by_cases c2 : (rd_T65 L i).f0 = (i : Int)
      · refine Ev.congr (f := _) (fun k => if_pos c2) ?_
        rw [if_pos c2, wr1 (x := (L.length : Int) - 1) (by omega) (by omega)]
        by_cases c3 : ((rd_T65 L i).f2 != ((i : Int) == (L.length : Int) - 1)) = true
        · rw [if_pos c3]
          refine Ev.step (f := fun _ => some ([], 1)) (fun k => by simp only [image_Build.j1]; rw [if_pos c3]) ?_
          exact Ev.now _
        · rw [if_neg c3]
          have nx : Ev (fun k => if out.length + (rd_T65 L i).f1.length < 3518437208883 then image_Build.l0 k L (out ++ (rd_T65 L i).f1) L (L.length : Int) (wrap64 ((i : Int) + 1)) else none) (bld L d ((i : Int) + 1) (out ++ (rd_T65 L i).f1)) := by
            refine Ev.congr (f := _) (fun k => if_pos (by omega)) ?_
            rw [wr1 (x := (i : Int) + 1) (by omega) (by omega)]
            exact ih (out ++ (rd_T65 L i).f1) (by omega) (by rw [List.length_append]; omega) (by omega)
          refine Ev.step (fun k => by simp only [image_Build.j1]; rw [if_neg c3]) ?_
          by_cases c4 : 0 < (rd_T65 L i).f1.length
          · refine Ev.congr (f := _) (fun k => if_pos (by omega)) ?_
            by_cases c5 : 0 < out.length
            · refine Ev.congr (f := _) (fun k => if_pos (by omega)) ?_
              rw [wr1 (x := (out.length : Int) - 1) (by omega) (by omega)]
              refine Ev.congr (f := _) (fun k => if_pos (by omega)) ?_
              refine Ev.congr (f := _) (fun k => if_pos (by omega)) ?_
              refine Ev.congr (f := _) (fun k => if_pos (by omega)) ?_
              by_cases c6 : Op.bytesLess (rd_T56 out ((out.length : Int) - 1)).f0.toList (rd_T56 (rd_T65 L i).f1 0).f0.toList = true
              · refine Ev.congr (f := _) (fun k => if_pos c6) ?_
                rw [if_pos (show goes out (rd_T65 L i).f1 = true by unfold goes lastLess; rw [if_pos c4, if_pos c5]; exact c6)]
                exact nx
              · refine Ev.congr (f := _) (fun k => if_neg c6) ?_
                rw [if_neg (show ¬ goes out (rd_T65 L i).f1 = true by unfold goes lastLess; rw [if_pos c4, if_pos c5]; exact c6)]
                exact Ev.now _
            · refine Ev.congr (f := _) (fun k => if_neg (by omega)) ?_
              rw [if_pos (show goes out (rd_T65 L i).f1 = true by unfold goes; rw [if_pos c4, if_neg c5])]
              exact nx
          · refine Ev.congr (f := _) (fun k => if_neg (by omega)) ?_
            rw [if_pos (show goes out (rd_T65 L i).f1 = true by unfold goes; rw [if_neg c4])]
            exact nx
      · refine Ev.congr (f := _) (fun k => if_neg c2) ?_
        rw [if_neg c2]
        exact Ev.step (f := fun _ => some ([], 1)) (fun k => by simp only [image_Build.j1]; rfl) (Ev.now _)
    · refine Ev.congr (f := _) (fun k => if_neg c1) ?_
      rw [if_neg c1]
      exact Ev.now _
theorem rbuild_loop (L : List S65) (hL : L.length ≤ 9223372036854775000) : ∀ (d i : Nat) (out : List S56), i + d = L.length → out.length ≤ 16 * i → i ≤ 4096 → Ev (fun k => cressetref18_Build.l0 k L out (i : Int)) (bld L d (i : Int) out)
  | 0, i, out, h, ho, hi => by
    refine Ev.step (fun k => by simp only [cressetref18_Build.l0]; rw [if_neg (by omega)]) ?_
    exact Ev.now _
  | d + 1, i, out, h, ho, hi => by
    have ih := rbuild_loop L hL d (i + 1)
    refine Ev.step (fun k => by simp only [cressetref18_Build.l0]; rw [if_pos (by omega), if_pos (by omega)]) ?_
    refine Ev.bind (rchk_ev _ _ _) ?_
    unfold bld
    by_cases c1 : chk (rd_T65 L i).f0 (rd_T65 L i).f1 = 0
    · refine Ev.congr (f := _) (fun k => if_pos c1) ?_
      rw [if_pos c1]
      have hz := chk_zero c1
      by_cases c2 : (rd_T65 L i).f0 = (i : Int)
      · refine Ev.congr (f := _) (fun k => if_pos c2) ?_
        rw [if_pos c2, wr1 (x := (L.length : Int) - 1) (by omega) (by omega)]
        by_cases c3 : ((rd_T65 L i).f2 != ((i : Int) == (L.length : Int) - 1)) = true
        · rw [if_pos c3]
          refine Ev.step (f := fun _ => some ([], 1)) (fun k => by simp only [cressetref18_Build.j1]; rw [if_pos c3]) ?_
          exact Ev.now _
        · rw [if_neg c3]
          have nx : Ev (fun k => if out.length + (rd_T65 L i).f1.length < 3518437208883 then cressetref18_Build.l0 k L (out ++ (rd_T65 L i).f1) (wrap64 ((i : Int) + 1)) else none) (bld L d ((i : Int) + 1) (out ++ (rd_T65 L i).f1)) := by
            refine Ev.congr (f := _) (fun k => if_pos (by omega)) ?_
            rw [wr1 (x := (i : Int) + 1) (by omega) (by omega)]
            exact ih (out ++ (rd_T65 L i).f1) (by omega) (by rw [List.length_append]; omega) (by omega)
          refine Ev.step (fun k => by simp only [cressetref18_Build.j1]; rw [if_neg c3, if_pos (by omega), if_pos (by omega)]) ?_
          by_cases c4 : 0 < (rd_T65 L i).f1.length
          · refine Ev.congr (f := _) (fun k => if_pos (by omega)) ?_
            by_cases c5 : 0 < out.length
            · refine Ev.congr (f := _) (fun k => if_pos (by omega)) ?_
              rw [wr1 (x := (out.length : Int) - 1) (by omega) (by omega)]
              refine Ev.congr (f := _) (fun k => if_pos (by omega)) ?_
              refine Ev.congr (f := _) (fun k => if_pos (by omega)) ?_
              refine Ev.congr (f := _) (fun k => if_pos (by omega)) ?_
              by_cases c6 : Op.bytesLess (rd_T56 out ((out.length : Int) - 1)).f0.toList (rd_T56 (rd_T65 L i).f1 0).f0.toList = true
              · refine Ev.congr (f := _) (fun k => if_pos c6) ?_
                rw [if_pos (show goes out (rd_T65 L i).f1 = true by unfold goes lastLess; rw [if_pos c4, if_pos c5]; exact c6)]
                exact nx
              · refine Ev.congr (f := _) (fun k => if_neg c6) ?_
                rw [if_neg (show ¬ goes out (rd_T65 L i).f1 = true by unfold goes lastLess; rw [if_pos c4, if_pos c5]; exact c6)]
                exact Ev.now _
            · refine Ev.congr (f := _) (fun k => if_neg (by omega)) ?_
              rw [if_pos (show goes out (rd_T65 L i).f1 = true by unfold goes; rw [if_pos c4, if_neg c5])]
              exact nx
          · refine Ev.congr (f := _) (fun k => if_neg (by omega)) ?_
            rw [if_pos (show goes out (rd_T65 L i).f1 = true by unfold goes; rw [if_neg c4])]
            exact nx
      · refine Ev.congr (f := _) (fun k => if_neg c2) ?_
        rw [if_neg c2]
        exact Ev.step (f := fun _ => some ([], 1)) (fun k => by simp only [cressetref18_Build.j1]; rfl) (Ev.now _)
    · refine Ev.congr (f := _) (fun k => if_neg c1) ?_
      rw [if_neg c1]
      exact Ev.now _
theorem build_ev (L : List S65) (hL : L.length ≤ 9223372036854775000) : Ev (fun k => image_Build.f k L) (if L.length = 0 then ([], 1) else bld L L.length 0 []) := by
  unfold image_Build.f
  by_cases c : L.length = 0
  · rw [if_pos c]
    refine Ev.step (fun k => by simp only [image_Build.l0]; rw [if_neg (by omega), if_pos (by omega)]) ?_
    exact Ev.now _
  · rw [if_neg c]
    exact build_loop L hL c L.length 0 [] (by omega) (by simp) (by omega)
theorem rbuild_ev (L : List S65) (hL : L.length ≤ 9223372036854775000) : Ev (fun k => cressetref18_Build.f k L) (if L.length = 0 then ([], 1) else bld L L.length 0 []) := by
  unfold cressetref18_Build.f
  by_cases c : L.length = 0
  · rw [if_pos c]
    refine Ev.congr (f := _) (fun k => if_pos (by omega)) ?_
    exact Ev.now _
  · rw [if_neg c]
    refine Ev.congr (f := _) (fun k => if_neg (by omega)) ?_
    exact rbuild_loop L hL L.length 0 [] (by omega) (by simp) (by omega)
theorem eq_loop (l : List S56) (hl : l.length ≤ 65536) : ∀ (d i : Nat), i + d = l.length → Ev (fun k => api_Stamped_24.l0 k l l (l.length : Int) (i : Int)) true
  | 0, i, h => by
    refine Ev.step (f := fun _ => some true) (fun k => by simp only [api_Stamped_24.l0]; rw [if_neg (by omega)]) ?_
    exact Ev.now _
  | d + 1, i, h => by
    have ih := eq_loop l hl d (i + 1) (by omega)
    refine Ev.step (fun k => by simp only [api_Stamped_24.l0]; rw [if_pos (by omega), if_pos (by omega), if_pos (by omega), if_pos (by omega), if_neg (by simp)]) ?_
    rw [wr1 (x := (i : Int) + 1) (by omega) (by omega)]
    exact ih
theorem eq_ev (l : List S56) (hl : l.length ≤ 65536) : Ev (fun k => api_Stamped_24.f k l l) true := by
  unfold api_Stamped_24.f
  refine Ev.congr (f := _) (fun k => if_pos rfl) ?_
  exact eq_loop l hl l.length 0 (by omega)
theorem ImageBuilds : cressetlaw18_ImageBuilds.Pure := by
  intro L hL
  have h0 : L.length ≤ 9223372036854775000 := by have := hL.2.1; omega
  have hlen : (if L.length = 0 then (([], 1) : List S56 × Int) else bld L L.length 0 []).1.length ≤ 65536 := by
    split
    · exact Nat.zero_le _
    · exact bld_len L L.length 0 [] (by omega) (by simp) (by omega)
  have e : Ev (fun k => cressetlaw18_ImageBuilds.f k L) true := by
    unfold cressetlaw18_ImageBuilds.f
    refine Ev.bind (build_ev L h0) ?_
    refine Ev.bind (rbuild_ev L h0) ?_
    simp only [cressetlaw18_begun.f, Option.bind_some, if_true]
    refine Ev.bind (eq_ev _ hlen) ?_
    simp only [if_true, beq_self_eq_true]
    exact Ev.now _
  obtain ⟨k, hk⟩ := e
  exact ⟨k, hk k (Nat.le_refl k)⟩
end Go.Proofs.Ytkflgkmblebdmaa.Pure

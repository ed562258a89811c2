/-
Of the row ValidDoes: printed walks and plain laws, merged (wip/claim2.py).
-/
import Derived.Test.YtgbmlkoblcfceaaQValidDoes15
import Derived.Test.YtgbmlkoblcfceaaQValidDoes18
set_option linter.unusedVariables false
set_option linter.unusedSimpArgs false
namespace Go.Proofs.Ytgbmlkoblcfceaa.Vd
open Go.RowKit Go.Proofs.Ytgbmlkoblcfceaa.B Go.Proofs.YtgbmlkoblcfceaaW.PrintWords Go.Proofs.YtgbmlkoblcfceaaW.PrintLast Go.Proofs.YtgbmlkoblcfceaaW.PrintMore Go.Proofs.YtgbmlkoblcfceaaW.Mine Go.Proofs.YtgbmlkoblcfceaaW.Hp
structure V where
  l : List S67
  fl : Int
  la : Int
def isV (b : Nat) (s : V) : Asn := Asn.ex fun v : Value => Asn.star (Asn.box b #[.bool true, v, .int .i64 s.fl, .int .i64 s.la] 61) (Asn.row k67 67 v s.l)
def keysOf (ws : List ByteArray) : List ByteArray := Cp.cpt (Srt.srt ws)
def addV (s : V) (ts : Int) (ws : List ByteArray) : Int × V :=
  if ts ≤ s.la ∨ ts ≤ s.fl ∨ 1099511627776 < ts then (1, s) else if 4096 ≤ s.l.length then (5, s) else (0, ⟨s.l ++ [⟨ts, keysOf ws⟩], s.fl, ts⟩)
theorem shutV {w0 w : World} {U : Nat → Prop} {X : Asn} {b : Nat} {v : Value} {l : List S67} {fl la : Int} {r : Value} (H : Hp w0 w [(0, Asn.old w0 U), (0, X), (1, Asn.box b #[.bool true, v, .int .i64 fl, .int .i64 la] 61), (2, Asn.row k67 67 v l)]) : Hp w0 w [(0, Asn.old w0 U), (1, Asn.and (Asn.lift (r = r)) (isV b ⟨l, fl, la⟩))] :=
  ((H.join 2 3 rfl rfl (by decide) rfl rfl).imp 2 (A' := Asn.and (Asn.lift (r = r)) (isV b ⟨l, fl, la⟩)) rfl (fun S h => ⟨rfl, _, h⟩)).keep [0, 2]
theorem info67b : (Try.prog.info? 67).map (fun i => (i.zero, i.size, i.bytes)) = some (some (.agg #[.int .i64 0, .slice none 0 0]), 2, 32) := by kernel_rfl
theorem srt_len (l : List ByteArray) : (Srt.srt l).length = l.length := by simp [Srt.srt]
set_option maxHeartbeats 8000000 in
set_option maxRecDepth 100000 in
theorem add_bad (b : Nat) (s : V) (ts : Int) (A : Option Addr) (c : Nat) (ws : List ByteArray) (h : ts ≤ s.la ∨ ts ≤ s.fl ∨ 1099511627776 < ts) :
    Tr Try.prog 14 #[.pointer (some ⟨b, 0, none⟩), .int .i64 ts, .slice A ws.length c] (Asn.rd Kd.string A ws.length ws) (isV b s) (fun r => Asn.and (Asn.lift (r = .int .i64 1)) (isV b s)) := by
  refine Tr.intro fun w U H0 => ?_
  obtain ⟨v, H1⟩ := H0.open_ 2 rfl
  have H : Hp w w [(0, Asn.old w U), (0, Asn.rd Kd.string A ws.length ws), (1, Asn.box b #[.bool true, v, .int .i64 s.fl, .int .i64 s.la] 61), (2, Asn.row k67 67 v s.l)] := H1.split 2 2 rfl rfl (by decide)
  clear H0 H1
  have z0 : w.cell? ⟨b, 0, none⟩ = some (.bool true) := H.cell 2 rfl 0 rfl
  have z2 : w.cell? ⟨b, 2, none⟩ = some (.int .i64 s.fl) := H.cell 2 rfl 2 rfl
  have z3 : w.cell? ⟨b, 3, none⟩ = some (.int .i64 s.la) := H.cell 2 rfl 3 rfl
  by_cases h1 : ts ≤ s.la
  · have d1 : decide (ts ≤ s.la) = true := decide_eq_true h1
    clear h h1
    go_enter Try.func14, Try.ntmps14
    go_wp2_with (go_at_call 30; refine (none_calls b w true z0).mono ?_; rintro e w' ⟨rfl, rfl⟩)
    go_ret
    exact ⟨_, rfl, shutV H⟩
  · have d1 : decide (ts ≤ s.la) = false := decide_eq_false h1
    by_cases h2 : ts ≤ s.fl
    · have d2 : decide (ts ≤ s.fl) = true := decide_eq_true h2
      clear h h1 h2
      go_enter Try.func14, Try.ntmps14
      go_wp2_with (go_at_call 30; refine (none_calls b w true z0).mono ?_; rintro e w' ⟨rfl, rfl⟩)
      go_ret
      exact ⟨_, rfl, shutV H⟩
    · have d2 : decide (ts ≤ s.fl) = false := decide_eq_false h2
      have d3 : decide (1099511627776 < ts) = true := decide_eq_true (by omega)
      clear h h1 h2
      go_enter Try.func14, Try.ntmps14
      go_wp2_with (go_at_call 30; refine (none_calls b w true z0).mono ?_; rintro e w' ⟨rfl, rfl⟩)
      go_ret
      exact ⟨_, rfl, shutV H⟩
set_option maxHeartbeats 8000000 in
set_option maxRecDepth 100000 in
theorem add_full (b : Nat) (s : V) (ts : Int) (A : Option Addr) (c : Nat) (ws : List ByteArray) (h : ¬ (ts ≤ s.la ∨ ts ≤ s.fl ∨ 1099511627776 < ts)) (hf : 4096 ≤ s.l.length) :
    Tr Try.prog 14 #[.pointer (some ⟨b, 0, none⟩), .int .i64 ts, .slice A ws.length c] (Asn.rd Kd.string A ws.length ws) (isV b s) (fun r => Asn.and (Asn.lift (r = .int .i64 5)) (isV b s)) := by
  refine Tr.intro fun w U H0 => ?_
  obtain ⟨v, H1⟩ := H0.open_ 2 rfl
  have H : Hp w w [(0, Asn.old w U), (0, Asn.rd Kd.string A ws.length ws), (1, Asn.box b #[.bool true, v, .int .i64 s.fl, .int .i64 s.la] 61), (2, Asn.row k67 67 v s.l)] := H1.split 2 2 rfl rfl (by decide)
  clear H0 H1
  obtain ⟨Av, cv, rfl⟩ := H.fact 3 rfl (fun S h => Kd.R_slice h)
  have z0 : w.cell? ⟨b, 0, none⟩ = some (.bool true) := H.cell 2 rfl 0 rfl
  have z1 : w.cell? ⟨b, 1, none⟩ = some (.slice Av s.l.length cv) := H.cell 2 rfl 1 rfl
  have z2 : w.cell? ⟨b, 2, none⟩ = some (.int .i64 s.fl) := H.cell 2 rfl 2 rfl
  have z3 : w.cell? ⟨b, 3, none⟩ = some (.int .i64 s.la) := H.cell 2 rfl 3 rfl
  have d1 : decide (ts ≤ s.la) = false := decide_eq_false (by omega)
  have d2 : decide (ts ≤ s.fl) = false := decide_eq_false (by omega)
  have d3 : decide (1099511627776 < ts) = false := decide_eq_false (by omega)
  have d4 : decide (4096 ≤ (s.l.length : Int)) = true := decide_eq_true (by omega)
  have d5 : decide (4096 ≤ s.l.length) = true := decide_eq_true hf
  clear h hf
  go_enter Try.func14, Try.ntmps14
  go_wp2_with (go_at_call 30; refine (none_calls b w true z0).mono ?_; rintro e w' ⟨rfl, rfl⟩)
  go_ret
  exact ⟨_, rfl, shutV H⟩
set_option maxHeartbeats 8000000 in
set_option maxRecDepth 100000 in
theorem add_go (b : Nat) (s : V) (ts : Int) (A : Option Addr) (c : Nat) (ws : List ByteArray) (hc : ws.length ≤ c) (hw : ws.length < 8796093022208) (h : ¬ (ts ≤ s.la ∨ ts ≤ s.fl ∨ 1099511627776 < ts)) (hf : ¬ 4096 ≤ s.l.length) :
    Tr Try.prog 14 #[.pointer (some ⟨b, 0, none⟩), .int .i64 ts, .slice A ws.length c] (Asn.rd Kd.string A ws.length ws) (isV b s) (fun r => Asn.and (Asn.lift (r = .int .i64 0)) (isV b ⟨s.l ++ [⟨ts, keysOf ws⟩], s.fl, ts⟩)) := by
  refine Tr.intro fun w U H0 => ?_
  obtain ⟨v, H1⟩ := H0.open_ 2 rfl
  have H : Hp w w [(0, Asn.old w U), (0, Asn.rd Kd.string A ws.length ws), (1, Asn.box b #[.bool true, v, .int .i64 s.fl, .int .i64 s.la] 61), (2, Asn.row k67 67 v s.l)] := H1.split 2 2 rfl rfl (by decide)
  clear H0 H1
  obtain ⟨Av, cv, rfl⟩ := H.fact 3 rfl (fun S h => Kd.R_slice h)
  have z0 : w.cell? ⟨b, 0, none⟩ = some (.bool true) := H.cell 2 rfl 0 rfl
  have z1 : w.cell? ⟨b, 1, none⟩ = some (.slice Av s.l.length cv) := H.cell 2 rfl 1 rfl
  have z2 : w.cell? ⟨b, 2, none⟩ = some (.int .i64 s.fl) := H.cell 2 rfl 2 rfl
  have z3 : w.cell? ⟨b, 3, none⟩ = some (.int .i64 s.la) := H.cell 2 rfl 3 rfl
  have d1 : decide (ts ≤ s.la) = false := decide_eq_false (by omega)
  have d2 : decide (ts ≤ s.fl) = false := decide_eq_false (by omega)
  have d3 : decide (1099511627776 < ts) = false := decide_eq_false (by omega)
  have d4 : decide (4096 ≤ (s.l.length : Int)) = false := decide_eq_false (by omega)
  have d5 : decide (4096 ≤ s.l.length) = false := decide_eq_false hf
  have HW := Aside0.mk hw
  have HF := Aside0.mk hf
  clear h hf hw
  go_enter Try.func14, Try.ntmps14
  go_wp2_with (first
    | (go_at_call 30; refine (none_calls b w true z0).mono ?_; rintro e w' ⟨rfl, rfl⟩)
    | (go_at_call 31; refine (slices_Clone_string_string.calls A c ws ws _ (H.reads 1 rfl) hc (if_pos HW.out)).mono ?_; rintro e w1 ⟨v0, rfl, HR, hb1⟩; have H1 := H.made 3 hb1 HR; obtain ⟨A1, c1, rfl⟩ := Kd.R_slice HR; clear HR hb1 z0 z1 z2 z3)
    | (go_at_call 32; refine (H1.call (Cp.sort_tr A1 _ c1 ws (by have := HW.out; omega)) 4 rfl rfl (fun _ _ => trivial)).mono ?_; rintro e w2 ⟨v2, rfl, H2⟩; clear H1; have z1 : w2.drew.cell? ⟨b, 1, none⟩ = some (.slice Av s.l.length cv) := H2.drew.cell 2 rfl 1 rfl))
  have HL : Aside0 ((Srt.srt ws).length < 8796093022208) := ⟨by rw [srt_len]; exact HW.out⟩
  have hcal := H2.drew.call (Cp.compact_tr A1 _ c1 (Srt.srt ws) (by have := HL.out; omega)) 4 rfl rfl (fun _ _ => trivial)
  go_region_law (first
    | (refine goes_ Try.func33 (by kernel_rfl) rfl #[.slice A1 ws.length c1] (by rfl) rfl rfl (by simp only [List.map_toArray, List.map_cons, List.map_nil]; rfl) ?_; refine hcal.mono ?_; rintro e w3 ⟨u3, rfl, H3⟩; refine ⟨_, rfl, ?_⟩; obtain ⟨A3, c3, rfl⟩ := H3.fact 4 rfl (fun _ h => Kd.R_slice h); have y3 : w3.cell? ⟨b, 1, none⟩ = some (.slice Av s.l.length cv) := H3.cell 2 rfl 1 rfl; have y4 : (w3.alloc (.cells #[.int .i64 ts, .slice A3 (Cp.cpt (Srt.srt ws)).length c3] 67)).cell? ⟨b, 1, none⟩ = some (.slice Av s.l.length cv) := (H3.box_new 9 #[.int .i64 ts, .slice A3 (Cp.cpt (Srt.srt ws)).length c3] 67).cell 2 rfl 1 rfl; have H4 := H3.imp (A' := Asn.el k67 (⟨ts, keysOf ws⟩ : S67) [.int .i64 ts, .slice A3 (Cp.cpt (Srt.srt ws)).length c3]) 4 rfl (fun _ h => k67_mkM _ _ _ (⟨ts, keysOf ws⟩ : S67) h))
    | (refine Hp.step_append_el k67 H4 3 4 ?hw (.tmp 45) (.tmp 50) 59 67 (.agg #[.int .i64 0, .slice none 0 0]) 32 rfl Try.underlying59 info67b rfl (by decide) (by omega) (.slice Av s.l.length cv) s.l rfl rfl (⟨ts, keysOf ws⟩ : S67) [.int .i64 ts, .slice A3 (Cp.cpt (Srt.srt ws)).length c3] rfl (by decide) rfl ?hs ?hx (by have := HF.out; omega) ?_; (case hw => rfl); (case hs => rfl); (case hx => rfl); intro v5 w5 H5; obtain ⟨A5, c5, rfl⟩ := H5.fact 3 rfl (fun S h => Kd.R_slice h); have t5 := H5.cell 2 rfl 1 (v := .slice Av s.l.length cv) rfl; have t6 := H5.unfrozen 2 rfl 1; have t7 := H5.cell 2 rfl 3 (v := .int .i64 s.la) rfl; have t8 := H5.unfrozen 2 rfl 3))
  all_goals
    clear z1 t5 hcal
    rw [show (s.l ++ [(⟨ts, keysOf ws⟩ : S67)]).length = s.l.length + 1 by simp] at H5
    go_wp2
    go_ret
    exact ⟨_, rfl, shutV (l := s.l ++ [⟨ts, keysOf ws⟩]) (fl := s.fl) (la := ts) (((H5.box_set 2 rfl rfl 1 (.slice A5 (s.l.length + 1) c5)).box_set 2 rfl rfl 3 (.int .i64 ts)).keep [0, 1, 2, 3])⟩
theorem add_tr (b : Nat) (s : V) (ts : Int) (A : Option Addr) (c : Nat) (ws : List ByteArray) (hc : ws.length ≤ c) (hw : ws.length < 8796093022208) :
    Tr Try.prog 14 #[.pointer (some ⟨b, 0, none⟩), .int .i64 ts, .slice A ws.length c] (Asn.rd Kd.string A ws.length ws) (isV b s) (fun r => Asn.and (Asn.lift (r = .int .i64 (addV s ts ws).1)) (isV b (addV s ts ws).2)) := by
  unfold addV
  by_cases h1 : ts ≤ s.la ∨ ts ≤ s.fl ∨ 1099511627776 < ts
  · rw [if_pos h1]
    exact add_bad b s ts A c ws h1
  · rw [if_neg h1]
    by_cases h2 : 4096 ≤ s.l.length
    · rw [if_pos h2]
      exact add_full b s ts A c ws h1 h2
    · rw [if_neg h2]
      exact add_go b s ts A c ws hc hw h1 h2
end Go.Proofs.Ytgbmlkoblcfceaa.Vd

/-
Of the row ValidClashes: printed walks and plain laws, merged (wip/claim2.py).
-/
import Derived.Test.YtgbmlkoblcfceaaQValidClashes3
import Derived.Test.YtgbmlkoblcfceaaQValidClashes15
import Derived.Test.YtgbmlkoblcfceaaQValidClashes17
import Derived.WalkMore
import Derived.Outline
import Derived.Deep.Heap
import Derived.RangeFuncRecord
set_option linter.unusedVariables false
set_option linter.unusedSimpArgs false
namespace Go.Proofs.Ytgbmlkoblcfceaa.Ky
open Go.RowKit Go.Proofs.Ytgbmlkoblcfceaa.B Go.Proofs.YtgbmlkoblcfceaaW.PrintWords Go.Proofs.YtgbmlkoblcfceaaW.PrintLast Go.Proofs.YtgbmlkoblcfceaaW.PrintMore Go.Proofs.YtgbmlkoblcfceaaW.Mine Go.Proofs.YtgbmlkoblcfceaaW.Hp
theorem info9c : (Try.prog.info? 9).map (fun i => (i.zero, i.size, i.bytes)) = some (some (.string ⟨#[]⟩), 1, 16) := by kernel_rfl
set_option maxHeartbeats 8000000 in
set_option maxRecDepth 100000 in
theorem writes_tr (A : Option Addr) (c : Nat) (l : List S72) (hc : l.length ≤ c) (hb : l.length < 8796093022208) :
    Tr Try.prog 18 #[.slice A l.length c] (Asn.rd k72 A l.length l) Asn.top (fun r => Asn.row Kd.string 9 r (keys (l.map (·.f0)))) := by
  refine Tr.intro fun w U H0 => ?_
  have H := (H0.keep [0, 1]).free 1 (A := Asn.row Kd.string 9 (.slice none 0 0) []) (Kd.R_nil _ _ _ _ _)
  have HB := Aside0.mk hb
  have hmx : l.length ≤ 9223372036854775807 := by omega
  clear H0 hb
  go_enter Try.func18, Try.ntmps18
  go_wp2
  go_loopg [3, 8] l.length (fun gk v3 v8 wr => ∃ (i : Nat) (A3 : Option Addr) (c3 : Nat), v8 = .int .i64 i ∧ v3 = .slice A3 i c3 ∧ i ≤ l.length ∧ l.length - i ≤ gk ∧ Aside0 (Hp w wr [(0, Asn.old w U), (0, Asn.rd k72 A l.length l), (1, Asn.row Kd.string 9 (.slice A3 i c3) ((l.take i).map (·.f0)))]))
  case atStart => exact ⟨0, none, 0, rfl, rfl, Nat.zero_le _, by omega, ⟨H⟩⟩
  case round =>
    clear H
    obtain ⟨i, A3, c3, rfl, rfl, hil, hgk, HO⟩ := hrel
    by_cases hlt : i < l.length
    · have hltz : (i : Int) < (l.length : Int) := by omega
      obtain ⟨ad, e, x0, x1, x2⟩ := at_T72 (HO.out.reads 1 rfl) (i : Int) (by omega) hltz
      cases e
      have HM : Aside0 (((l.take (i + 1)).map (·.f0)) = ((l.take i).map (·.f0)) ++ [(rd_T72 l (i : Int)).f0]) := ⟨by
        rw [List.take_succ_eq_append_getElem hlt, List.map_append]
        unfold rd_T72
        rw [Int.toNat_natCast, List.getD_eq_getElem?_getD, List.getElem?_eq_getElem hlt]
        rfl⟩
      have HL : Aside0 (((l.take i).map (·.f0)).length = i) := ⟨by rw [List.length_map, List.length_take]; omega⟩
      have HGK := Aside0.mk hgk
      rw [Int.toNat_natCast] at x0 x1 x2
      generalize rd_T72 l (i : Int) = x at x0 x1 x2 HM
      clear hgk
      generalize (l.take i).map (·.f0) = xs at HO HM HL
      have HI := HO
      clear HO
      go_upto_region 5 with (first
        | ((with_reducible refine gate_dst (N := 5) rfl ?_); refine Hp.at_box HI.out 7 ?hg (N := 5) ?hd (cs := #[.string ⟨#[]⟩, .string ⟨#[]⟩, .bool false]) (t := 72) ?hr ?_; (case hd => rfl); (case hg => rfl); (case hr => first | (go_simp; done) | (go_simp; rfl)); intro g w3 H3; clear HI x0 x1 x2; have y0 := H3.cell 3 rfl 0 (v := .string ⟨#[]⟩) rfl; have y1 := H3.cell 3 rfl 1 (v := .string ⟨#[]⟩) rfl; have y2 := H3.cell 3 rfl 2 (v := .bool false) rfl; have u0 := H3.unfrozen 3 rfl 0; have u1 := H3.unfrozen 3 rfl 1; have u2 := H3.unfrozen 3 rfl 2)
        | ((with_reducible refine gate_store (t := 72) (p := 5) rfl ?_); refine Hp.at_sets H3 3 rfl rfl ?hg (T := 72) (z := 5) (x := ?vo) ?ho ?hn 0 [.string x.f0, .string x.f1, .bool x.f2] ?hr (cs' := #[.string x.f0, .string x.f1, .bool x.f2]) ?hc ?_; (case ho => rfl); (case hg => rfl); (case hn => rfl); (case hr => first | (go_simp; done) | (go_simp; rfl)); (case hc => rfl); clear y0 y1 y2 u0 u1 u2; intro w4 H4))
      have y0 := H4.cell 3 rfl 0 (v := .string x.f0) rfl
      go_wp2_with (first
        | ((with_reducible refine gate_builtin (b := .append) (xs := #[.tmp 12, .tmp 15]) rfl ?_); at_builtin; refine Hp.at_append Kd.string H4 2 rfl (.tmp 12) (.tmp 15) 23 9 (.string ⟨#[]⟩) 16 rfl Try.underlying23 info9c rfl (by decide) (by omega) (.slice A3 i c3) xs rfl rfl x.f0 [.string x.f0] ?hs ?hx (fun _ => rfl) (by have := HL.out; have := HB.out; omega) ?_; (case hs => rfl); (case hx => rfl); intro v5 w5 H5; obtain ⟨A5, c5, rfl⟩ := H5.fact 2 rfl (fun _ h => Kd.R_slice h); rw [show (xs ++ [x.f0]).length = i + 1 by rw [List.length_append, HL.out]; rfl, ← HM.out] at H5))
      rw [HL.out]
      go_roundg (l.length - (i + 1))
      case measure => have := HGK.out; omega
      case rel => exact ⟨i + 1, A5, c5, by go_num, rfl, by omega, by omega, ⟨H5.keep [0, 1, 2]⟩⟩
    · obtain rfl : i = l.length := by omega
      have hltz : ¬ (l.length : Int) < (l.length : Int) := by omega
      have h1 := HO.out
      rw [List.take_length] at h1
      go_wp2_with (first
        | (go_at_call 32; refine (h1.call (Cp.sort_tr A3 _ c3 _ (by rw [List.length_map]; have := HB.out; omega)) 2 rfl rfl (fun _ _ => trivial)).mono ?_; rintro e w2 ⟨v2, rfl, H2⟩)
        | (go_at_call 33; refine (H2.call (Cp.compact_tr A3 _ c3 _ (by rw [show (Srt.srt (l.map (·.f0))).length = l.length by simp [Srt.srt]]; have := HB.out; omega)) 2 rfl rfl (fun _ _ => trivial)).mono ?_; rintro e w3 ⟨v3, rfl, H3⟩))
      go_ret
      exact ⟨_, rfl, H3.keep [0, 2]⟩
theorem writes_calls (A : Option Addr) (c : Nat) (l : List S72) (w : World) (hC : Kd.C k72 w A l.length l) (hc : l.length ≤ c) (hb : l.length < 8796093022208) :
    Calls Try.prog 18 #[.slice A l.length c] w fun e w' => ∃ v0_ : Value, e = .returned (v0_) ∧ Kd.R Kd.string 9 w' w.heap.size (fun _ => True) v0_ (keys (l.map (·.f0))) ∧ Below w.heap.size w w' := by
  refine (writes_tr A c l hc hb w (fun _ => True) (fun _ => False) (Kd.F_mono (Kd.C_F (Kd.heap_iso _ (Kd.heap_pair Kd.heap_string (Kd.heap_pair Kd.heap_string Kd.heap_bool))) hC) (fun _ _ => trivial)) trivial (fun _ _ h => h)).mono ?_
  rintro e w' ⟨r, rfl, ⟨T, hT, hT2⟩, ho, ht, hu, hs, hk⟩
  refine ⟨r, rfl, ?_, ho, ht, hu, hs, fun k hlt => hk k hlt id⟩
  have h1 : Kd.R Kd.string 9 w' 0 (fun _ => True) r (keys (l.map (·.f0))) := Kd.R_mono hT (fun _ _ => trivial)
  exact Kd.R_raise (d := Kd.string) (b := 0) (b' := w.heap.size) (fun _ _ _ _ h => h) h1 (fun k hk => (hT2 k (hT.1 k hk)).elim False.elim id)
end Go.Proofs.Ytgbmlkoblcfceaa.Ky

namespace Go.Proofs.Ytgbmlkoblcfceaa.B
open Go.RowKit Go.Proofs.YtgbmlkoblcfceaaW.PrintWords Go.Proofs.YtgbmlkoblcfceaaW.PrintLast Go.Proofs.YtgbmlkoblcfceaaW.PrintMore Go.Proofs.YtgbmlkoblcfceaaW.Mine
attribute [local go_sem] max2_int min2_int max_two min_two max_three min_three max_four min_four str_gtr str_leq str_geq str_max str_min   -- for this text's walks alone
set_option linter.unusedVariables false
set_option linter.unusedSimpArgs false

def valid_Writes.f (l0 : List S72) : Option (List ByteArray) := if l0.length < 8796093022208 then some (Go.Proofs.Ytgbmlkoblcfceaa.Ky.keys (l0.map (·.f0))) else none
theorem valid_Writes.calls (A0 : Option Addr) (c0 : Nat) (l0 : List S72) (r : List ByteArray) (w : World) (hr0 : Kd.C k72 w A0 l0.length l0) (hc0 : l0.length ≤ c0) (h : valid_Writes.f l0 = some r) :
    Calls Try.prog 18 #[.slice A0 l0.length c0] w fun e w' => ∃ v0_ : Value, e = .returned (v0_) ∧ Kd.R Kd.string 9 w' w.heap.size (fun _ => True) v0_ r ∧ Below w.heap.size w w' := by
  unfold valid_Writes.f at h
  split at h
  · obtain rfl := Option.some.inj h
    exact Go.Proofs.Ytgbmlkoblcfceaa.Ky.writes_calls A0 c0 l0 w hr0 hc0 (by assumption)
  · cases h

end Go.Proofs.Ytgbmlkoblcfceaa.B

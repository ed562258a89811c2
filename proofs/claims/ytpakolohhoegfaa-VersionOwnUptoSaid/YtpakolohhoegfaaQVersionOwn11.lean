/-
Of the row VersionOwn: printed walks and plain laws, merged (wip/claim2.py).
-/
import Derived.Test.YtpakolohhoegfaaQVersionOwn3
import Derived.Test.YtpakolohhoegfaaQVersionOwn8
import Derived.Test.YtpakolohhoegfaaQVersionOwn9
import Derived.Test.YtpakolohhoegfaaQVersionOwn10
import Derived.Laws.CopyRow
import Derived.Laws.IdiomCopy
set_option linter.unusedVariables false
set_option linter.unusedSimpArgs false
namespace Go.Proofs.Ytpakolohhoegfaa.Mv
open Go.RowKit Go.Maps Go.WideMaps Go.Proofs.Ytpakolohhoegfaa.B Go.Proofs.YtpakolohhoegfaaW.PrintWords Go.Proofs.YtpakolohhoegfaaW.PrintLast Go.Proofs.YtpakolohhoegfaaW.PrintMore Go.Proofs.YtpakolohhoegfaaW.Mine Go.Proofs.YtpakolohhoegfaaW.Hp

abbrev SP := S50
abbrev SW := S58
theorem wr1 {x : Int} (h0 : -9223372036854775808 ≤ x) (h1 : x ≤ 9223372036854775807) : wrap64 x = x := by unfold wrap64; omega
theorem nx {i : Nat} (h : i < 1099511627776) : Value.int .i64 (wrap64 ((i : Int) + 1)) = .int .i64 ((i + 1 : Nat) : Int) := by
  rw [wr1 (by omega) (by omega)]
  rfl
theorem lawS : Keyed Try.prog 9 := string_keyed Try.underlying9
theorem keyS {s : ByteArray} (h : s.size ≤ maxLen) : keyOf Try.prog 9 (.string s) = some (kyS.lit s) := keyOf_string_mk Try.underlying9 h
theorem zeroS (w : World) : (zeroValue 9).run Try.prog w = .ok (.string ⟨#[]⟩) w := by kernel_rfl
theorem map_key {α : Type} {enc : α → Value} {b : Nat} {l : List (ByteArray × α)} {w0 w : World} {L : List (Nat × Asn)} {i : Nat} (H : Hp w0 w L) (p : Nat) (hi : L[p]? = some (i, Asn.map kyS Try.prog 9 enc b l)) : ∀ q ∈ l, q.1.size ≤ maxLen := by
  obtain ⟨es, he, hk⟩ := (H.map_owns p hi).2.keysOf
  intro q hq
  have hm : (kyS.lit q.1, (DataW.held (enc q.2) : DataW Value)) ∈ es := by
    have h1 : (kyS.D enc l) = .map (l.map fun p => (kyS.lit p.1, (DataW.held (enc p.2) : DataW Value))) := rfl
    rw [h1] at he
    injection he with he
    rw [← he]
    exact List.mem_map.2 ⟨q, hq, rfl⟩
  obtain ⟨v, hv⟩ := hk _ hm
  obtain ⟨x, _, hx, hl⟩ := Maps.keyOf_str Try.underlying9 hv
  have h2 : q.1.data.toList = x := by
    have : Lit.string q.1.data.toList = Lit.string x := hx
    injection this
  rw [← h2] at hl
  have h3 : q.1.size = q.1.data.toList.length := by rw [Array.length_toList]; rfl
  omega
theorem srt_head {α : Type} {l : List (ByteArray × α)} (h : kyS.Srt l) : ∀ i (hi : i < l.length), kyS.get (l[i]'hi).1 l = some (l[i]'hi).2 := by
  induction l with
  | nil => intro i hi; exact absurd hi (Nat.not_lt_zero _)
  | cons p r ih =>
    have h1 := List.pairwise_cons.1 h
    intro i hi
    cases i with
    | zero => simp [Ky.get, kyS.sameT]
    | succ i =>
      have hr := ih h1.2 i (by simpa using hi)
      have hne : (kyS.lit p.1).sameKey (kyS.lit (r[i]'(by simpa using hi)).1) = false := kyS.sameF (kyS.lt_ne (h1.1 _ (List.getElem_mem _)))
      show ((p :: r).find? _).map _ = _
      rw [List.find?_cons]
      simp only [List.getElem_cons_succ, hne]
      exact hr
def wr (l : List (ByteArray × ByteArray)) (y : SW) : List (ByteArray × ByteArray) := if y.f2 = true then kyS.del y.f0 l else kyS.ins y.f0 y.f1 l
def pr (p : ByteArray × ByteArray) : SP := ⟨p.1, p.2⟩
set_option maxHeartbeats 4000000 in
set_option maxRecDepth 100000 in
theorem write_tr (b : Nat) (l : List (ByteArray × ByteArray)) (y : SW) (hy : y.f0.size ≤ maxLen) (hl : l.length < maxLen) :
    Tr Try.prog 42 #[.map (some b), .agg #[.string y.f0, .string y.f1, .bool y.f2]] Asn.top (Asn.map kyS Try.prog 9 Value.string b l) (fun r => Asn.and (Asn.lift (r = .tuple #[])) (Asn.map kyS Try.prog 9 Value.string b (wr l y))) := by
  refine Tr.intro fun w U H => ?_
  unfold wr
  have HY := Aside0.mk hy
  have HL := Aside0.mk hl
  clear hy hl
  obtain ⟨k0, v0, d0⟩ := y
  cases d0 with
  | true =>
    go_enter Try.func42, Try.ntmps42
    go_wp2_with (first
      | ((with_reducible refine gate_dst (N := 3) rfl ?_); refine Hp.at_box H 2 ?hg (N := 3) ?hd (cs := #[.string k0, .string v0, .bool true]) (t := 58) ?hr ?_; (case hd => rfl); (case hg => rfl); (case hr => first | (go_simp; done) | (go_simp; rfl)); intro g3 w1 H1; clear H; have z0 := H1.cell 3 rfl 0 (v := .string k0) rfl; have z1 := H1.cell 3 rfl 1 (v := .string v0) rfl; have z2 := H1.cell 3 rfl 2 (v := .bool true) rfl)
      | (at_delete; refine Hp.at_del H1 2 rfl rfl rfl (.tmp 6) (.tmp 8) 73 rfl 9 lawS Try.underlying73 rfl k0 (.string k0) rfl (keyS HY.out) ?_; intro w2 H2; clear H1 z0 z1 z2))
    refine bodyPost_end (v := .tuple #[]) (by simp [results, Try.f42, go_sem]) rfl ⟨_, rfl, ?_⟩
    exact (H2.imp 2 (A' := Asn.and (Asn.lift (Value.tuple #[] = Value.tuple #[])) (Asn.map kyS Try.prog 9 Value.string b (kyS.del k0 l))) rfl (fun S h => ⟨rfl, h⟩)).keep [0, 2]
  | false =>
    go_enter Try.func42, Try.ntmps42
    go_wp2_with (first
      | ((with_reducible refine gate_dst (N := 3) rfl ?_); refine Hp.at_box H 2 ?hg (N := 3) ?hd (cs := #[.string k0, .string v0, .bool false]) (t := 58) ?hr ?_; (case hd => rfl); (case hg => rfl); (case hr => first | (go_simp; done) | (go_simp; rfl)); intro g3 w1 H1; clear H; have z0 := H1.cell 3 rfl 0 (v := .string k0) rfl; have z1 := H1.cell 3 rfl 1 (v := .string v0) rfl; have z2 := H1.cell 3 rfl 2 (v := .bool false) rfl)
      | (at_mapUpdate; refine Hp.at_put H1 2 rfl rfl rfl (.tmp 9) (.tmp 11) (.tmp 13) 73 rfl 9 lawS Try.underlying73 rfl k0 (.string k0) rfl (keyS HY.out) v0 rfl HL.out ?_; intro w2 H2; clear H1 z0 z1 z2))
    refine bodyPost_end (v := .tuple #[]) (by simp [results, Try.f42, go_sem]) rfl ⟨_, rfl, ?_⟩
    exact (H2.imp 2 (A' := Asn.and (Asn.lift (Value.tuple #[] = Value.tuple #[])) (Asn.map kyS Try.prog 9 Value.string b (kyS.ins k0 v0 l))) rfl (fun S h => ⟨rfl, h⟩)).keep [0, 2]
def isRow (l : List SP) : Value → Option Addr × Nat → Prop := fun r x => r = .slice x.1 l.length x.2 ∧ l.length ≤ x.2
set_option maxHeartbeats 4000000 in
set_option maxRecDepth 100000 in
theorem pairs_tr (b : Nat) (l : List (ByteArray × ByteArray)) (hl : l.length < 1099511627776) :
    TrS Try.prog 43 #[.map (some b)] Asn.top (Asn.map kyS Try.prog 9 Value.string b l) (isRow (l.map pr)) (fun _ => Asn.map kyS Try.prog 9 Value.string b l) (fun x => Asn.row k50 50 (.slice x.1 (l.map pr).length x.2) (l.map pr)) := by
  refine TrS.intro fun w U H => ?_
  have HK := Aside0.mk (map_key H 2 rfl)
  have HS := Aside0.mk (H.map_owns 2 rfl).1
  have HL := Aside0.mk hl
  clear hl
  go_enter Try.func43, Try.ntmps43
  go_wp2_with (first
    | (go_at_call 54; refine (Iu.keysOf54 _ _).mono ?_; rintro e w1 ⟨rfl, rfl⟩)
    | (go_at_call 53; refine (Iu.sorted54 H 2 rfl (by have := HL.out; omega) 3).mono ?_; rintro e w2 ⟨A2, c2, rfl, hc2, H2'⟩; have H2 : Hp w w2 [(0, Asn.old w U), (1, Asn.map kyS Try.prog 9 Value.string b l), (3, Asn.row Kd.string 9 (.slice A2 l.length c2) (l.map Prod.fst))] := H2'.keep [0, 2, 3]; clear H H2' hc2))
  have HN := Aside0.mk ((H2.nil k50 50 2))
  go_loopg [3, 10] l.length (fun gk v3 v10 wr => ∃ (i : Nat) (A : Option Addr) (c : Nat), v10 = .int .i64 i ∧ i ≤ l.length ∧ l.length - i ≤ gk ∧ v3 = .slice A i c ∧ Aside0 (Hp w wr [(0, Asn.old w U), (1, Asn.map kyS Try.prog 9 Value.string b l), (3, Asn.row Kd.string 9 (.slice A2 l.length c2) (l.map Prod.fst)), (2, Asn.row k50 50 (.slice A i c) ((l.take i).map pr))]))
  case atStart => exact ⟨0, none, 0, rfl, Nat.zero_le _, by omega, rfl, HN⟩
  case round =>
    clear HN H2
    obtain ⟨i, A3, c3, rfl, hil, hgk, rfl, HO⟩ := hrel
    by_cases hlt : i < l.length
    · have hltz : (i : Int) < (l.length : Int) := by omega
      have hlm : (l.map Prod.fst).length = l.length := List.length_map _
      obtain ⟨q, cap, he, _, _, _⟩ := HO.out.fact 2 rfl (fun _ h => Kd.R_form h (by rw [hlm]; omega))
      injection he with he1 he2 he3
      subst he1
      obtain ⟨x0, u0⟩ := HO.out.fact 2 rfl (fun _ h => Kd.R_cell (enc := Value.string) (h1 := fun _ => rfl) ByteArray.empty (by rw [← hlm] at h; exact h) (i : Int) (by omega) (by rw [hlm]; omega))
      rw [Int.toNat_natCast] at x0 u0
      have hk : rdOf ByteArray.empty (l.map Prod.fst) (i : Int) = (l[i]'hlt).1 := by
        show (l.map Prod.fst).getD i ByteArray.empty = _
        rw [List.getD_eq_getElem?_getD, List.getElem?_map, List.getElem?_eq_getElem hlt]
        rfl
      rw [hk] at x0
      have HG := Aside0.mk (srt_head HS.out i hlt)
      have HKK := Aside0.mk (HK.out _ (List.getElem_mem hlt))
      have HT : Aside0 ((l.take i).map pr ++ [pr (l[i]'hlt)] = (l.take (i + 1)).map pr) := ⟨by rw [List.take_succ_eq_append_getElem hlt, List.map_append]; rfl⟩
      have HTL : Aside0 (((l.take i).map pr).length = i) := ⟨by rw [List.length_map, List.length_take]; omega⟩
      have HTL2 : Aside0 (((l.take (i + 1)).map pr).length = i + 1) := ⟨by rw [List.length_map, List.length_take]; omega⟩
      generalize l[i]'hlt = kv at x0 HG HKK HT
      obtain ⟨k0, v0⟩ := kv
      dsimp only at x0 HG HKK HT
      have HGK := Aside0.mk hgk
      have HIL := Aside0.mk hlt
      have H3 := HO.out
      clear HO hgk hk he2 he3 u0 hil hlm
      go_wp2_with (first
        | (at_lookup; refine Hp.at_look H3 1 rfl rfl (.tmp 16) (.tmp 17) 73 9 rfl lawS Try.underlying73 (⟨#[]⟩ : ByteArray) (zeroS _) rfl k0 (.string k0) rfl (keyS HKK.out) ?_; rw [HG.out]; dsimp only [Option.getD])
        | ((with_reducible refine gate_builtin (b := .append) (xs := #[.tmp 14, .tmp 20]) rfl ?_); at_builtin; refine Hp.at_append k50 H3 3 rfl (.tmp 14) (.tmp 20) 40 50 (.agg #[.string ⟨#[]⟩, .string ⟨#[]⟩]) 32 rfl Try.underlying40 info50 rfl (by decide) (by omega) (.slice A3 i c3) ((l.take i).map pr) rfl rfl (pr (k0, v0)) [.string k0, .string v0] ?hs ?hx (fun _ => k50_mkM _ _ _ _) (by rw [HTL.out]; have := HIL.out; have := HL.out; omega) ?_; (case hs => rfl); (case hx => rfl); intro v4 w4 H4'; rw [HT.out] at H4'; obtain ⟨A4, c4, hv4⟩ := H4'.fact 3 rfl (fun _ h => Kd.R_slice h); rw [HTL2.out] at hv4; subst hv4; have H4 : Hp w w4 [(0, Asn.old w U), (1, Asn.map kyS Try.prog 9 Value.string b l), (3, Asn.row Kd.string 9 (.slice (some ⟨q, 0, none⟩) l.length c2) (l.map Prod.fst)), (2, Asn.row k50 50 (.slice A4 (i + 1) c4) ((l.take (i + 1)).map pr))] := H4'; clear H3 H4' x0))
      go_roundg (l.length - (i + 1))
      case measure => have := HGK.out; omega
      case rel =>
        have hi1 : i < 1099511627776 := by have := HL.out; have := HIL.out; omega
        exact ⟨i + 1, A4, c4, nx hi1, by have := HIL.out; omega, by omega, rfl, ⟨H4⟩⟩
    · have hle : i = l.length := by omega
      have hltz : ¬ (i : Int) < (l.length : Int) := by omega
      subst hle
      have H3 := HO.out
      clear HO hgk hil hlt
      rw [List.take_length] at H3
      have hlen : (l.map pr).length = l.length := List.length_map _
      have hc3 := (H3.row_C 3 rfl).2.1
      have H5 := H3.keep [0, 1, 3]
      go_wp2
      refine bodyPost_ret (v := .slice A3 l.length c3) (by simp [results, Try.f43, go_sem]) rfl (EndS.mk (A3, c3) ⟨by rw [hlen], by rw [hlen]; exact hc3⟩ ?_)
      exact H5
end Go.Proofs.Ytpakolohhoegfaa.Mv

set_option linter.unusedVariables false
set_option linter.unusedSimpArgs false
namespace Go.Proofs.Ytpakolohhoegfaa.Mv
open Go.RowKit Go.Maps Go.WideMaps Go.Shelf Go.Proofs.Ytpakolohhoegfaa.B Go.Proofs.YtpakolohhoegfaaW.PrintWords Go.Proofs.YtpakolohhoegfaaW.PrintLast Go.Proofs.YtpakolohhoegfaaW.PrintMore Go.Proofs.YtpakolohhoegfaaW.Mine Go.Proofs.YtpakolohhoegfaaW.Hp

theorem al0 (w : World) (o : Obj) : Below w.heap.size w (w.alloc o) := (Below.refl _ w).alloc (Nat.le_refl _) _
theorem obj_new {w0 w : World} {L : List (Nat × Asn)} (H : Hp w0 w L) (m : Nat) (o : Obj) : Hp w0 (w.alloc o) (L ++ [(m, Asn.obj w.heap.size o)]) :=
  H.new m (al0 w o) ⟨World.alloc_heap_new w o, Nat.le_refl _⟩
theorem at_key {w : World} {A : Option Addr} {n : Nat} {xs : List ByteArray} (h : Kd.C Kd.string w A n xs) (i : Int) (h0 : 0 ≤ i) (h1 : i < n) : ∃ ad, A = some ad ∧ w.cell? (ad.add i.toNat) = some (.string (rdOf ByteArray.empty xs i)) := by
  obtain ⟨hn, _, hc⟩ := h
  obtain ⟨ad, e, hr⟩ := hc (by omega)
  have hlt : i.toNat < xs.length := by omega
  obtain ⟨cs, hl, hk, hcell⟩ := hr i.toNat _ (List.getElem?_eq_getElem hlt)
  have hk' : cs = [.string (xs[i.toNat]'hlt)] := hk
  subst hk'
  refine ⟨ad, e, ?_⟩
  have h2 := hcell 0 (.string (xs[i.toNat]'hlt)) rfl
  have h3 : rdOf ByteArray.empty xs i = xs[i.toNat]'hlt := by
    show xs.getD i.toNat _ = _
    rw [List.getD_eq_getElem?_getD, List.getElem?_eq_getElem hlt]
    rfl
  rw [h3]
  have e1 : i.toNat * Kd.string.sz + 0 = i.toNat := by show i.toNat * 1 + 0 = _; omega
  rwa [e1] at h2
theorem look_run {α : Type} {enc : α → Value} {b kt t e : Nat} {l : List (ByteArray × α)} {w : World} {n : Nat} (ho : w.ownsMap Try.prog kt rawR b n (kyS.D enc l)) (KL : Keyed Try.prog kt) (ht : Try.prog.underlying t = some (.map kt e)) {z : α} (hz : (zeroValue e).run Try.prog w = .ok (enc z) w) {k : ByteArray} {v : Value} (hkey : keyOf Try.prog kt v = some (kyS.lit k)) :
    (Instr.lookup t (.map (some b)) v false).run Try.prog w = .ok (enc ((kyS.get k l).getD z)) w := by
  obtain ⟨v', ps, hrun, hv⟩ := ho.lookup KL ht hz (zd := .held (enc z)) (zp := []) rfl hkey
  rw [kyS.D_at] at hv
  obtain rfl : v' = enc ((kyS.get k l).getD z) := by
    simp only [rawR, Option.some.injEq, Prod.mk.injEq, DataW.held.injEq] at hv
    exact hv.1
  exact hrun
def mp (m : List SP) : List (ByteArray × ByteArray) := m.foldl (fun acc p => kyS.ins p.f0 p.f1 acc) []
theorem mp_succ (m : List SP) (i : Nat) (h : i < m.length) : mp (m.take (i + 1)) = kyS.ins (m[i]'h).f0 (m[i]'h).f1 (mp (m.take i)) := by
  unfold mp
  rw [List.take_succ_eq_append_getElem h, List.foldl_append]
  rfl
theorem foldl_len {α : Type} (f : List (ByteArray × ByteArray) → α → List (ByteArray × ByteArray)) (hf : ∀ l x, (f l x).length ≤ l.length + 1) : ∀ (m : List α) (l : List (ByteArray × ByteArray)), (m.foldl f l).length ≤ l.length + m.length
  | [], l => Nat.le_refl _
  | x :: m, l => by
    have h1 := foldl_len f hf m (f l x)
    have h2 := hf l x
    simp only [List.foldl_cons, List.length_cons]
    omega
theorem mp_len (m : List SP) : (mp m).length ≤ m.length := by
  have := foldl_len (fun acc (p : SP) => kyS.ins p.f0 p.f1 acc) (fun l x => kyS.ins_len) m []
  simpa [mp] using this
def isIt (p q b : Nat) (A : Option Addr) (c : Nat) (l : List (ByteArray × ByteArray)) : Asn :=
  Asn.star (Asn.star (Asn.star (Asn.map kyS Try.prog 9 Value.string b l) (Asn.row Kd.string 9 (.slice A l.length c) (l.map Prod.fst))) (Asn.box q #[.map (some b)] 73)) (Asn.box p #[.slice A l.length c] 86)
set_option maxHeartbeats 4000000 in
set_option maxRecDepth 100000 in
theorem map_tr (A0 : Option Addr) (c0 : Nat) (m : List SP) (hk : ∀ p ∈ m, p.f0.size ≤ maxLen) (hm : m.length < 1099511627776) :
    Tr Try.prog 30 #[.slice A0 m.length c0] (Asn.rd k50 A0 m.length m) Asn.top (fun r => Asn.ex fun x : Nat × Nat × Nat × Option Addr × Nat => Asn.and (Asn.lift (r = .func (.func 55) #[] #[.pointer (some ⟨x.1, 0, none⟩), .pointer (some ⟨x.2.1, 0, none⟩)])) (isIt x.1 x.2.1 x.2.2.1 x.2.2.2.1 x.2.2.2.2 (mp m))) := by
  refine Tr.intro fun w U H => ?_
  have HK := Aside0.mk hk
  have HM := Aside0.mk hm
  clear hk
  have H0 : Hp w w [(0, Asn.old w U), (0, Asn.rd k50 A0 m.length m)] := H.keep [0, 1]
  clear H
  go_enter Try.func30, Try.ntmps30
  go_wp2_with (first
    | ((with_reducible refine gate_dst (N := 7) rfl ?_); refine Hp.at_makeMap kyS 9 Value.string H0 1 ?hg (N := 7) ?hd ?hr ?_; (case hd => rfl); (case hg => rfl); (case hr => first | (go_simp; done) | (go_simp; rfl)); intro b w1 H1; clear H0)
    | ((with_reducible refine gate_dst (N := 3) rfl ?_); refine Hp.at_box H1 2 ?hg (N := 3) ?hd (cs := #[.map none]) (t := 73) ?hr ?_; (case hd => rfl); (case hg => rfl); (case hr => first | (go_simp; done) | (go_simp; rfl)); intro q w2 H2; clear H1; have z0 := H2.cell 3 rfl 0 (v := .map none) rfl; have u0 := H2.unfrozen 3 rfl 0)
    | ((with_reducible refine gate_store (t := 73) (p := 3) rfl ?_); refine Hp.at_store H2 3 rfl rfl ?hg (T := 73) (z := 3) (x := ?vo) ?ho ?hn 0 (.map (some b)) ?hr (cs' := #[.map (some b)]) ?hc ?_; (case ho => rfl); (case hg => rfl); (case hn => rfl); (case hr => first | (go_simp; done) | (go_simp; rfl)); (case hc => rfl); clear z0 u0; intro w3 H3; clear H2))
  go_loopg [10] m.length (fun gk v10 wr => ∃ i : Nat, v10 = .int .i64 i ∧ i ≤ m.length ∧ m.length - i ≤ gk ∧ Aside0 (Hp w wr [(0, Asn.old w U), (0, Asn.rd k50 A0 m.length m), (1, Asn.map kyS Try.prog 9 Value.string b (mp (m.take i))), (2, Asn.box q #[.map (some b)] 73)]))
  case atStart => exact ⟨0, rfl, Nat.zero_le _, by omega, ⟨H3⟩⟩
  case round =>
    clear H3
    obtain ⟨i, rfl, hil, hgk, HO⟩ := hrel
    by_cases hlt : i < m.length
    · have hltz : (i : Int) < (m.length : Int) := by omega
      obtain ⟨ad, e1, x0, x1⟩ := at_T50 (HO.out.reads 1 rfl) (i : Int) (by omega) hltz
      cases e1
      rw [Int.toNat_natCast] at x0 x1
      have hx : rd_T50 m (i : Int) = m[i]'hlt := by
        show m.getD i _ = _
        rw [List.getD_eq_getElem?_getD, List.getElem?_eq_getElem hlt]
        rfl
      rw [hx] at x0 x1
      have HS := Aside0.mk (mp_succ m i hlt)
      have HKX := Aside0.mk (HK.out _ (List.getElem_mem hlt))
      generalize m[i]'hlt = x at x0 x1 HS HKX
      have HIL : Aside0 (i < m.length) := ⟨hlt⟩
      have HGK := Aside0.mk hgk
      have hll := mp_len (m.take i)
      rw [List.length_take] at hll
      have HLL : Aside0 ((mp (m.take i)).length < maxLen) := ⟨by simp only [maxLen]; omega⟩
      have y0 := HO.out.cell 3 rfl 0 (v := .map (some b)) rfl
      have H4 := HO.out.box_new 9 #[.string x.f0, .string x.f1] 50
      have y1 := H4.cell 3 rfl 0 (v := .map (some b)) rfl
      clear HO hgk hx hil hll
      go_wp2_with (first
        | (at_mapUpdate; refine Hp.at_put H4 2 rfl rfl rfl (.tmp 14) (.tmp 16) (.tmp 18) 73 rfl 9 lawS Try.underlying73 rfl x.f0 (.string x.f0) rfl (keyS HKX.out) x.f1 rfl HLL.out ?_; rw [← HS.out]; intro w5 H5'; have H5 := H5'.keep [0, 1, 2, 3]; clear H5' H4 y0 y1))
      go_roundg (m.length - (i + 1))
      case measure => have := HGK.out; omega
      case rel => exact ⟨i + 1, by first | rfl | exact nx (by have := HIL.out; have := HM.out; omega), by have := HIL.out; omega, by omega, ⟨H5⟩⟩
    · have hle : i = m.length := by omega
      have hltz : ¬ (i : Int) < (m.length : Int) := by omega
      subst hle
      have H4 := HO.out
      clear HO hgk hil hlt
      rw [List.take_length] at H4
      have hml := mp_len m
      have HML : Aside0 ((mp m).length < 1099511627776) := ⟨by omega⟩
      obtain ⟨l, hl⟩ : ∃ l, mp m = l := ⟨_, rfl⟩
      rw [hl] at H4 HML
      have HLE := Aside0.mk hl
      clear hl
      have y0 := H4.cell 3 rfl 0 (v := .map (some b)) rfl
      clear hml
      go_wp2_with (first
        | (go_at_call 54; refine (Iu.keysOf54 _ _).mono ?_; rintro e w5 ⟨rfl, rfl⟩)
        | (go_at_call 53; refine (Iu.sorted54 H4 2 rfl (by have := HML.out; omega) 3).mono ?_; rintro e w6 ⟨A6, c6, rfl, hc6, H6⟩; clear H4 y0)
        | ((with_reducible refine gate_dst (N := 6) rfl ?_); refine Hp.at_box H6 4 ?hg (N := 6) ?hd (cs := #[.slice none 0 0]) (t := 86) ?hr ?_; (case hd => rfl); (case hg => rfl); (case hr => first | (go_simp; done) | (go_simp; rfl)); intro p w7 H7; clear H6; have z0 := H7.cell 5 rfl 0 (v := .slice none 0 0) rfl; have u0 := H7.unfrozen 5 rfl 0))
      have H8 := H7.box_set 5 rfl rfl 0 (.slice A6 l.length c6)
      have H9 := ((H8.join 2 4 rfl rfl (by decide) rfl rfl).join 2 3 rfl rfl (by decide) rfl rfl).join 2 5 rfl rfl (by decide) rfl rfl
      refine bodyPost_ret (v := .func (.func 55) #[] #[.pointer (some ⟨p, 0, none⟩), .pointer (some ⟨q, 0, none⟩)]) (by simp [results, Try.f30, go_sem]) rfl ⟨_, rfl, ?_⟩
      rw [HLE.out]
      exact (H9.imp 2 (A' := Asn.ex fun x : Nat × Nat × Nat × Option Addr × Nat => Asn.and (Asn.lift (Value.func (.func 55) #[] #[.pointer (some ⟨p, 0, none⟩), .pointer (some ⟨q, 0, none⟩)] = Value.func (.func 55) #[] #[.pointer (some ⟨x.1, 0, none⟩), .pointer (some ⟨x.2.1, 0, none⟩)])) (isIt x.1 x.2.1 x.2.2.1 x.2.2.2.1 x.2.2.2.2 l)) rfl (fun S h => ⟨(p, q, b, A6, c6), rfl, h⟩)).keep [0, 2]
set_option maxRecDepth 100000 in
set_option maxHeartbeats 4000000 in
theorem map_in (z p q b m : Nat) (A : Option Addr) (c : Nat) (l : List (ByteArray × ByteArray)) (J Jx : Nat → World → Prop) (W : World)
    (hJ : ∀ i W, J i W → W.cell? ⟨p, 0, none⟩ = some (.slice A l.length c) ∧ W.cell? ⟨q, 0, none⟩ = some (.map (some b)) ∧ Kd.C Kd.string W A l.length (l.map Prod.fst) ∧ (kyS.Srt l ∧ W.ownsMap Try.prog 9 rawR b l.length (kyS.D Value.string l)) ∧ ∀ q ∈ l, q.1.size ≤ maxLen)
    (hY : ∀ (i : Nat) (W0 : World) (h : i < l.length), J i W0 → YieldAt Fence.wide m Try.prog z #[.string (l[i]'h).1, .string (l[i]'h).2] W0 fun e W' => ∃ b5 : Bool, e = .returned (.bool b5) ∧ ((b5 = true ∧ J (i + 1) W') ∨ (b5 = false ∧ Jx i W')))
    (h0 : J 0 W) :
    CallsIn Fence.wide (m + 1) Try.prog 55 #[.func (.yield z) #[] #[], .pointer (some ⟨p, 0, none⟩), .pointer (some ⟨q, 0, none⟩)] W fun e W' => (∃ v, e = .returned v) ∧ (J l.length W' ∨ ∃ i, i < l.length ∧ Jx i W') := by
  refine callsIn_of_wp Try.func55 rfl trivial ?_ rfl
  simp only [Try.ntmps55, List.size_toArray, List.length_cons, List.length_nil, Nat.reduceAdd, Nat.reduceSub, Array.replicate_succ, Array.replicate_zero, List.push_toArray, List.append_toArray, List.nil_append, List.cons_append]
  obtain ⟨hcell, _, hC, _, _⟩ := hJ 0 W h0
  have hmx : l.length ≤ 9223372036854775807 := hC.2.1
  have HJ := Aside0.mk hJ
  have HY := Aside0.mk hY
  clear hJ hY hC
  gi_wp2
  gi_loopw [8] (fun v wr => ∃ i : Nat, v = .int .i64 i ∧ i ≤ l.length ∧ J i wr) (fun v _ => l.length - (intOf v).toNat)
  case atStart => exact ⟨0, rfl, Nat.zero_le _, h0⟩
  case round =>
    clear h0 hcell
    obtain ⟨i, rfl, hil, hJi⟩ := hrel
    by_cases hlt : i < l.length
    · have hltz : (i : Int) < (l.length : Int) := by omega
      obtain ⟨y0, y1, hC, ⟨hs, ho⟩, hk⟩ := HJ.out i wr hJi
      have hlm : (l.map Prod.fst).length = l.length := List.length_map _
      obtain ⟨ad, e1, x0⟩ := at_key hC (i : Int) (by omega) (by omega)
      cases e1
      rw [Int.toNat_natCast] at x0
      have hkk : rdOf ByteArray.empty (l.map Prod.fst) (i : Int) = (l[i]'hlt).1 := by
        show (l.map Prod.fst).getD i ByteArray.empty = _
        rw [List.getD_eq_getElem?_getD, List.getElem?_map, List.getElem?_eq_getElem hlt]
        rfl
      rw [hkk] at x0
      have hlook := look_run ho lawS Try.underlying73 (zeroS _) (z := (⟨#[]⟩ : ByteArray)) (keyS (hk _ (List.getElem_mem hlt)))
      rw [srt_head hs i hlt] at hlook
      have HYi := HY.out i wr hlt hJi
      generalize l[i]'hlt = kv at x0 hlook HYi
      obtain ⟨k0, v0⟩ := kv
      dsimp only [Option.getD] at x0 hlook HYi
      obtain ⟨fn, tmps, assign, body, hy, hRd⟩ := HYi
      have HRd := Aside0.mk hRd
      clear hRd hJi hC hs ho hk hkk
      gi_wp2
      refine HRd.out.mono ?_
      rintro e W5 ⟨b5, rfl, hE⟩
      rcases hE with ⟨rfl, hJ5⟩ | ⟨rfl, hJ5⟩
      · gi_wp2
        go_roundw
        case rel => exact ⟨i + 1, by go_num, by omega, hJ5⟩
        case measure => simp [intOf]; omega
      · gi_wp2
        exact bodyPost_ret (results_none rfl _ _ _) rfl ⟨⟨_, rfl⟩, .inr ⟨i, hlt, hJ5⟩⟩
    · have hle : i = l.length := by omega
      subst hle
      have hltz : ¬ (l.length : Int) < (l.length : Int) := by omega
      gi_wp2
      exact bodyPost_end (results_none rfl _ _ _) rfl ⟨⟨_, rfl⟩, .inl hJi⟩
end Go.Proofs.Ytpakolohhoegfaa.Mv

set_option linter.unusedVariables false
set_option linter.unusedSimpArgs false
namespace Go.Proofs.Ytpakolohhoegfaa.Mv
open Go.RowKit Go.Maps Go.WideMaps Go.Shelf Go.Proofs.Ytpakolohhoegfaa.B Go.Proofs.YtpakolohhoegfaaW.PrintWords Go.Proofs.YtpakolohhoegfaaW.PrintLast Go.Proofs.YtpakolohhoegfaaW.PrintMore Go.Proofs.YtpakolohhoegfaaW.Mine Go.Proofs.YtpakolohhoegfaaW.Hp
attribute [local go_sem] Oper.semAt_some

theorem isIt_see {p q b : Nat} {A : Option Addr} {c : Nat} {l : List (ByteArray × ByteArray)} {W : World} {S : Nat → Prop} (h : (isIt p q b A c l).P W S) :
    W.cell? ⟨p, 0, none⟩ = some (.slice A l.length c) ∧ W.cell? ⟨q, 0, none⟩ = some (.map (some b)) ∧ Kd.C Kd.string W A l.length (l.map Prod.fst) ∧ (kyS.Srt l ∧ W.ownsMap Try.prog 9 rawR b l.length (kyS.D Value.string l)) := by
  obtain ⟨_, _, _, _, ⟨_, _, _, _, ⟨_, _, _, _, ⟨⟨hs, n, ho⟩, _⟩, hR⟩, hq⟩, hp⟩ := h
  have hlm : (l.map Prod.fst).length = l.length := List.length_map _
  have h3 := Kd.R_reads' (show Kd.string.R 9 W 0 _ (.slice A l.length c) (l.map Prod.fst) from hR)
  rw [hlm] at h3
  exact ⟨(blk_cell hp.1 0).trans rfl, (blk_cell hq.1 0).trans rfl, h3.2.2, hs, map_tight ho⟩
theorem isIt_keys {p q b : Nat} {A : Option Addr} {c : Nat} {l : List (ByteArray × ByteArray)} {W : World} {S : Nat → Prop} (h : (isIt p q b A c l).P W S) : ∀ q ∈ l, q.1.size ≤ maxLen := by
  obtain ⟨_, _, _, _, ⟨_, _, _, _, ⟨S1, _, _, _, hm, _⟩, _⟩, _⟩ := h
  have hH : Hp W W [(0, Asn.map kyS Try.prog 9 Value.string b l)] := ⟨rfl, rfl, rfl, Nat.le_refl _, fun _ => 0, (Asn.map kyS Try.prog 9 Value.string b l).mono hm (fun _ _ _ => rfl), trivial⟩
  exact map_key hH 0 rfl
theorem ins_last {l : List (ByteArray × ByteArray)} {k x : ByteArray} (h : ∀ q ∈ l, kyS.lt q.1 k = true) : kyS.ins k x l = l ++ [(k, x)] := by
  induction l with
  | nil => rfl
  | cons p r ih =>
    unfold Ky.ins
    rw [if_pos (h p (List.mem_cons_self ..)), ih (fun q hq => h q (List.mem_cons_of_mem _ hq))]
    rfl
theorem ins_take {l : List (ByteArray × ByteArray)} (h : kyS.Srt l) (i : Nat) (hi : i < l.length) : kyS.ins (l[i]'hi).1 (l[i]'hi).2 (l.take i) = l.take (i + 1) := by
  rw [List.take_succ_eq_append_getElem hi, ins_last]
  intro q hq
  obtain ⟨j, hj, rfl⟩ := List.mem_iff_getElem.1 hq
  rw [List.getElem_take]
  rw [List.length_take] at hj
  exact List.pairwise_iff_getElem.1 h j i (by omega) hi (by omega)
set_option maxHeartbeats 8000000 in
set_option maxRecDepth 100000 in
theorem insert_tr (p q b bx : Nat) (A : Option Addr) (c : Nat) (l : List (ByteArray × ByteArray)) (hl : l.length < 1099511627776) :
    Tr Try.prog 61 #[.map (some bx), .func (.func 55) #[] #[.pointer (some ⟨p, 0, none⟩), .pointer (some ⟨q, 0, none⟩)]] (isIt p q b A c l) (Asn.map kyS Try.prog 9 Value.string bx []) (fun r => Asn.and (Asn.lift (r = .tuple #[])) (Asn.map kyS Try.prog 9 Value.string bx l)) := by
  refine Tr.intro fun w U H => ?_
  have HL := Aside0.mk hl
  have HS : Aside0 (kyS.Srt l) := ⟨H.fact 1 rfl (fun S h => (isIt_see h).2.2.2.1)⟩
  have HK : Aside0 (∀ q ∈ l, q.1.size ≤ maxLen) := ⟨H.fact 1 rfl (fun S h => isIt_keys h)⟩
  refine (callsIn_wide (n := 3)).1 (callsIn_of_wp_marks Try.func61 rfl trivial ?_ rfl)
  rw [wpIn_wide]
  simp only [Try.ntmps61, List.size_toArray, List.length_cons, List.length_nil, Nat.reduceAdd, Nat.reduceSub, Array.replicate_succ, Array.replicate_zero, List.push_toArray, List.append_toArray, List.nil_append, List.cons_append]
  go_wp2_with (first
    | ((with_reducible refine gate_dst (N := 2) rfl ?_); refine Hp.at_box H 3 ?hg (N := 2) ?hd (cs := #[.map (some bx)]) (t := 73) ?hr ?_; (case hd => rfl); (case hg => rfl); (case hr => first | (go_simp; done) | (go_simp; rfl)); intro g2 w1 H1; clear H))
  refine wpIn_wide.1 (rf_walk (n := 3) (by omega) (gf := 55) (lb := #[.pointer (some ⟨p, 0, none⟩), .pointer (some ⟨q, 0, none⟩)]) rfl (enters_of Try.func55 (by kernel_rfl) rfl) ?_)
  intro rec hYield
  have H2 := obj_new (obj_new H1 7 (.deferred (some []))) 8 (.loop (rec .ready none))
  rw [World.size_alloc] at H2
  clear H1
  refine (map_in (w1.heap.size + 1) p q b 1 A c l (fun i W => Hp w W [(0, Asn.old w U), (0, isIt p q b A c l), (1, Asn.map kyS Try.prog 9 Value.string bx (l.take i)), (3, Asn.box g2 #[.map (some bx)] 73), (7, Asn.obj w1.heap.size (.deferred (some []))), (8, Asn.obj (w1.heap.size + 1) (.loop (rec .ready none)))])
    (fun _ _ => False) _ (fun i W HJ => HJ.fact 1 rfl (fun S h => let h2 := isIt_see h; ⟨h2.1, h2.2.1, h2.2.2.1, h2.2.2.2, isIt_keys h⟩)) ?_ H2).mono ?_
  · intro i W0 hi HJ
    refine hYield #[.string (l[i]'hi).1, .string (l[i]'hi).2] W0 _ _ rfl (HJ.obj_at 5 rfl) (fun K hK => by gi_wp2; exact hK) ?_
    have H3 := HJ.put_obj 5 rfl rfl (.loop { rec .ready none with state := .busy })
    have HT := Aside0.mk (ins_take HS.out i hi)
    have HKI := Aside0.mk (HK.out _ (List.getElem_mem hi))
    generalize l[i]'hi = kv at HT HKI ⊢
    obtain ⟨k0, v0⟩ := kv
    dsimp only at HT HKI ⊢
    have HLL : Aside0 ((l.take i).length < maxLen) := ⟨by rw [List.length_take]; have := HL.out; simp only [maxLen]; omega⟩
    generalize W0.putObj (w1.heap.size + 1) (.loop { rec .ready none with state := .busy }) = W2 at H3 ⊢
    have y0 := H3.cell 3 rfl 0 (v := .map (some bx)) rfl
    clear hYield H2 HJ hi
    refine wpIn_block ?_
    refine region_round (by kernel_rfl) ?_
    go_wp2_with (first
      | (at_mapUpdate; refine Hp.at_put H3 2 rfl rfl rfl (.tmp 9) (.tmp 10) (.tmp 11) 73 rfl 9 lawS Try.underlying73 rfl k0 (.string k0) rfl (keyS HKI.out) v0 rfl HLL.out ?_; rw [HT.out]; intro w5 H5; clear H3 y0))
    exact ⟨H5.obj_at 5 rfl, rfl, (H5.put_obj 5 rfl rfl (.loop (rec .ready none))).keep [0, 1, 2, 3, 4, 5]⟩
  · rintro e W2 ⟨hv, (H9 | ⟨i0, _, hf⟩)⟩
    · refine ⟨hv, .inl ⟨H9.obj_at 5 rfl, fun o' => ?_⟩⟩
      have H10 := (H9.put_obj 5 rfl rfl o').keep [0, 2, 4]
      rw [List.take_length] at H10
      have hd1 := H10.obj_at 2 rfl
      have H11 := H10.put_obj 2 rfl rfl (.deferred none)
      clear H10 hYield H2 H9
      go_wp2
      refine ⟨by simp, .inl ⟨_, _, rfl, run_takeDeferred hd1, ?_⟩⟩
      refine ⟨.tuple #[], by simp [results, Try.f61, go_sem], _, rfl, ?_⟩
      exact (H11.imp 1 (A' := Asn.and (Asn.lift (Value.tuple #[] = Value.tuple #[])) (Asn.map kyS Try.prog 9 Value.string bx l)) rfl (fun S h => ⟨rfl, h⟩)).keep [0, 1]
    · exact hf.elim
set_option maxHeartbeats 4000000 in
set_option maxRecDepth 100000 in
theorem collect_tr (p q b : Nat) (A : Option Addr) (c : Nat) (l : List (ByteArray × ByteArray)) (hl : l.length < 1099511627776) :
    Tr Try.prog 41 #[.func (.func 55) #[] #[.pointer (some ⟨p, 0, none⟩), .pointer (some ⟨q, 0, none⟩)]] (isIt p q b A c l) Asn.top (fun r => Asn.ex fun bx : Nat => Asn.and (Asn.lift (r = .map (some bx))) (Asn.map kyS Try.prog 9 Value.string bx l)) := by
  refine Tr.intro fun w U H => ?_
  have HT := Aside0.mk (fun bx => insert_tr p q b bx A c l hl)
  have H0 : Hp w w [(0, Asn.old w U), (0, isIt p q b A c l)] := H.keep [0, 1]
  clear H
  go_enter Try.func41, Try.ntmps41
  go_wp2_with (first
    | ((with_reducible refine gate_dst (N := 4) rfl ?_); refine Hp.at_makeMap kyS 9 Value.string H0 1 ?hg (N := 4) ?hd ?hr ?_; (case hd => rfl); (case hg => rfl); (case hr => first | (go_simp; done) | (go_simp; rfl)); intro bx w1 H1; clear H0)
    | (go_at_call 61; refine (H1.call (HT.out bx) 2 rfl rfl (fun lab h => (isIt p q b A c l).mono (h.get (p := 1) rfl) (fun k _ hk => by have h2 : lab k = 0 := hk; omega))).mono ?_; rintro e w2 ⟨r, rfl, H2⟩; obtain rfl := H2.fact 2 rfl (fun S h => h.1); clear H1))
  refine bodyPost_ret (v := .map (some bx)) (by simp [results, Try.f41, go_sem]) rfl ⟨_, rfl, ?_⟩
  exact (H2.imp 2 (A' := Asn.ex fun b' : Nat => Asn.and (Asn.lift (Value.map (some bx) = .map (some b'))) (Asn.map kyS Try.prog 9 Value.string b' l)) rfl (fun S h => ⟨bx, rfl, h.2⟩)).keep [0, 2]
def ov (m : List SP) (ws : List SW) : List (ByteArray × ByteArray) := ws.foldl wr (mp m)
theorem wr_len (l : List (ByteArray × ByteArray)) (y : SW) : (wr l y).length ≤ l.length + 1 := by
  unfold wr
  split
  · exact Nat.le_succ_of_le kyS.del_len
  · exact kyS.ins_len
theorem ov_len (m : List SP) (ws : List SW) : (ov m ws).length ≤ m.length + ws.length := by
  have h1 := foldl_len wr wr_len ws (mp m)
  have h2 := mp_len m
  unfold ov
  omega
theorem ov_succ (m : List SP) (ws : List SW) (i : Nat) (h : i < ws.length) : ov m (ws.take (i + 1)) = wr (ov m (ws.take i)) (ws[i]'h) := by
  unfold ov
  rw [List.take_succ_eq_append_getElem h, List.foldl_append]
  rfl
set_option maxHeartbeats 8000000 in
set_option maxRecDepth 100000 in
theorem overlay_tr (A0 : Option Addr) (c0 : Nat) (m : List SP) (A1 : Option Addr) (c1 : Nat) (ws : List SW) (hk : ∀ p ∈ m, p.f0.size ≤ maxLen) (hw : ∀ y ∈ ws, y.f0.size ≤ maxLen) (hm : m.length < 549755813888) (hn : ws.length < 549755813888) :
    Tr Try.prog 25 #[.slice A0 m.length c0, .slice A1 ws.length c1] (Asn.and (Asn.rd k50 A0 m.length m) (Asn.rd k58 A1 ws.length ws)) Asn.top (fun r => Asn.ex fun x : Option Addr × Nat => Asn.and (Asn.lift (isRow ((ov m ws).map pr) r x)) (Asn.row k50 50 (.slice x.1 ((ov m ws).map pr).length x.2) ((ov m ws).map pr))) := by
  refine Tr.intro fun w U H => ?_
  have T1 := Aside0.mk (map_tr A0 c0 m hk (by omega))
  have T2 := Aside0.mk (fun p q b A c => collect_tr p q b A c (mp m) (by have := mp_len m; omega))
  have T3 := Aside0.mk (fun b => pairs_tr b (ov m ws) (by have := ov_len m ws; omega))
  have HW := Aside0.mk hw
  have HM := Aside0.mk hm
  have HN := Aside0.mk hn
  have H0 : Hp w w [(0, Asn.old w U), (0, Asn.rd k50 A0 m.length m), (0, Asn.rd k58 A1 ws.length ws)] :=
    ((H.sub (L' := [(0, Asn.old w U), (0, Asn.and (Asn.rd k50 A0 m.length m) (Asn.rd k58 A1 ws.length ws)), (0, Asn.and (Asn.rd k50 A0 m.length m) (Asn.rd k58 A1 ws.length ws))]) (by intro x hx; simp only [List.mem_cons, List.not_mem_nil, or_false] at hx ⊢; rcases hx with h | h | h <;> simp [h])).imp 1 rfl (fun S h => h.1)).imp 2 rfl (fun S h => h.2)
  clear H hk hw
  go_enter Try.func25, Try.ntmps25
  go_wp2_with (first
    | (go_at_call 30; refine (H0.make 5 T1.out (fun lab h => (Asn.rd k50 A0 _ _).mono (h.get (p := 1) rfl) (fun _ _ _ => trivial))).mono ?_; rintro e w1 ⟨r, rfl, H1'⟩; obtain ⟨⟨p, q, b, A, c⟩, H1''⟩ := H1'.open_ 3 rfl; obtain rfl := H1''.fact 3 rfl (fun S h => h.1); have H1 : Hp w w1 [(0, Asn.old w U), (0, Asn.rd k50 A0 m.length m), (0, Asn.rd k58 A1 ws.length ws), (5, isIt p q b A c (mp m))] := H1''.imp 3 rfl (fun S h => h.2); clear H0 H1' H1'')
    | (go_at_call 41; refine (H1.make 6 (T2.out p q b A c) (fun lab h => (isIt p q b A c (mp m)).mono (h.get (p := 3) rfl) (fun _ _ _ => trivial))).mono ?_; rintro e w2 ⟨r, rfl, H2'⟩; obtain ⟨bx, H2''⟩ := H2'.open_ 4 rfl; obtain rfl := H2''.fact 4 rfl (fun S h => h.1); have H2 : Hp w w2 [(0, Asn.old w U), (0, Asn.rd k58 A1 ws.length ws), (6, Asn.map kyS Try.prog 9 Value.string bx (mp m))] := (H2''.imp 4 (A' := Asn.map kyS Try.prog 9 Value.string bx (mp m)) rfl (fun S h => h.2)).keep [0, 2, 4]; clear H1 H2' H2''))
  go_loopg [13] ws.length (fun gk v13 wr' => ∃ i : Nat, v13 = .int .i64 i ∧ i ≤ ws.length ∧ ws.length - i ≤ gk ∧ Aside0 (Hp w wr' [(0, Asn.old w U), (0, Asn.rd k58 A1 ws.length ws), (6, Asn.map kyS Try.prog 9 Value.string bx (ov m (ws.take i)))]))
  case atStart => exact ⟨0, rfl, Nat.zero_le _, by omega, ⟨H2⟩⟩
  case round =>
    clear H2
    obtain ⟨i, rfl, hil, hgk, HO⟩ := hrel
    by_cases hlt : i < ws.length
    · have hltz : (i : Int) < (ws.length : Int) := by omega
      obtain ⟨ad, e1, x0, x1, x2⟩ := at_T58 (HO.out.reads 1 rfl) (i : Int) (by omega) hltz
      cases e1
      rw [Int.toNat_natCast] at x0 x1 x2
      have hx : rd_T58 ws (i : Int) = ws[i]'hlt := by
        show ws.getD i _ = _
        rw [List.getD_eq_getElem?_getD, List.getElem?_eq_getElem hlt]
        rfl
      rw [hx] at x0 x1 x2
      have HS := Aside0.mk (ov_succ m ws i hlt)
      have HKX := HW.out _ (List.getElem_mem hlt)
      have hll := ov_len m (ws.take i)
      rw [List.length_take] at hll
      have TW := Aside0.mk (write_tr bx (ov m (ws.take i)) (ws[i]'hlt) HKX (by simp only [maxLen]; omega))
      generalize ws[i]'hlt = x at x0 x1 x2 HS TW
      have HIL : Aside0 (i < ws.length) := ⟨hlt⟩
      have HGK := Aside0.mk hgk
      have H4 := HO.out.box_new 9 #[.string x.f0, .string x.f1, .bool x.f2] 58
      clear HO hgk hx hil hll HKX
      go_wp2_with (first
        | (go_at_call 42; refine (H4.call TW.out 2 rfl rfl (fun _ _ => trivial)).mono ?_; rintro e w5 ⟨r, rfl, H5'⟩; obtain rfl := H5'.fact 2 rfl (fun S h => h.1); rw [← HS.out] at H5'; have H5 : Hp w w5 [(0, Asn.old w U), (0, Asn.rd k58 _ ws.length ws), (6, Asn.map kyS Try.prog 9 Value.string bx (ov m (ws.take (i + 1))))] := (H5'.imp 2 (A' := Asn.map kyS Try.prog 9 Value.string bx (ov m (ws.take (i + 1)))) rfl (fun S h => h.2)).keep [0, 1, 2]; clear H5' H4))
      go_roundg (ws.length - (i + 1))
      case measure => have := HGK.out; omega
      case rel => exact ⟨i + 1, by first | rfl | exact nx (by have := HIL.out; have := HN.out; omega), by have := HIL.out; omega, by omega, ⟨H5⟩⟩
    · have hle : i = ws.length := by omega
      have hltz : ¬ (i : Int) < (ws.length : Int) := by omega
      subst hle
      have H4 := HO.out
      clear HO hgk hil hlt
      rw [List.take_length] at H4
      go_wp2_with (first
        | (go_at_call 43; refine (H4.call_star (T3.out bx) 2 rfl rfl (fun _ _ => trivial) 1 (by decide)).mono ?_; rintro e w5 ⟨r, ⟨A5, c5⟩, rfl, hφ, H5⟩; obtain ⟨rfl, hc5⟩ := hφ; clear H4))
      have hlm : ((ov m ws).map pr).length = (ov m ws).length := List.length_map _
      rw [← hlm]
      refine bodyPost_ret (v := .slice A5 ((ov m ws).map pr).length c5) (by simp [results, Try.f25, go_sem]) rfl ⟨_, rfl, ?_⟩
      exact (H5.imp 3 (A' := Asn.ex fun x : Option Addr × Nat => Asn.and (Asn.lift (isRow ((ov m ws).map pr) (.slice A5 ((ov m ws).map pr).length c5) x)) (Asn.row k50 50 (.slice x.1 ((ov m ws).map pr).length x.2) ((ov m ws).map pr))) rfl (fun S h => ⟨(A5, c5), ⟨rfl, hc5⟩, h⟩)).keep [0, 3]
end Go.Proofs.Ytpakolohhoegfaa.Mv

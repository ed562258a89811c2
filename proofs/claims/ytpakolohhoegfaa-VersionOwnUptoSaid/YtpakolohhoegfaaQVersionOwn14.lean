/-
Of the row VersionOwn: printed walks and plain laws, merged (wip/claim2.py).
-/
import Derived.Test.YtpakolohhoegfaaQVersionOwn3
import Derived.Test.YtpakolohhoegfaaQVersionOwn11
import Derived.Test.YtpakolohhoegfaaQVersionOwn13
set_option linter.unusedVariables false
set_option linter.unusedSimpArgs false
namespace Go.Proofs.Ytpakolohhoegfaa.Mv
open Go.RowKit Go.Maps Go.WideMaps Go.Shelf Go.Proofs.Ytpakolohhoegfaa.B Go.Proofs.YtpakolohhoegfaaW.PrintWords Go.Proofs.YtpakolohhoegfaaW.PrintLast Go.Proofs.YtpakolohhoegfaaW.PrintMore Go.Proofs.YtpakolohhoegfaaW.Mine Go.Proofs.YtpakolohhoegfaaW.Hp

def inR (r : S44) (k : ByteArray) : Bool := (keys_In.f r.f0 r.f1 k).getD false
theorem inR_eq (r : S44) (k : ByteArray) : keys_In.f r.f0 r.f1 k = some (inR r k) := by
  unfold inR keys_In.f
  split
  · rfl
  · split <;> rfl
set_option maxHeartbeats 2000000 in
set_option maxRecDepth 100000 in
theorem slice1_calls (g : Nat) (r : S44) (x : SP) (W : World) (h0 : W.cell? ⟨g, 0, none⟩ = some (.string r.f0)) (h1 : W.cell? ⟨g, 1, none⟩ = some (.string r.f1)) :
    Calls Try.prog 45 #[.agg #[.string x.f0, .string x.f1], .pointer (some ⟨g, 0, none⟩)] W fun e w' => e = .returned (.bool (!inR r x.f0)) ∧ Below W.heap.size W w' := by
  have hgW : g < W.heap.size := World.block_lt_of_cell? W ⟨g, 0, none⟩ h0
  have hne : g ≠ W.heap.size := by omega
  have HI := Aside0.mk (inR_eq r x.f0)
  generalize inR r x.f0 = v at HI ⊢
  go_enter Try.func45, Try.ntmps45
  go_wp2_with (go_at_call 46; refine (keys_In.calls r.f0 r.f1 x.f0 v _ HI.out).mono ?_; rintro e w' ⟨rfl, hb⟩)
  go_ret
  exact ⟨rfl, below_then ((Below.refl _ W).alloc (Nat.le_refl _) _) (by simp) hb⟩
theorem slice1_kept {w1 w2 W : World} {g : Nat} {r : S44} (hg1 : w1.heap[g]? = some (.cells #[.string r.f0, .string r.f1] 44 (0, 0))) (hb2 : Below w1.heap.size w1 w2) (hK : Kept w2 W (fun k => w1.heap.size ≤ k)) (x : SP) :
    Calls Try.prog 45 #[.agg #[.string x.f0, .string x.f1], .pointer (some ⟨g, 0, none⟩)] W fun e w' => e = .returned (.bool (!inR r x.f0)) ∧ Below W.heap.size W w' := by
  have hlt := blk_lt hg1
  have e : W.heap[g]? = some (.cells #[.string r.f0, .string r.f1] 44 (0, 0)) := (hK.2 g (by have := hb2.size; omega) (by omega)).trans ((hb2.block g hlt).trans hg1)
  exact slice1_calls g r x W ((blk_cell e 0).trans rfl) ((blk_cell e 1).trans rfl)
theorem row_eq {w : World} {base : Nat} {ok : Nat → Prop} {v : Value} {l l' : List SP} (h : l = l') (hR : Kd.R k50 50 w base ok v l) : Kd.R k50 50 w base ok v l' := h ▸ hR
def sl (r : S44) (m : List SP) : List SP := m.filter fun x => inR r x.f0
set_option maxHeartbeats 4000000 in
set_option maxRecDepth 100000 in
theorem slice_tr (A0 : Option Addr) (c0 : Nat) (m : List SP) (r : S44) (hc : m.length ≤ c0) (hm : m.length < 4398046511104) :
    Tr Try.prog 26 #[.slice A0 m.length c0, .agg #[.string r.f0, .string r.f1]] (Asn.rd k50 A0 m.length m) Asn.top (fun e => Asn.ex fun x : Option Addr × Nat => Asn.and (Asn.lift (isRow (sl r m) e x)) (Asn.row k50 50 (.slice x.1 (sl r m).length x.2) (sl r m))) := by
  refine Tr.intro fun w U H => ?_
  have H0 : Hp w w [(0, Asn.old w U), (0, Asn.rd k50 A0 m.length m)] := H.keep [0, 1]
  clear H
  have HC := Aside0.mk hc
  have HM := Aside0.mk hm
  have hp : (m.filter fun x => !(!inR r x.f0)) = sl r m := by
    unfold sl
    congr 1
    funext x
    simp
  have HP := Aside0.mk hp
  clear hc hm hp
  go_enter Try.func26, Try.ntmps26
  go_wp2_with (first
    | ((with_reducible refine gate_dst (N := 3) rfl ?_); refine Hp.at_box H0 2 ?hg (N := 3) ?hd (cs := #[.string r.f0, .string r.f1]) (t := 44) ?hr ?_; (case hd => rfl); (case hg => rfl); (case hr => first | (go_simp; done) | (go_simp; rfl)); intro g w1 H1; clear H0)
    | (go_at_call 24; refine (api_Pair_24.calls A0 c0 m m _ (H1.reads 1 rfl) HC.out (if_pos HM.out)).mono ?_; rintro e w2 ⟨v2, rfl, hR2, hb2⟩; have hg1 : w1.heap[g]? = some (.cells #[.string r.f0, .string r.f1] 44 (0, 0)) := H1.fact 2 rfl (fun S h => h.1); have HG1 := Aside0.mk hg1; have HB2 := Aside0.mk hb2; clear hg1)
    | (go_at_call 44; refine (api_Pair_44.any_45 (lb := #[.pointer (some ⟨g, 0, none⟩)]) (p := fun x => !inR r x.f0) (fun k => w1.heap.size ≤ k) v2 m w1 w2 hb2 (Kd.R_mono (Kd.R_bound hR2) (fun k hk => hk.2.1)) (by have := HM.out; omega) (fun W x hx hK => slice1_kept HG1.out HB2.out hK x)).mono ?_; rintro e w3 ⟨v3, rfl, hR3, hb3, _⟩; have hR4 := row_eq HP.out hR3; have H3 := H1.new 1 (A := Asn.row k50 50 v3 (sl r m)) hb3 (Kd.R_lower (Kd.R_mono hR4 (fun k hk => hk.elim id (fun h => Nat.le_trans HB2.out.size h))) (Nat.zero_le _)); obtain ⟨A3, c3, rfl⟩ := Kd.R_slice hR4; have hc3 := (Kd.R_reads' hR4).2.1; clear hR2 hb2 hR3 hR4 hb3 H1))
  refine bodyPost_ret (v := .slice A3 (sl r m).length c3) (by simp [results, Try.f26, go_sem]) rfl ⟨_, rfl, ?_⟩
  exact (H3.imp 3 (A' := Asn.ex fun x : Option Addr × Nat => Asn.and (Asn.lift (isRow (sl r m) (.slice A3 (sl r m).length c3) x)) (Asn.row k50 50 (.slice x.1 (sl r m).length x.2) (sl r m))) rfl (fun S h => ⟨(A3, c3), ⟨rfl, hc3⟩, h⟩)).keep [0, 3]
end Go.Proofs.Ytpakolohhoegfaa.Mv

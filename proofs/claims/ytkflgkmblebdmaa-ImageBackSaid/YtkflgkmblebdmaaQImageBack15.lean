/-
Of the row ImageBack: printed walks and plain laws, merged (wip/claim2.py).
-/
import Derived.Test.YtkflgkmblebdmaaQImageBack14
import Derived.Laws.CopyRow
import Derived.Laws.IdiomCopy
set_option linter.unusedVariables false
set_option linter.unusedSimpArgs false
namespace Go.Proofs.YtkflgkmblebdmaaW.Hp
open Go.RowKit Go.Proofs.YtkflgkmblebdmaaW.PrintWords Go.Proofs.YtkflgkmblebdmaaW.PrintMore
open Asn
theorem run_copy_sz {P : Program} (w : World) (dT sT ty elem : TypeId) (sz g dLen dCap : Nat) (a : Addr) (sLen sCap : Nat) (cur : Array Value) (t : TypeId) (cs : List Value)
    (hu : P.underlying dT = some (.slice elem)) (hs : (P.info? elem).map (·.size) = some sz)
    (hg : w.heap[g]? = some (.cells cur t (0, 0))) (hn : cs.length = Nat.min sLen dLen * sz)
    (hsrc : ∀ j v, cs[j]? = some v → w.cell? (a.add j) = some v) (hfit : cs.length ≤ cur.size) (h1 : ∀ v ∈ cs, v.oneCell' = true) :
    (Builtin.copy_ #[dT, sT] ty #[.slice (some ⟨g, 0, none⟩) dLen dCap, .slice (some a) sLen sCap]).run P w =
      .ok (goInt (Nat.min sLen dLen)) (w.setRow g (cs ++ cur.toList.drop cs.length).toArray) := by
  have hl := run_loadCells_list (P := P) w a cs hsrc
  have hst := run_storeCells_at P g 0 t cs 0 cur w hg (by simpa using hfit) h1
  cases hq : P.info? elem with
  | none => simp [hq] at hs
  | some i =>
    have hi : i.size = sz := by simpa [hq] using hs
    simp [Builtin.copy_, run_underlying hu, Builtin.lenOf, Builtin.firstCells, sizeOf, typeInfo, hq, hi, ← hn, hl, hst]
theorem run_copy_no {P : Program} (w : World) (dT sT ty elem : TypeId) (sz : Nat) (d a : Option Addr) (dLen dCap sLen sCap : Nat) (hu : P.underlying dT = some (.slice elem)) (hs : (P.info? elem).map (·.size) = some sz) (hn : Nat.min sLen dLen = 0) :
    (Builtin.copy_ #[dT, sT] ty #[.slice d dLen dCap, .slice a sLen sCap]).run P w = .ok (goInt 0) w := by
  cases hq : P.info? elem with
  | none => simp [hq] at hs
  | some i =>
    have hl : ∀ (x : Addr), (loadCells x 0).run P w = .ok #[] w := fun x => by simpa using run_loadCells_list (P := P) w x [] (by simp)
    cases d <;> cases a <;> simp [Builtin.copy_, run_underlying hu, Builtin.lenOf, Builtin.firstCells, sizeOf, typeInfo, hq, hn, storeCells, hl]
section
variable {w0 W : World} {L : List (Nat × Asn)} {i p : Nat} {P : Program} {ops : Array Oper} {rest : List Oper} {o : Oper} {a : Act} {Q : Exit → Act → World → Prop} {α : Type}
theorem Hp.at_make (d : Kd α) (H : Hp w0 W L) (m e : Nat) (hgd : o.guard = none) {N : Tmp} (hd : o.dst = some N) (t : TypeId) (x y : Operand) (ho : o.op = .makeSlice t x y) (n : Nat) (hx : a.eval x = .int .i64 n) (hy : a.eval y = .int .i64 n)
    (ht : P.underlying t = some (.slice e)) (z : Value) (bytes : Nat) (hinfo : (P.info? e).map (fun i => (i.zero, i.size, i.bytes)) = some (some z, d.sz, bytes)) (hz : z.cells.size = d.sz) (hs0 : 0 < d.sz) (hb0 : 0 < bytes)
    (z0 : α) (hzero : d.M W 0 (fun _ => False) z0 z.cells.toList) (hl : n * bytes ≤ 281474976710656)
    (h : ∀ A c w1, n ≤ c → Hp w0 w1 (L ++ [(m, row d e (.slice A n c) (List.replicate n z0))]) → wpList P ops Q rest (a.put o.dst (.slice A n c)) w1) : wpList P ops Q (o :: rest) a W := by
  refine Kd.R_make d (w0 := W) 0 e hgd hd t x y ho (n : Int) hx hy ht z bytes hinfo hz hs0 hb0 z0 (ok := fun k => W.heap.size ≤ k) hzero (fun _ hk => hk.elim) (Nat.le_refl _) (by omega) (by simpa using hl) (Below.refl _ _) (Nat.zero_le _) ?_
  intro v1 w1 hR hb hg _
  rw [Int.toNat_natCast] at hR
  obtain ⟨A, c, hv⟩ := Kd.R_slice hR
  subst hv
  have hlen := (Kd.R_reads' hR).2.1
  rw [List.length_replicate] at hlen hR ⊢
  exact h A c w1 hlen (H.new m ⟨hg.os, hg.tape, hg.output, hg.size, fun k hk => hg.block k hk (by simp)⟩ hR)
theorem Hp.at_copy (d : Kd α) (H : Hp w0 W L) (p : Nat) (hgd : o.guard = none) (s x : Operand) (t t' e : TypeId)
    (ho : o.op = .call { callee := .builtin .copy, args := #[s, x], argTypes := #[t, t'] }) (ht : P.underlying t = some (.slice e)) (hinfo : (P.info? e).map (·.size) = some d.sz)
    (v : Value) (xs ys : List α) (A : Option Addr) (n c : Nat) (hi : L[p]? = some (i, row d e v xs)) (hn : lone i L p = true) (hs : a.eval s = v) (hx : a.eval x = .slice A n c) (HR : d.C W A n ys) (hKM : ∀ x cs, d.K W x cs → ∀ w' ok, d.M w' 0 ok x cs) (hlen : xs.length = n)
    (h : ∀ w1, Hp w0 w1 (L.set p (i, row d e v ys)) → wpList P ops Q rest (a.put o.dst (.int .i64 n)) w1) : wpList P ops Q (o :: rest) a W := by
  obtain ⟨lab, hall⟩ := H.all
  have HO := hall.get hi
  have hyn : ys.length = n := HR.1
  obtain ⟨h0, inner, hown, hr⟩ := HO
  have fin : ∀ w1, (Builtin.copy_ #[t, t'] o.type #[v, .slice A n c]).run P W = .ok (goInt n) w1 → Hp w0 w1 (L.set p (i, row d e v ys)) → wpList P ops Q (o :: rest) a W := by
    intro w1 hrun H1
    refine wpList_plain hgd fun K hK => ?_
    unfold Oper.wp execOp
    simp only [ho, resolve, invoke, builtin, Sem.run_bind, Sem.run_pure, Result.andThen_ok, List.map_toArray, List.map_cons, List.map_nil, hs, hx, hrun]
    exact hK _ _ (h w1 H1)
  obtain ⟨h1, h2⟩ := hown
  rcases Nat.eq_zero_or_pos n with hz | hp
  · subst hz
    obtain rfl : ys = [] := List.eq_nil_of_length_eq_zero hyn
    obtain rfl : xs = [] := List.eq_nil_of_length_eq_zero hlen
    rcases h2 with ⟨rfl, _⟩ | ⟨g, cap, cur, rfl, _⟩
    · exact fin W (run_copy_no W t t' o.type e d.sz none A 0 0 0 c ht hinfo (by simp)) (H.imp p hi (fun S h => h))
    · exact fin W (run_copy_no W t t' o.type e d.sz _ A 0 cap 0 c ht hinfo (by simp)) (H.imp p hi (fun S h => h))
  · obtain ⟨ad, rfl, _⟩ := HR.2.2 hp
    obtain ⟨news, hnr, hnc⟩ := ReadsRow.inner_ HR
    have hnl : news.length = n * d.sz := by rw [hnr.1, hyn]
    have hone : ∀ u ∈ news, u.oneCell' = true := by
      intro u hu
      obtain ⟨q, hq, rfl⟩ := List.mem_iff_getElem.1 hu
      have hs0 : 0 < d.sz := by
        rcases Nat.eq_zero_or_pos d.sz with h9 | h9
        · rw [hnl, h9] at hq; omega
        · exact h9
      have hql : q / d.sz < ys.length := by
        rw [Nat.div_lt_iff_lt_mul hs0, hyn, ← hnl]
        exact hq
      have hk := d.K_one (hnr.2 (q / d.sz) _ (List.getElem?_eq_getElem hql))
      refine hk _ ?_
      rw [List.mem_iff_getElem?]
      refine ⟨q % d.sz, ?_⟩
      rw [List.getElem?_take_of_lt (Nat.mod_lt _ hs0), List.getElem?_drop, Nat.mul_comm, Nat.div_add_mod]
      exact List.getElem?_eq_getElem hq
    rcases h2 with ⟨_, h3⟩ | ⟨g, cap, cur, rfl, hb, hh, hnc2, hcm, hcs, ht2⟩
    · omega
    have hfit : news.length ≤ cur.size := by
      rw [hnl, hcs]
      exact Nat.mul_le_mul_right _ (by omega)
    have hrun := run_copy_sz (P := P) W t t' o.type e d.sz g xs.length cap ad n c cur e news ht hinfo hh (by rw [hnl, hlen]; simp) hnc hfit hone
    rw [show Nat.min n xs.length = n by rw [hlen]; simp] at hrun
    refine fin _ hrun (H.upd p hi hn rfl rfl rfl (by simp [World.setRow]) (fun S hS => ⟨⟨fun k hk => .inl (hS.1 k hk), news, ⟨?_, .inr ⟨g, cap, (news ++ cur.toList.drop news.length).toArray, ?_, hb, setRow_heap W g cur _ e _ hh, ?_, hcm, ?_, ?_⟩⟩, hnr.1, fun j y hj => ?_⟩, fun k hk hkS => ?_⟩))
    · rw [hnl, hyn]
    · rw [hyn, hlen]
    · rw [hyn]; omega
    · simp; omega
    · simp [hnl, hyn]
    · exact hKM _ _ (hnr.2 j y hj) _ _
    · exact setRow_other W g k _ (fun e => hkS (by rw [e]; exact hS.1 g rfl))
end
end Go.Proofs.YtkflgkmblebdmaaW.Hp

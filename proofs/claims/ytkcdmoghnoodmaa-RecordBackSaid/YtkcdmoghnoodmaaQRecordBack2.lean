/-
Of the row RecordBack: printed walks and plain laws, merged (wip/claim2.py).
-/
import Derived.Test.YtkcdmoghnoodmaaQRecordBack0
import Derived.ArgAppend
import Derived.Lib.Bytealg
import Derived.Lib.BytesEntry
import Derived.Lib.ConvBytes
import Derived.Laws.MakeOwn
set_option linter.unusedVariables false
set_option linter.unusedSimpArgs false
namespace Go.Proofs.YtkcdmoghnoodmaaW.Mine
open Go.RowKit Go.Proofs.YtkcdmoghnoodmaaW.PrintWords
theorem bl_asym : ∀ (x y : List UInt8), (Op.bytesLess x y || x == y) = !(Op.bytesLess y x)
  | [], [] => by simp [Op.bytesLess]
  | [], _ :: _ => by simp [Op.bytesLess]
  | _ :: _, [] => by simp [Op.bytesLess]
  | a :: x, b :: y => by
    have ih := bl_asym x y
    simp only [Op.bytesLess, List.cons_beq_cons]
    by_cases h : a < b
    · have h2 : ¬ b < a := fun h3 => by have := UInt8.lt_iff_toNat_lt.1 h; have := UInt8.lt_iff_toNat_lt.1 h3; omega
      have h4 : ¬ b = a := fun e => by subst e; exact h2 h
      simp [h, h2, h4]
    · by_cases h2 : b < a
      · have h3 : ¬ a = b := fun e => by subst e; exact h h2
        simp [h, h2, h3]
      · have h3 : a = b := by
          apply UInt8.toNat_inj.1
          have e1 : ¬ a.toNat < b.toNat := fun h3 => h (UInt8.lt_iff_toNat_lt.2 h3)
          have e2 : ¬ b.toNat < a.toNat := fun h3 => h2 (UInt8.lt_iff_toNat_lt.2 h3)
          omega
        subst h3
        simpa [h] using ih
theorem str_gtr (t : TypeId) (a b : ByteArray) : binOp .gtr t (.string a) (.string b) = pure (.bool (Op.bytesLess b.toList a.toList)) := by
  have h := bl_asym a.toList b.toList
  simp [binOp, Op.stringOp, h]
theorem str_leq (t : TypeId) (a b : ByteArray) : binOp .leq t (.string a) (.string b) = pure (.bool !(Op.bytesLess b.toList a.toList)) := by
  have h := bl_asym a.toList b.toList
  simp [binOp, Op.stringOp, h]
theorem str_geq (t : TypeId) (a b : ByteArray) : binOp .geq t (.string a) (.string b) = pure (.bool !(Op.bytesLess a.toList b.toList)) := by
  simp [binOp, Op.stringOp]
theorem str_max (x y : ByteArray) : Builtin.max2 (.string x) (.string y) = pure (.string (if Op.bytesLess x.toList y.toList = true then y else x)) := by
  by_cases h : Op.bytesLess x.toList y.toList = true
  · simp [Builtin.max2, Op.stringOp, asBool, h]
  · simp only [Bool.not_eq_true] at h
    simp [Builtin.max2, Op.stringOp, asBool, h]
theorem str_min (x y : ByteArray) : Builtin.min2 (.string x) (.string y) = pure (.string (if Op.bytesLess y.toList x.toList = true then y else x)) := by
  have h2 := bl_asym x.toList y.toList
  by_cases h : Op.bytesLess y.toList x.toList = true
  · simp [Builtin.min2, Op.stringOp, asBool, h, h2]
  · simp only [Bool.not_eq_true] at h
    simp [Builtin.min2, Op.stringOp, asBool, h, h2]
structure FullRow {α : Type} (d : Kd α) (w : World) (v : Value) (xs : List α) : Prop where
  mk :: (out : ∃ A, v = .slice A xs.length xs.length ∧ d.C w A xs.length xs)
theorem FullRow.below {α : Type} {d : Kd α} {w w1 : World} {v : Value} {xs : List α} (h : FullRow d w v xs) (hb : Below w.heap.size w w1) : FullRow d w1 v xs := by
  obtain ⟨A, he, hC⟩ := h.out
  exact ⟨A, he, Kd.C_below hC hb⟩
theorem FullRow.alloc {α : Type} {d : Kd α} {w : World} {v : Value} {xs : List α} (h : FullRow d w v xs) (o : Obj) : FullRow d (w.alloc o) v xs := h.below (below_alloc (Below.refl _ _) o)
theorem FullRow.drewN {α : Type} {d : Kd α} {w : World} {v : Value} {xs : List α} (h : FullRow d w v xs) (n : Nat) : FullRow d (w.drewN n) v xs := h.below (pw_below_drewN (Below.refl _ _) n)
theorem FullRow.drew {α : Type} {d : Kd α} {w : World} {v : Value} {xs : List α} (h : FullRow d w v xs) : FullRow d w.drew v xs := h.below (below_drew (Below.refl _ _))
theorem full_append (k : IntKind) {P : Program} {ops : Array Oper} {rest : List Oper} {o : Oper} {a : Act} {Q : Exit → Act → World → Prop} {w0 W : World} (base : Nat) (hgd : o.guard = none) (s x : Operand) (t e : TypeId) (z : Value) (bytes : Nat)
    (ho : o.op = .call { callee := .builtin .append, args := #[s, x], argTypes := #[t, t] })
    (ht : P.underlying t = some (.slice e)) (hinfo : (P.info? e).map (fun i => (i.zero, i.size, i.bytes)) = some (some z, 1, bytes)) (hz : z.cells.size = 1) (hs0 : 0 < 1) (hb0 : 0 < bytes)
    (v : Value) (xs : List Int) (p : Int) (cs : List Value) (ok okp : Nat → Prop) (hs : a.eval s = v) (hx : a.eval x = .slice (some ⟨W.heap.size, 0, none⟩) 1 1) (hp : (Kd.int k).M W base okp p cs) (hokp : ∀ k, okp k → ok k ∧ some k ≠ v.ownBlock) (hfresh : ∀ k, W.heap.size ≤ k → ok k)
    (HF : FullRow (Kd.int k) W v xs) (HB : Below base w0 W) (hbase : base ≤ W.heap.size) (hl : (xs.length + 1) * bytes ≤ 140737488355328)
    (h : ∀ v1 w1, (Kd.int k).R e w1 base ok v1 (xs ++ [p]) → Below base w0 w1 → W.grownBy w1 none → True → wpList P ops Q rest (a.put o.dst v1) w1) :
    wpList P ops Q (o :: rest) a (W.alloc (.cells cs.toArray e)) := by
  obtain ⟨i0, hi, hzz⟩ := Option.map_eq_some_iff.1 hinfo
  simp only [Prod.mk.injEq] at hzz
  obtain ⟨hz0, hz1, hz2⟩ := hzz
  obtain ⟨A, rfl, hC⟩ := HF.out
  obtain rfl : cs = [.int k p] := hp
  have hlen : xs.length + 1 ≤ 140737488355328 := Nat.le_trans (Nat.le_mul_of_pos_right _ hb0) hl
  have hC1 : (Kd.int k).C (W.alloc (.cells [Value.int k p].toArray e)) A xs.length xs := Kd.C_alloc hC _
  refine wpList_append_grows (W.alloc (.cells [Value.int k p].toArray e)) hgd s x t ho e i0 z 1 bytes ht hi hz0 hz1 hz2 hz hs0 A xs.length xs.length (xs.map (Value.int k)) hs (fun hA => ?_) (by simp) (fun b hb j u hj => ?_)
    ⟨W.heap.size, 0, none⟩ 1 1 [Value.int k p] hx rfl (by simpa using World.news_of_block (cs := [Value.int k p].toArray) (t := e) (fr := (0, 0)) (heap_alloc_new W (.cells [Value.int k p].toArray e))) (by simp [Value.oneCell']) (by omega) (by simp only [maxLen]; omega) hl ?_
  · subst hA
    rcases Nat.eq_zero_or_pos xs.length with h0 | h0
    · exact ⟨h0, h0⟩
    · obtain ⟨ad, e1, _⟩ := hC.2.2 h0
      cases e1
  · have hlt : j < xs.length := by
      have := (List.getElem?_eq_some_iff.1 hj).1
      simpa using this
    obtain ⟨ad, e1, hcell⟩ := Kd.at_int hC1 (j : Int) (by omega) (by omega)
    rw [hb] at e1
    injection e1 with e1
    subst e1
    rw [Int.toNat_natCast] at hcell
    rw [hcell, ← hj]
    simp [rd, List.getD_eq_getElem?_getD, List.getElem?_eq_getElem hlt]
  · intro v1 w1 hown hg
    have hsz : W.heap.size ≤ (W.alloc (.cells [Value.int k p].toArray e)).heap.size := by simp
    refine h v1 w1 (Kd.R_of_own (own_weaken (by simpa [encs] using hown) (Nat.le_trans hbase hsz)) (fun q hq => hfresh q (Nat.le_trans hsz (own_base hown q hq)))) ((HB.alloc hbase _).grown hg (Nat.le_trans hbase hsz) (fun q hq => by cases hq)) (World.grownBy.trans (World.grownBy_alloc W _ _) hg) trivial
theorem isEmpty_beq (l : List UInt8) : l.isEmpty = (l == []) := by cases l <;> rfl
end Go.Proofs.YtkcdmoghnoodmaaW.Mine

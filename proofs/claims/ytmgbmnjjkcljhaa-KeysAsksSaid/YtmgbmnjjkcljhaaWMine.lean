/-
Small laws of the walk that the print's words lack: the comparisons of strings as one Bool each, max and min of two strings.
-/
import Derived.Test.YtmgbmnjjkcljhaaWWords
namespace Go.Proofs.YtmgbmnjjkcljhaaW.Mine
theorem bl_asym : ∀ (x y : List UInt8), (Op.bytesLess x y || x == y) = !(Op.bytesLess y x)
  | [], [] => by simp [Op.bytesLess]
  | [], _ :: _ => by simp [Op.bytesLess]
  | _ :: _, [] => by simp [Op.bytesLess]
  | a :: x, b :: y => by
    have ih := bl_asym x y
    simp only [Op.bytesLess, List.cons_beq_cons]
    by_cases h : a < b
    · have h2 : ¬ b < a := fun h3 => by have := UInt8.lt_iff_toNat_lt.1 h; have := UInt8.lt_iff_toNat_lt.1 h3; omega
      have h4 : ¬ b = a := fun e => by subst e; exact h2 h
      simp [h, h2, h4]
    · by_cases h2 : b < a
      · have h3 : ¬ a = b := fun e => by subst e; exact h h2
        simp [h, h2, h3]
      · have h3 : a = b := by
          apply UInt8.toNat_inj.1
          have e1 : ¬ a.toNat < b.toNat := fun h3 => h (UInt8.lt_iff_toNat_lt.2 h3)
          have e2 : ¬ b.toNat < a.toNat := fun h3 => h2 (UInt8.lt_iff_toNat_lt.2 h3)
          omega
        subst h3
        simpa [h] using ih
theorem str_gtr (t : TypeId) (a b : ByteArray) : binOp .gtr t (.string a) (.string b) = pure (.bool (Op.bytesLess b.toList a.toList)) := by
  have h := bl_asym a.toList b.toList
  simp [binOp, Op.stringOp, h]
theorem str_leq (t : TypeId) (a b : ByteArray) : binOp .leq t (.string a) (.string b) = pure (.bool !(Op.bytesLess b.toList a.toList)) := by
  have h := bl_asym a.toList b.toList
  simp [binOp, Op.stringOp, h]
theorem str_geq (t : TypeId) (a b : ByteArray) : binOp .geq t (.string a) (.string b) = pure (.bool !(Op.bytesLess a.toList b.toList)) := by
  simp [binOp, Op.stringOp]
theorem str_max (x y : ByteArray) : Builtin.max2 (.string x) (.string y) = pure (.string (if Op.bytesLess x.toList y.toList = true then y else x)) := by
  by_cases h : Op.bytesLess x.toList y.toList = true
  · simp [Builtin.max2, Op.stringOp, asBool, h]
  · simp only [Bool.not_eq_true] at h
    simp [Builtin.max2, Op.stringOp, asBool, h]
theorem str_min (x y : ByteArray) : Builtin.min2 (.string x) (.string y) = pure (.string (if Op.bytesLess y.toList x.toList = true then y else x)) := by
  have h2 := bl_asym x.toList y.toList
  by_cases h : Op.bytesLess y.toList x.toList = true
  · simp [Builtin.min2, Op.stringOp, asBool, h, h2]
  · simp only [Bool.not_eq_true] at h
    simp [Builtin.min2, Op.stringOp, asBool, h, h2]
end Go.Proofs.YtmgbmnjjkcljhaaW.Mine

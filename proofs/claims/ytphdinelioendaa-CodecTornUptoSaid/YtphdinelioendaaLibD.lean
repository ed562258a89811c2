import Derived.Test.YtphdinelioendaaLibC
namespace Go.Proofs.Ytphdinelioendaa.Lib
open Go.RowKit Go.Proofs.Ytphdinelioendaa.B Go.Proofs.YtphdinelioendaaW.PrintWords Go.Proofs.YtphdinelioendaaW.PrintLast Go.Proofs.YtphdinelioendaaW.PrintMore
set_option linter.unusedVariables false
set_option linter.unusedSimpArgs false

/-- the text that stands behind its length -/
theorem T_I {m : Nat} (hm : i64 (m : Int)) (rest : List Int) (h : m ≤ rest.length) : T (I m ++ rest) = (strOfNums (rest.take m), 1 + (kw m : Int) + m, 0) := by
  unfold T
  rw [P_I hm]
  simp only [if_true]
  rw [if_neg (by omega), if_neg (by rw [List.length_append, I_length]; omega)]
  rw [show (1 + (kw m : Int) + m).toNat = 1 + kw m + m by omega, show (1 + (kw m : Int)).toNat = 1 + kw m by omega]
  congr 2
  rw [List.drop_take, show 1 + kw m + m - (1 + kw m) = m by omega, ← I_length, List.drop_left']
  rfl
theorem T_str (s : ByteArray) (hs : i64 (s.size : Int)) (rest : List Int) : T (I s.size ++ (bytesOf s ++ rest)) = (s, 1 + (kw s.size : Int) + s.size, 0) := by
  rw [T_I hs _ (by rw [List.length_append, bytesOf_length]; omega), List.take_left' (bytesOf_length s), str_bytes]
theorem F_I (b : Bool) (rest : List Int) : F (I (if b then 1 else 0) ++ rest) = (b, 1, 0) := by
  unfold F
  cases b
  · simp only [Bool.false_eq_true, if_false]
    rw [P_I ⟨by omega, by omega⟩]
    simp [kw]
  · simp only [if_true]
    rw [P_I ⟨by omega, by omega⟩]
    simp [kw]
end Go.Proofs.Ytphdinelioendaa.Lib

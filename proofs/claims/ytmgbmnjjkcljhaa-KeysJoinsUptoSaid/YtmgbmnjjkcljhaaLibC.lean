import Derived.Test.YtmgbmnjjkcljhaaBx15
import Derived.Test.YtmgbmnjjkcljhaaBx14
import Derived.Test.YtmgbmnjjkcljhaaLibB
namespace Go.Proofs.Ytmgbmnjjkcljhaa.Lib
open Go.RowKit Go.Proofs.Ytmgbmnjjkcljhaa.B Go.Proofs.YtmgbmnjjkcljhaaW.PrintWords Go.Proofs.YtmgbmnjjkcljhaaW.PrintLast
set_option linter.unusedVariables false
set_option linter.unusedSimpArgs false
theorem in_ref (lo hi s : ByteArray) : cressetref05_In.f lo hi s = keys_In.f lo hi s := rfl
theorem empty_ref (lo hi : ByteArray) : cressetref05_Empty.f lo hi = keys_Empty.f lo hi := rfl
theorem least_eq (x y : ByteArray) : cressetref05_least.f x y = some (lo2 x y) := by
  unfold cressetref05_least.f lo2
  by_cases h : x.toList = []
  · by_cases h2 : y.toList = []
    · have e : x = y := inj_toList (by rw [h, h2])
      simp [h, h2, e]
    · simp [h, h2]
  · by_cases h2 : y.toList = []
    · simp [h, h2]
    · by_cases h3 : Op.bytesLess y.toList x.toList = true
      · simp [h, h2, h3]
      · simp [h, h2, h3]
theorem meetr_loop (l : List S27) (hl : l.length ≤ 9223372036854775800) : ∀ (d n : Nat) (m : Rg), n + d = l.length → Ev (fun k => cressetref05_Meet.l0 k l (n : Int) m.1 m.2) ((l.drop n).foldl meet1 m)
  | 0, n, m, h => by
    rw [List.drop_of_length_le (by omega)]
    refine Ev.step (f := fun _ => some (m.1, m.2)) (fun k => ?_) (Ev.now _)
    simp only [cressetref05_Meet.l0]
    rw [if_neg (by omega)]
  | d + 1, n, m, h => by
    have hn : n < l.length := by omega
    have ih := meetr_loop l hl d (n + 1) (meet1 m l[n]) (by omega)
    rw [List.drop_eq_getElem_cons hn, List.foldl_cons]
    refine Ev.step (f := fun k => cressetref05_Meet.l0 k l ((n + 1 : Nat) : Int) (meet1 m l[n]).1 (meet1 m l[n]).2) (fun k => ?_) ih
    simp only [cressetref05_Meet.l0]
    rw [if_pos (by omega), if_pos (by omega), rd27 l n hn, wr1 (by omega) (by omega)]
    unfold meet1 hi2
    have e : ((n + 1 : Nat) : Int) = (n : Int) + 1 := by omega
    simp only [e, least_eq, Option.bind_some]
    by_cases h1 : Op.bytesLess m.1.toList l[n].f0.toList = true
    all_goals simp [h1]
theorem meet_ref_ev (l : List S27) (hl : l.length ≤ 9223372036854775800) : Ev (fun k => cressetref05_Meet.f k l) (meetOf l) := by
  have := meetr_loop l hl l.length 0 (⟨#[]⟩, ⟨#[]⟩) (by omega)
  simpa [cressetref05_Meet.f, meetOf] using this
end Go.Proofs.Ytmgbmnjjkcljhaa.Lib

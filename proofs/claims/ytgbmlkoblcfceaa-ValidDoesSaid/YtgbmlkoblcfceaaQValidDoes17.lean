/-
Of the row ValidDoes: printed walks and plain laws, merged (wip/claim2.py).
-/
import Derived.Test.YtgbmlkoblcfceaaQValidDoes2
import Derived.Test.YtgbmlkoblcfceaaQValidDoes7
import Derived.Test.YtgbmlkoblcfceaaQValidDoes16
set_option linter.unusedVariables false
set_option linter.unusedSimpArgs false
namespace Go.Proofs.Ytgbmlkoblcfceaa.Srt
open Go.RowKit Go.Proofs.YtgbmlkoblcfceaaW.PrintWords Go.Proofs.YtgbmlkoblcfceaaW.PrintLast Go.Proofs.YtgbmlkoblcfceaaW.PrintMore Go.Proofs.Ytgbmlkoblcfceaa.Sl
def srt (l : List ByteArray) : List ByteArray := ((l.map (fun s => s.data.toList)).mergeSort fun x y => decide (x ≤ y)).map fun b => (⟨b.toArray⟩ : ByteArray)
def mkB (b : List UInt8) : ByteArray := ⟨b.toArray⟩
def encB : ByteArray → List Value := fun s => [.string s]
theorem flatB : Flat Kd.string encB := ⟨rfl, fun _ => rfl, fun h => h, fun _ _ _ _ => rfl⟩
theorem getB (l : List ByteArray) (j : Nat) (h : j < l.length) : (Go.Sort.flatK encB 1 l.toArray)[j]! = .string l[j] := by
  rw [Go.Sort.get_flatK _ _ _ _ (by simpa using h), Nat.div_one, Nat.mod_one, getElem!_pos l.toArray j (by simpa using h)]
  rfl
theorem put_eq (ys : List (List UInt8)) (W : World) (g : Nat) : Go.Sort.putRow Go.Proofs.encStr W g 0 ys.toArray = Go.Sort.putRowK encB 1 W g 0 (ys.map mkB).toArray := by
  unfold Go.Sort.putRowK Go.Sort.putRow
  congr 1
  funext c
  unfold Go.Sort.putCells
  apply Array.ext (by simp)
  intro i h1 h2
  rw [Array.getElem_mapIdx, Array.getElem_mapIdx]
  by_cases h : i < ys.length
  · rw [if_pos ⟨Nat.zero_le _, by simpa using h⟩, if_pos ⟨Nat.zero_le _, by simpa using h⟩, Nat.sub_zero, getB _ _ (by simpa using h), getElem!_pos ys.toArray i (by simpa using h)]
    simp [mkB, Go.Proofs.encStr]
  · rw [if_neg (fun hh => h (by simpa using hh.2)), if_neg (fun hh => h (by simpa using hh.2))]
theorem sort_R {w : World} {base : Nat} {ok : Nat → Prop} {g n c : Nat} {l : List ByteArray} (h : Kd.string.R 9 w base ok (.slice (some ⟨g, 0, none⟩) n c) l) (hl : l.length < 4611686018427387904) :
    Calls Try.prog 32 #[.slice (some ⟨g, 0, none⟩) n c] w fun e w' => (∃ v, e = .returned v) ∧ Kd.string.R 9 w' base ok (.slice (some ⟨g, 0, none⟩) n c) (srt l) ∧ ∃ m os, w' = Go.Proofs.sortWorldK encB 1 w g 0 m (srt l).toArray os := by
  have hn : n = l.length := (Kd.R_reads' h).1
  have hlt : g < w.heap.size := Kd.R_lt h g rfl
  have hH : Go.Sort.Holds Go.Proofs.encStr w g 0 (l.map (fun s => s.data.toList)).toArray := by
    intro j hj
    have hj2 : j < l.length := by simpa using hj
    have h2 := flat_holds flatB h j (by rw [Go.Sort.size_flatK, List.size_toArray, show Kd.string.sz = 1 from rfl, Nat.mul_one]; exact hj2)
    have e1 := getB l j hj2
    refine ⟨?_, h2.2⟩
    rw [h2.1]
    refine congrArg some ?_
    show (Go.Sort.flatK encB 1 l.toArray)[j]! = _
    rw [e1, getElem!_pos _ j hj]
    simp [Go.Proofs.encStr]
  have hs := Go.Proofs.AnyM.slices_Sort_string Try.sort32 g 0 c (l.map (fun s => s.data.toList)) w hH hlt (by simpa using hl)
  rw [List.length_map, ← hn] at hs
  refine hs.mono ?_
  rintro e w' ⟨rfl, m, os, rfl⟩
  have e1 : Go.Sort.grow (Go.Sort.putRow Go.Proofs.encStr (Go.Sort.ahead w m) g 0 ((l.map (fun s => s.data.toList)).mergeSort fun x y => decide (x ≤ y)).toArray) os = Go.Proofs.sortWorldK encB 1 w g 0 m (srt l).toArray os := by
    rw [put_eq]
    rfl
  refine ⟨⟨_, rfl⟩, ?_, m, os, e1⟩
  rw [e1]
  have := flat_sorted flatB h (srt l).toArray (by simp [srt]) m os
  rw [show Kd.string.sz = 1 from rfl] at this
  simpa using this
end Go.Proofs.Ytgbmlkoblcfceaa.Srt

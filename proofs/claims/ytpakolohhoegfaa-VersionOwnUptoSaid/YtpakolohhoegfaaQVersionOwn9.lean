/-
Of the row VersionOwn: printed walks and plain laws, merged (wip/claim2.py).
-/
import Derived.Test.YtpakolohhoegfaaQVersionOwn6
import Derived.Test.YtpakolohhoegfaaQVersionOwn8
namespace Go.Proofs.Ytpakolohhoegfaa.Iu
open Go.RowKit Go.Maps Go.Sort Go.Shelf Go.Proofs Go.Proofs.YtpakolohhoegfaaW.PrintWords Go.Proofs.YtpakolohhoegfaaW.PrintLast Go.Proofs.YtpakolohhoegfaaW.PrintMore Go.Proofs.YtpakolohhoegfaaW.Hp
set_option linter.unusedVariables false

theorem sorts (m : Nat) : AnyZ.SortsIn Try.prog Try.sorted53_ren Fence.wide m :=
  ⟨fun blk off cap ss W hH hblk hsz => callsIn_wide.2 (AnyM.slices_Sort_string Try.sort66 blk off cap ss W hH hblk hsz),
   fun p cap W => callsIn_wide.2 (AnyM.slices_Sort_string_none Try.sort66 p cap W)⟩
theorem encStr_data (s : ByteArray) : encStr s.data.toList = .string s := by simp [encStr]
theorem encStr_map {α : Type} (l : List (ByteArray × α)) : (l.map fun p => p.1.data.toList).map encStr = encs Value.string (l.map Prod.fst) := by
  induction l with
  | nil => rfl
  | cons p l ih =>
    show encStr p.1.data.toList :: _ = .string p.1 :: encs Value.string (l.map Prod.fst)
    rw [ih, encStr_data]
theorem keysOf54 (mb : Option Nat) (W : World) : Calls Try.prog 54 #[.map mb] W fun e w' => e = .returned (.func (.func 67) #[] #[.pointer (some ⟨W.heap.size, 0, none⟩)]) ∧ w' = W.alloc (.cells #[.map mb] 73) :=
  callsIn_wide.1 (AnyZ.keys_in Try.keys54 Fence.wide 5 trivial rfl mb W)
set_option maxHeartbeats 1000000 in
theorem sortedOf54 {H : Type} (b nn : Nat) (D0 : DataW H) (R : Value → Option (DataW H × List MemPlace)) (w : World) (hown : w.ownsMap Try.prog 9 R b nn D0) (hmax : Maps.size D0 ≤ maxLen) (hbytes : Maps.size D0 * 16 ≤ 140737488355328) :
    Calls Try.prog 53 #[.func (.func 67) #[] #[.pointer (some ⟨w.heap.size, 0, none⟩)]] (w.alloc (.cells #[.map (some b)] 73)) fun e w' => ∃ (v : Value) (ss : List (List UInt8)), e = .returned v ∧ ss.Perm (strKeys D0) ∧
      w'.ownsRow (w.alloc (.cells #[.map (some b)] 73)).heap.size 9 1 v ss.length ((ss.mergeSort (fun x y => decide (x ≤ y))).map encStr) ∧ (v = .slice none 0 0 ↔ ss = []) ∧ Below (w.alloc (.cells #[.map (some b)] 73)).heap.size (w.alloc (.cells #[.map (some b)] 73)) w' := by
  have hbl := hown.lt
  have hseq : SeqGives Fence.wide 2 Try.prog 67 #[.pointer (some ⟨w.heap.size, 0, none⟩)] encStr (fun ss => ss.Perm (strKeys D0)) (Maps.size D0) (w.alloc (.cells #[.map (some b)] 73)) :=
    AnyZ.keys_gives (ρ := Try.keys54_ren) { Try.keys54 with } Fence.wide _ trivial rfl (by omega) w.heap.size b nn D0 _ (by simp) (by simp) (by
      obtain ⟨es, clock, hb, Ft, hs, hD⟩ := hown
      exact ⟨es, clock, (Below.heap_alloc _ _ b hbl).trans hb, Ft, hs, hD⟩)
  exact callsIn_wide.1 (AnyZ.sorted_in Try.sorted53 Fence.wide 5 trivial trivial trivial trivial rfl (by omega) (sorts _) (enters_of Try.func66 (by kernel_rfl) rfl) 67 #[.pointer (some ⟨w.heap.size, 0, none⟩)] trivial (enters_of Try.func67 (by kernel_rfl) rfl) _ _ hmax hbytes _ hseq)
theorem sorted54 {α : Type} {enc : α → Value} {b : Nat} {l : List (ByteArray × α)} {w0 W : World} {L : List (Nat × Asn)} {i : Nat} (H : Hp w0 W L) (p : Nat) (hi : L[p]? = some (i, Asn.map kyS Try.prog 9 enc b l)) (hb : l.length * 16 ≤ 140737488355328) (m : Nat) :
    Calls Try.prog 53 #[.func (.func 67) #[] #[.pointer (some ⟨W.heap.size, 0, none⟩)]] (W.alloc (.cells #[.map (some b)] 73)) fun e w' => ∃ A c, e = .returned (.slice A l.length c) ∧ l.length ≤ c ∧ Hp w0 w' (L ++ [(m, Asn.row Kd.string 9 (.slice A l.length c) (l.map Prod.fst))]) := by
  obtain ⟨hs, hown⟩ := H.map_owns p hi
  have hsz : Maps.size (kyS.D enc l) = l.length := kyS.D_size
  refine (sortedOf54 b l.length (kyS.D enc l) rawR W hown (by rw [hsz]; simp only [maxLen]; omega) (by rw [hsz]; exact hb)).mono ?_
  rintro e w' ⟨v, ss, rfl, hp, ho, _, hbw⟩
  have hk := sorted_keys hs hp
  have hl : ss.length = l.length := by rw [hp.length_eq, strKeys_D, List.length_map]
  have hl2 : (l.map Prod.fst).length = l.length := by simp
  rw [hk, encStr_map, hl, ← hl2] at ho
  have hR : Kd.string.R 9 w' (W.alloc (.cells #[.map (some b)] 73)).heap.size (fun k => (W.alloc (.cells #[.map (some b)] 73)).heap.size ≤ k) v (l.map Prod.fst) := Kd.R_of_own ho (fun k hk => by
    rcases ho with ⟨_, h | ⟨g, c, cur, rfl, hg, _⟩⟩
    · rw [h.1] at hk; simp [Value.ownBlock] at hk
    · simp only [Value.ownBlock, Option.some.injEq] at hk; omega)
  obtain ⟨A, c, rfl⟩ := Kd.R_slice hR
  have hc := (Kd.R_reads' hR).2.1
  rw [List.length_map] at hc hR ⊢
  have H1 := H.same (below_alloc (Below.refl W.heap.size W) (.cells #[.map (some b)] 73))
  exact ⟨A, c, rfl, hc, H1.new m hbw (Kd.R_lower hR (Nat.zero_le _))⟩
end Go.Proofs.Ytpakolohhoegfaa.Iu

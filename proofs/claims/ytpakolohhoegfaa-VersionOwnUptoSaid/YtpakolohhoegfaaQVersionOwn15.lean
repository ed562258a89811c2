/-
Of the row VersionOwn: printed walks and plain laws, merged (wip/claim2.py).
-/
import Derived.Test.YtpakolohhoegfaaQVersionOwn2
import Derived.Test.YtpakolohhoegfaaQVersionOwn6
import Derived.Test.YtpakolohhoegfaaQVersionOwn12
namespace Go.Proofs.Ytpakolohhoegfaa.It
open Go.RowKit Go.Maps Go.Sort Go.Shelf Go.Proofs Go.Proofs.YtpakolohhoegfaaW.PrintWords Go.Proofs.YtpakolohhoegfaaW.PrintLast Go.Proofs.YtpakolohhoegfaaW.PrintMore
set_option linter.unusedVariables false

theorem run_equalIn_func_nil {P : Program} (w : World) (d : Nat) (t : TypeId) (f : Fn) (fs lb : Array Value) {a b : Array TypeId} {c : Bool} (h : P.underlying t = some (.func a b c)) : (Op.equalIn (d + 1) t (.func f fs lb) .nilFunc).run P w = .ok false w := by
  simp [Op.equalIn, run_underlying h]
theorem neqFn (p q : Addr) (w : World) : (binOp .neq 65 (.func (.func 55) #[] #[.pointer (some p), .pointer (some q)]) .nilFunc).run Try.prog w = .ok (.bool true) w := by
  simp only [binOp]
  simp [show (Op.equal 65 (.func (.func 55) #[] #[.pointer (some p), .pointer (some q)]) .nilFunc).run Try.prog w = .ok false w from run_equalIn_func_nil w 9999 65 _ _ _ Try.underlying65]
theorem sorts (m : Nat) : AnyZ.SortsIn Try.prog Try.sorted53_ren Fence.wide m :=
  ⟨fun blk off cap ss W hH hblk hsz => callsIn_wide.2 (AnyM.slices_Sort_string Try.sort66 blk off cap ss W hH hblk hsz),
   fun p cap W => callsIn_wide.2 (AnyM.slices_Sort_string_none Try.sort66 p cap W)⟩
theorem keysOf (mb : Option Nat) (W : World) : Calls Try.prog 54 #[.map mb] W fun e w' => e = .returned (.func (.func 67) #[] #[.pointer (some ⟨W.heap.size, 0, none⟩)]) ∧ w' = W.alloc (.cells #[.map mb] 73) :=
  callsIn_wide.1 (AnyZ.keys_in Try.keys54 Fence.wide 5 trivial rfl mb W)
set_option maxHeartbeats 1000000 in
theorem sortedOf {H : Type} (b nn : Nat) (D0 : DataW H) (R : Value → Option (DataW H × List MemPlace)) (w : World) (hown : w.ownsMap Try.prog 9 R b nn D0) (hmax : Maps.size D0 ≤ maxLen) (hbytes : Maps.size D0 * 16 ≤ 140737488355328) :
    Calls Try.prog 53 #[.func (.func 67) #[] #[.pointer (some ⟨w.heap.size, 0, none⟩)]] (w.alloc (.cells #[.map (some b)] 73)) fun e w' => ∃ (v : Value) (ss : List (List UInt8)), e = .returned v ∧ ss.Perm (strKeys D0) ∧
      w'.ownsRow (w.alloc (.cells #[.map (some b)] 73)).heap.size 9 1 v ss.length ((ss.mergeSort (fun x y => decide (x ≤ y))).map encStr) ∧ (v = .slice none 0 0 ↔ ss = []) ∧ Below (w.alloc (.cells #[.map (some b)] 73)).heap.size (w.alloc (.cells #[.map (some b)] 73)) w' := by
  have hbl := hown.lt
  have hseq : SeqGives Fence.wide 2 Try.prog 67 #[.pointer (some ⟨w.heap.size, 0, none⟩)] encStr (fun ss => ss.Perm (strKeys D0)) (Maps.size D0) (w.alloc (.cells #[.map (some b)] 73)) :=
    AnyZ.keys_gives (ρ := Try.keys54_ren) { Try.keys54 with } Fence.wide _ trivial rfl (by omega) w.heap.size b nn D0 _ (by simp) (by simp) (by
      obtain ⟨es, clock, hb, Ft, hs, hD⟩ := hown
      exact ⟨es, clock, (Below.heap_alloc _ _ b hbl).trans hb, Ft, hs, hD⟩)
  exact callsIn_wide.1 (AnyZ.sorted_in Try.sorted53 Fence.wide 5 trivial trivial trivial trivial rfl (by omega) (sorts _) (enters_of Try.func66 (by kernel_rfl) rfl) 67 #[.pointer (some ⟨w.heap.size, 0, none⟩)] trivial (enters_of Try.func67 (by kernel_rfl) rfl) _ _ hmax hbytes _ hseq)
set_option maxHeartbeats 2000000 in
set_option maxRecDepth 100000 in
theorem mapNone (w : World) : Calls Try.prog 30 #[.slice none 0 0] w fun e w' => (∃ p q : Addr, e = .returned (.func (.func 55) #[] #[.pointer (some p), .pointer (some q)])) ∧ Below w.heap.size w w' := by
  have hmm := @run_makeMap Try.prog
  go_enter Try.func30, Try.ntmps30
  go_wp2
  go_loopg [10] 0 (fun gk v10 w' => v10 = .int .i64 0 ∧ Aside0 (w'.ownsMap (H := Nat) Try.prog 9 (fun v => (none : Option (DataW Nat × List MemPlace))) w.heap.size 0 (.map [])) ∧ Aside0 (w'.cell? ⟨w.heap.size + 1, 0, none⟩ = some (.map (some w.heap.size))) ∧ Aside0 (Below w.heap.size w w'))
  case atStart => exact ⟨rfl, ⟨(World.ownsMap_made w _ _ _).alloc _⟩, ⟨by simp⟩, ⟨((Below.refl _ w).alloc (Nat.le_refl _) _).alloc (by simp) _⟩⟩
  case round =>
    obtain ⟨rfl, HM, HC, HB⟩ := hrel
    have hc := HC.out
    go_wp2_with (first | (go_at_call 54; refine (keysOf _ _).mono ?_; rintro e w' ⟨rfl, rfl⟩) | (go_at_call 53; refine (sortedOf _ _ _ _ _ HM.out (by decide) (by decide)).mono ?_; rintro e w' ⟨v, ss, rfl, hS, hrow, hnil, hb⟩; obtain rfl : ss = [] := List.perm_nil.1 hS; obtain rfl : v = .slice none 0 0 := hnil.2 rfl; have HB2 := Aside0.mk ((HB.out.alloc HB.out.size _).trans (hb.mono (by simp; have := HB.out.size; omega))); clear hb hS hrow hnil))
    go_ret
    refine ⟨⟨_, _, rfl⟩, ?_⟩
    exact HB2.out.alloc HB2.out.size _
end Go.Proofs.Ytpakolohhoegfaa.It

/-
Of the row VersionOwn: printed walks and plain laws, merged (wip/claim2.py).
-/
import Derived.Test.YtpakolohhoegfaaQVersionOwn0
import Derived.Shelf.SlSortCmp.NoneTotal
import Derived.Lib.SliceRun
import Derived.Lib.Bytealg
namespace Go.Proofs.Ytpakolohhoegfaa.Sl
open Go.RowKit Go.Proofs.YtpakolohhoegfaaW.PrintWords Go.Proofs.YtpakolohhoegfaaW.PrintLast Go.Proofs.YtpakolohhoegfaaW.PrintMore
set_option linter.unusedVariables false
set_option linter.unusedSimpArgs false

def idxI {α : Type} (p : α → Bool) (l : List α) : Int := match l.findIdx? p with
  | some i => (i : Int)
  | none => -1
theorem getD_in {α : Type} {l : List α} {i : Nat} (d : α) (h : i < l.length) : l.getD i d ∈ l := by
  rw [List.getD_eq_getElem?_getD, List.getElem?_eq_getElem h]
  exact List.getElem_mem h
theorem getD_at {α : Type} {l : List α} {i : Nat} (d : α) (h : i < l.length) : l.getD i d = l[i] := by
  rw [List.getD_eq_getElem?_getD, List.getElem?_eq_getElem h]
  rfl
theorem idxI_hit {α : Type} {p : α → Bool} {l : List α} {i : Nat} (d : α) (h : i < l.length) (hp : p (l.getD i d) = true) (hn : ∀ j, j < i → p (l.getD j d) = false) : idxI p l = i := by
  unfold idxI
  have : l.findIdx? p = some i := by
    rw [List.findIdx?_eq_some_iff_getElem]
    refine ⟨h, by rw [getD_at d h] at hp; exact hp, fun j hj => ?_⟩
    have := hn j hj
    rw [getD_at d (Nat.lt_trans hj h)] at this
    rw [this]
    exact Bool.false_ne_true
  rw [this]
theorem idxI_none {α : Type} {p : α → Bool} {l : List α} (d : α) (hn : ∀ j, j < l.length → p (l.getD j d) = false) : idxI p l = -1 := by
  unfold idxI
  have : l.findIdx? p = none := by
    rw [List.findIdx?_eq_none_iff]
    intro x hx
    obtain ⟨j, hj, rfl⟩ := List.mem_iff_getElem.1 hx
    have := hn j hj
    rwa [getD_at d hj] at this
  rw [this]
theorem idxI_cases {α : Type} (p : α → Bool) (l : List α) (d : α) : (idxI p l = -1 ∧ ∀ j, j < l.length → p (l.getD j d) = false) ∨ ∃ i : Nat, i < l.length ∧ idxI p l = i ∧ p (l.getD i d) = true ∧ ∀ j, j < i → p (l.getD j d) = false := by
  unfold idxI
  cases h : l.findIdx? p with
  | none =>
    refine .inl ⟨rfl, fun j hj => ?_⟩
    rw [List.findIdx?_eq_none_iff] at h
    rw [getD_at d hj]
    exact h _ (List.getElem_mem hj)
  | some i =>
    rw [List.findIdx?_eq_some_iff_getElem] at h
    obtain ⟨hi, hp, hn⟩ := h
    refine .inr ⟨i, hi, rfl, by rw [getD_at d hi]; exact hp, fun j hj => ?_⟩
    rw [getD_at d (Nat.lt_trans hj hi)]
    exact Bool.eq_false_iff.2 (hn j hj)
def DInv {α : Type} (p : α → Bool) (l ys : List α) (i j : Nat) : Prop := ys.length = l.length ∧ i < j ∧ ys.take i = (l.take j).filter (fun x => !p x) ∧ ∀ t, j ≤ t → ys[t]? = l[t]?
theorem DInv.start {α : Type} {p : α → Bool} {l : List α} {i : Nat} (d : α) (h : i < l.length) (ht : p (l.getD i d) = true) (hn : ∀ j, j < i → p (l.getD j d) = false) : DInv p l l i (i + 1) := by
  refine ⟨rfl, Nat.lt_succ_self _, ?_, fun _ _ => rfl⟩
  rw [List.take_succ_eq_append_getElem h, List.filter_append]
  have h1 : (l.take i).filter (fun x => !p x) = l.take i := by
    rw [List.filter_eq_self]
    intro x hx
    obtain ⟨j, hj, rfl⟩ := List.mem_iff_getElem.1 hx
    rw [List.length_take] at hj
    have := hn j (by omega)
    rw [getD_at d (by omega)] at this
    rw [List.getElem_take, this]
    rfl
  rw [getD_at d h] at ht
  rw [h1, List.filter_cons, ht]
  simp
theorem DInv.skip {α : Type} {p : α → Bool} {l ys : List α} {i j : Nat} (h : DInv p l ys i j) (d : α) (hj : j < l.length) (hp : p (l.getD j d) = true) : DInv p l ys i (j + 1) := by
  obtain ⟨h1, h2, h3, h4⟩ := h
  refine ⟨h1, by omega, ?_, fun t ht => h4 t (by omega)⟩
  rw [getD_at d hj] at hp
  rw [List.take_succ_eq_append_getElem hj, List.filter_append, List.filter_cons, hp, h3]
  simp
theorem DInv.keep {α : Type} {p : α → Bool} {l ys : List α} {i j : Nat} (h : DInv p l ys i j) (d : α) (hj : j < l.length) (hp : p (l.getD j d) = false) : DInv p l (ys.set i (l.getD j d)) (i + 1) (j + 1) := by
  obtain ⟨h1, h2, h3, h4⟩ := h
  refine ⟨by rw [List.length_set]; exact h1, by omega, ?_, fun t ht => ?_⟩
  · have e := getD_at d hj
    rw [e] at hp ⊢
    have hi : i < (ys.set i l[j]).length := by rw [List.length_set]; omega
    rw [List.take_succ_eq_append_getElem hj, List.filter_append, List.filter_cons, hp, ← h3, List.take_succ_eq_append_getElem hi, List.getElem_set_self, List.take_set_of_le (Nat.le_refl _)]
    simp
  · rw [List.getElem?_set_ne (by omega)]
    exact h4 t (by omega)
theorem DInv.done {α : Type} {p : α → Bool} {l ys : List α} {i : Nat} (h : DInv p l ys i l.length) : ys.take i = l.filter (fun x => !p x) := by
  have := h.2.2.1
  rwa [List.take_length] at this
theorem filter_none {α : Type} {p : α → Bool} {l : List α} (d : α) (hn : ∀ j, j < l.length → p (l.getD j d) = false) : l.filter (fun x => !p x) = l := by
  rw [List.filter_eq_self]
  intro x hx
  obtain ⟨j, hj, rfl⟩ := List.mem_iff_getElem.1 hx
  have := hn j hj
  rw [getD_at d hj] at this
  rw [this]
  rfl
theorem R_tail {α : Type} {d : Kd α} {e : Nat} {w : World} {base : Nat} {ok : Nat → Prop} {g n c : Nat} {xs : List α} (h : d.R e w base ok (.slice (some ⟨g, 0, none⟩) n c) xs) (o : Nat) (ho : xs.length * d.sz ≤ o) (u : Value) : d.R e (w.setCell ⟨g, o, none⟩ u) base ok (.slice (some ⟨g, 0, none⟩) n c) xs := by
  obtain ⟨h0, inner, ⟨h1, h2⟩, hr⟩ := h
  refine ⟨h0, inner, ⟨h1, ?_⟩, hr.imp_ (fun _ _ hp => d.M_move (fun k hk => Below.heap_setCell w ⟨g, o, none⟩ u k (fun he => hk.2 (by rw [he]; rfl))) hp)⟩
  rcases h2 with ⟨hv, _⟩ | ⟨g', cap, cur, hv, hb, hh, h3, h4, h5, h6⟩
  · cases hv
  · injection hv with hv1 hv2 hv3
    injection hv1 with hv1
    injection hv1 with hv1
    subst hv1; subst hv3; subst hv2
    refine .inr ⟨g, c, cur.setIfInBounds o u, rfl, hb, blk_set hh o u, h3, h4, by rw [Array.size_setIfInBounds]; exact h5, ?_⟩
    rw [Array.toList_setIfInBounds, List.take_set_of_le ho]
    exact h6
theorem R_tails {α : Type} {d : Kd α} {e : Nat} {base : Nat} {ok : Nat → Prop} {g n c : Nat} {xs : List α} : ∀ (l : List Value) (o : Nat) {w : World}, d.R e w base ok (.slice (some ⟨g, 0, none⟩) n c) xs → xs.length * d.sz ≤ o → d.R e (w.setCells g o l) base ok (.slice (some ⟨g, 0, none⟩) n c) xs
  | [], _, _, h, _ => h
  | v :: r, o, _, h, ho => R_tails r (o + 1) (R_tail h o ho v) (by omega)
theorem kept_cells {w : World} {S : Nat → Prop} {g : Nat} (hg : S g) : ∀ (l : List Value) (o : Nat) {W : World}, Kept w W S → Kept w (W.setCells g o l) S
  | [], _, _, h => h
  | v :: r, o, _, h => kept_cells hg r (o + 1) (h.setCell (p := ⟨g, o, none⟩) (.inl hg) v)
theorem below_cells {w0 : World} {B g : Nat} (hg : B ≤ g) : ∀ (l : List Value) (o : Nat) {W : World}, Below B w0 W → Below B w0 (W.setCells g o l)
  | [], _, _, h => h
  | v :: r, o, _, h => below_cells hg r (o + 1) (h.setCell (p := ⟨g, o, none⟩) hg v)
theorem zeros_one (zc : Array Value) (n : Nat) (h : ∀ v ∈ zc, v.oneCell' = true) : ∀ v ∈ (Builtin.zeroCells zc n).toList, v.oneCell' = true := by
  intro v hv
  rw [Array.mem_toList_iff] at hv
  unfold Builtin.zeroCells at hv
  obtain ⟨i, hi, rfl⟩ := Array.mem_map.1 hv
  rw [Array.mem_range] at hi
  have hs : 0 < zc.size := by
    rcases Nat.eq_zero_or_pos zc.size with h0 | h0
    · rw [h0] at hi; omega
    · exact h0
  rw [getElem!_pos zc (i % zc.size) (Nat.mod_lt _ hs)]
  exact h _ (Array.getElem_mem _)
theorem run_clear {P : Program} (w : World) (t e ty : TypeId) (z : Value) (ht : P.underlying t = some (.slice e)) (hv : ∀ w, (zeroValue e).run P w = .ok z w) (b o n c : Nat) (hn : 0 < n)
    (h1 : ∀ v ∈ (Builtin.zeroCells z.cells n).toList, v.oneCell' = true)
    (hc : ∀ j, j < (Builtin.zeroCells z.cells n).toList.length → (w.cell? ⟨b, o + j, none⟩).isSome = true) (hf : ∀ j, j < (Builtin.zeroCells z.cells n).toList.length → w.frozen? ⟨b, o + j, none⟩ = false) :
    (Builtin.clear_ #[t] ty #[.slice (some ⟨b, o, none⟩) n c]).run P w = .ok (.tuple #[]) (w.setCells b o (Builtin.zeroCells z.cells n).toList) := by
  have hst := run_storeCells_cells (P := P) b o (Builtin.zeroCells z.cells n).toList 0 w (by simpa using hc) (by simpa using hf) h1
  simp only [Nat.add_zero] at hst
  obtain ⟨m, rfl⟩ : ∃ m, n = m + 1 := ⟨n - 1, by omega⟩
  simp [Builtin.clear_, run_underlying ht, hv, hst]
theorem R_behind {α : Type} {d : Kd α} {e : Nat} {w : World} {base : Nat} {ok : Nat → Prop} {g n c : Nat} {xs : List α} (h : d.R e w base ok (.slice (some ⟨g, 0, none⟩) n c) xs) (o : Nat) (ho : o < n * d.sz) : (w.cell? ⟨g, o, none⟩).isSome = true ∧ w.frozen? ⟨g, o, none⟩ = false := by
  obtain ⟨h0, inner, ⟨h1, h2⟩, hr⟩ := h
  rcases h2 with ⟨hv, _⟩ | ⟨g', cap, cur, hv, hb, hh, h3, h4, h5, h6⟩
  · cases hv
  · injection hv with hv1 hv2 hv3
    injection hv1 with hv1
    injection hv1 with hv1
    subst hv1; subst hv2
    have : xs.length * d.sz ≤ cap * d.sz := Nat.mul_le_mul_right _ h3
    refine ⟨?_, blk_frozen hh o⟩
    rw [blk_cell hh, Array.getElem?_eq_getElem (by omega)]
    rfl
theorem R_but {α : Type} {d : Kd α} {e : Nat} {w : World} {base : Nat} {ok : Nat → Prop} {q n c gb : Nat} {xs : List α} (h : d.R e w base ok (.slice (some ⟨q, 0, none⟩) n c) xs) (hE : d.E = []) (hne : q ≠ gb) : d.R e w base (fun k => ok k ∧ k ≠ gb) (.slice (some ⟨q, 0, none⟩) n c) xs :=
  Kd.R_mono (Kd.R_tight hE h) (fun k hk => by
    have : k = q := by simpa [Value.ownBlock] using hk
    subst this
    exact ⟨h.1 k rfl, hne⟩)
end Go.Proofs.Ytpakolohhoegfaa.Sl

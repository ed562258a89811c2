/-
Of the row ValidDoes: printed walks and plain laws, merged (wip/claim2.py).
-/
import Derived.Test.YtgbmlkoblcfceaaQValidDoes0
import Derived.Shelf.SlSortCmp.NoneTotal
import Derived.Lib.SliceRun
import Derived.Lib.Bytealg
namespace Go.Proofs.Ytgbmlkoblcfceaa.Sl
open Go.RowKit Go.Proofs.YtgbmlkoblcfceaaW.PrintWords Go.Proofs.YtgbmlkoblcfceaaW.PrintLast Go.Proofs.YtgbmlkoblcfceaaW.PrintMore
set_option linter.unusedVariables false
set_option linter.unusedSimpArgs false
def idxI {α : Type} (p : α → Bool) (l : List α) : Int := match l.findIdx? p with
  | some i => (i : Int)
  | none => -1
theorem getD_in {α : Type} {l : List α} {i : Nat} (d : α) (h : i < l.length) : l.getD i d ∈ l := by
  rw [List.getD_eq_getElem?_getD, List.getElem?_eq_getElem h]
  exact List.getElem_mem h
theorem getD_at {α : Type} {l : List α} {i : Nat} (d : α) (h : i < l.length) : l.getD i d = l[i] := by
  rw [List.getD_eq_getElem?_getD, List.getElem?_eq_getElem h]
  rfl
theorem idxI_hit {α : Type} {p : α → Bool} {l : List α} {i : Nat} (d : α) (h : i < l.length) (hp : p (l.getD i d) = true) (hn : ∀ j, j < i → p (l.getD j d) = false) : idxI p l = i := by
  unfold idxI
  have : l.findIdx? p = some i := by
    rw [List.findIdx?_eq_some_iff_getElem]
    refine ⟨h, by rw [getD_at d h] at hp; exact hp, fun j hj => ?_⟩
    have := hn j hj
    rw [getD_at d (Nat.lt_trans hj h)] at this
    rw [this]
    exact Bool.false_ne_true
  rw [this]
theorem idxI_none {α : Type} {p : α → Bool} {l : List α} (d : α) (hn : ∀ j, j < l.length → p (l.getD j d) = false) : idxI p l = -1 := by
  unfold idxI
  have : l.findIdx? p = none := by
    rw [List.findIdx?_eq_none_iff]
    intro x hx
    obtain ⟨j, hj, rfl⟩ := List.mem_iff_getElem.1 hx
    have := hn j hj
    rwa [getD_at d hj] at this
  rw [this]
theorem idxI_nonneg {α : Type} (p : α → Bool) (l : List α) : decide (0 ≤ idxI p l) = l.any p := by
  unfold idxI
  cases h : l.findIdx? p with
  | none =>
    rw [List.findIdx?_eq_none_iff] at h
    have : l.any p = false := by rw [List.any_eq_false]; intro x hx; rw [h x hx]; exact Bool.false_ne_true
    rw [this]; rfl
  | some i =>
    rw [List.findIdx?_eq_some_iff_getElem] at h
    obtain ⟨hi, hp, _⟩ := h
    have : l.any p = true := List.any_eq_true.2 ⟨_, List.getElem_mem hi, hp⟩
    rw [this]; simp
def DInv {α : Type} (p : α → Bool) (l ys : List α) (i j : Nat) : Prop := ys.length = l.length ∧ i < j ∧ ys.take i = (l.take j).filter (fun x => !p x) ∧ ∀ t, j ≤ t → ys[t]? = l[t]?
theorem DInv.start {α : Type} {p : α → Bool} {l : List α} {i : Nat} (d : α) (h : i < l.length) (ht : p (l.getD i d) = true) (hn : ∀ j, j < i → p (l.getD j d) = false) : DInv p l l i (i + 1) := by
  refine ⟨rfl, Nat.lt_succ_self _, ?_, fun _ _ => rfl⟩
  rw [List.take_succ_eq_append_getElem h, List.filter_append]
  have h1 : (l.take i).filter (fun x => !p x) = l.take i := by
    rw [List.filter_eq_self]
    intro x hx
    obtain ⟨j, hj, rfl⟩ := List.mem_iff_getElem.1 hx
    rw [List.length_take] at hj
    have := hn j (by omega)
    rw [getD_at d (by omega)] at this
    rw [List.getElem_take, this]
    rfl
  rw [getD_at d h] at ht
  rw [h1, List.filter_cons, ht]
  simp
theorem DInv.skip {α : Type} {p : α → Bool} {l ys : List α} {i j : Nat} (h : DInv p l ys i j) (d : α) (hj : j < l.length) (hp : p (l.getD j d) = true) : DInv p l ys i (j + 1) := by
  obtain ⟨h1, h2, h3, h4⟩ := h
  refine ⟨h1, by omega, ?_, fun t ht => h4 t (by omega)⟩
  rw [getD_at d hj] at hp
  rw [List.take_succ_eq_append_getElem hj, List.filter_append, List.filter_cons, hp, h3]
  simp
theorem DInv.keep {α : Type} {p : α → Bool} {l ys : List α} {i j : Nat} (h : DInv p l ys i j) (d : α) (hj : j < l.length) (hp : p (l.getD j d) = false) : DInv p l (ys.set i (l.getD j d)) (i + 1) (j + 1) := by
  obtain ⟨h1, h2, h3, h4⟩ := h
  refine ⟨by rw [List.length_set]; exact h1, by omega, ?_, fun t ht => ?_⟩
  · have e := getD_at d hj
    rw [e] at hp ⊢
    have hi : i < (ys.set i l[j]).length := by rw [List.length_set]; omega
    rw [List.take_succ_eq_append_getElem hj, List.filter_append, List.filter_cons, hp, ← h3, List.take_succ_eq_append_getElem hi, List.getElem_set_self, List.take_set_of_le (Nat.le_refl _)]
    simp
  · rw [List.getElem?_set_ne (by omega)]
    exact h4 t (by omega)
theorem DInv.done {α : Type} {p : α → Bool} {l ys : List α} {i : Nat} (h : DInv p l ys i l.length) : ys.take i = l.filter (fun x => !p x) := by
  have := h.2.2.1
  rwa [List.take_length] at this
theorem R_tail {α : Type} {d : Kd α} {e : Nat} {w : World} {base : Nat} {ok : Nat → Prop} {g n c : Nat} {xs : List α} (h : d.R e w base ok (.slice (some ⟨g, 0, none⟩) n c) xs) (o : Nat) (ho : xs.length * d.sz ≤ o) (u : Value) : d.R e (w.setCell ⟨g, o, none⟩ u) base ok (.slice (some ⟨g, 0, none⟩) n c) xs := by
  obtain ⟨h0, inner, ⟨h1, h2⟩, hr⟩ := h
  refine ⟨h0, inner, ⟨h1, ?_⟩, hr.imp_ (fun _ _ hp => d.M_move (fun k hk => Below.heap_setCell w ⟨g, o, none⟩ u k (fun he => hk.2 (by rw [he]; rfl))) hp)⟩
  rcases h2 with ⟨hv, _⟩ | ⟨g', cap, cur, hv, hb, hh, h3, h4, h5, h6⟩
  · cases hv
  · injection hv with hv1 hv2 hv3
    injection hv1 with hv1
    injection hv1 with hv1
    subst hv1; subst hv3; subst hv2
    refine .inr ⟨g, c, cur.setIfInBounds o u, rfl, hb, blk_set hh o u, h3, h4, by rw [Array.size_setIfInBounds]; exact h5, ?_⟩
    rw [Array.toList_setIfInBounds, List.take_set_of_le ho]
    exact h6
theorem R_tails {α : Type} {d : Kd α} {e : Nat} {base : Nat} {ok : Nat → Prop} {g n c : Nat} {xs : List α} : ∀ (l : List Value) (o : Nat) {w : World}, d.R e w base ok (.slice (some ⟨g, 0, none⟩) n c) xs → xs.length * d.sz ≤ o → d.R e (w.setCells g o l) base ok (.slice (some ⟨g, 0, none⟩) n c) xs
  | [], _, _, h, _ => h
  | v :: r, o, _, h, ho => R_tails r (o + 1) (R_tail h o ho v) (by omega)
theorem zeros_one (zc : Array Value) (n : Nat) (h : ∀ v ∈ zc, v.oneCell' = true) : ∀ v ∈ (Builtin.zeroCells zc n).toList, v.oneCell' = true := by
  intro v hv
  rw [Array.mem_toList_iff] at hv
  unfold Builtin.zeroCells at hv
  obtain ⟨i, hi, rfl⟩ := Array.mem_map.1 hv
  rw [Array.mem_range] at hi
  have hs : 0 < zc.size := by
    rcases Nat.eq_zero_or_pos zc.size with h0 | h0
    · rw [h0] at hi; omega
    · exact h0
  rw [getElem!_pos zc (i % zc.size) (Nat.mod_lt _ hs)]
  exact h _ (Array.getElem_mem _)
theorem run_clear {P : Program} (w : World) (t e ty : TypeId) (z : Value) (ht : P.underlying t = some (.slice e)) (hv : ∀ w, (zeroValue e).run P w = .ok z w) (b o n c : Nat) (hn : 0 < n)
    (h1 : ∀ v ∈ (Builtin.zeroCells z.cells n).toList, v.oneCell' = true)
    (hc : ∀ j, j < (Builtin.zeroCells z.cells n).toList.length → (w.cell? ⟨b, o + j, none⟩).isSome = true) (hf : ∀ j, j < (Builtin.zeroCells z.cells n).toList.length → w.frozen? ⟨b, o + j, none⟩ = false) :
    (Builtin.clear_ #[t] ty #[.slice (some ⟨b, o, none⟩) n c]).run P w = .ok (.tuple #[]) (w.setCells b o (Builtin.zeroCells z.cells n).toList) := by
  have hst := run_storeCells_cells (P := P) b o (Builtin.zeroCells z.cells n).toList 0 w (by simpa using hc) (by simpa using hf) h1
  simp only [Nat.add_zero] at hst
  obtain ⟨m, rfl⟩ : ∃ m, n = m + 1 := ⟨n - 1, by omega⟩
  simp [Builtin.clear_, run_underlying ht, hv, hst]
theorem R_behind {α : Type} {d : Kd α} {e : Nat} {w : World} {base : Nat} {ok : Nat → Prop} {g n c : Nat} {xs : List α} (h : d.R e w base ok (.slice (some ⟨g, 0, none⟩) n c) xs) (o : Nat) (ho : o < n * d.sz) : (w.cell? ⟨g, o, none⟩).isSome = true ∧ w.frozen? ⟨g, o, none⟩ = false := by
  obtain ⟨h0, inner, ⟨h1, h2⟩, hr⟩ := h
  rcases h2 with ⟨hv, _⟩ | ⟨g', cap, cur, hv, hb, hh, h3, h4, h5, h6⟩
  · cases hv
  · injection hv with hv1 hv2 hv3
    injection hv1 with hv1
    injection hv1 with hv1
    subst hv1; subst hv2
    have : xs.length * d.sz ≤ cap * d.sz := Nat.mul_le_mul_right _ h3
    refine ⟨?_, blk_frozen hh o⟩
    rw [blk_cell hh, Array.getElem?_eq_getElem (by omega)]
    rfl
structure Flat {α : Type} (d : Kd α) (enc : α → List Value) : Prop where
  hE : d.E = []
  len : ∀ x, (enc x).length = d.sz
  hM : ∀ {w : World} {base : Nat} {ok : Nat → Prop} {x : α} {cs : List Value}, d.M w base ok x cs → cs = enc x
  made : ∀ (w : World) (base : Nat) (ok : Nat → Prop) (x : α), d.M w base ok x (enc x)
theorem flat_holds {α : Type} [Inhabited α] {d : Kd α} {enc : α → List Value} (F : Flat d enc) {e : Nat} {w : World} {base : Nat} {ok : Nat → Prop} {g n c : Nat} {xs : List α} (h : d.R e w base ok (.slice (some ⟨g, 0, none⟩) n c) xs) : Go.Sort.HoldsK enc d.sz w g 0 xs.toArray := by
  intro j hj
  rw [Go.Sort.size_flatK, List.size_toArray] at hj
  have hz : 0 < d.sz := by
    rcases Nat.eq_zero_or_pos d.sz with h0 | h0
    · rw [h0] at hj; omega
    · exact h0
  have hq : j / d.sz < xs.length := Nat.div_lt_of_lt_mul (by rw [Nat.mul_comm]; exact hj)
  have hn : n = xs.length := (Kd.R_reads' h).1
  obtain ⟨c', hcl, hM, hcc, hfr⟩ := Kd.R_elem h default ((j / d.sz : Nat) : Int) (Int.natCast_nonneg _) (by rw [hn]; exact Int.ofNat_lt.2 hq)
  rw [F.hM hM] at hcc
  rw [Int.toNat_natCast] at hcc hfr
  have hr : j % d.sz < d.sz := Nat.mod_lt _ hz
  have hj2 : j / d.sz * d.sz + j % d.sz = j := by rw [Nat.mul_comm]; exact Nat.div_add_mod j d.sz
  rw [Go.Sort.get_flatK _ _ _ _ (by rw [List.size_toArray]; exact hj), Nat.zero_add]
  have h1 := hcc (j % d.sz) ((enc (xs.getD (j / d.sz) default))[j % d.sz]!) (by rw [getElem!_pos (enc (xs.getD (j / d.sz) default)) (j % d.sz) (by rw [F.len]; exact hr)]; exact List.getElem?_eq_getElem _)
  have h2 := hfr (j % d.sz)
  rw [hj2] at h1 h2
  refine ⟨?_, h2⟩
  rw [h1]
  simp only [id]
  congr 3
  rw [getD_at _ hq, getElem!_pos xs.toArray (j / d.sz) (by rw [List.size_toArray]; exact hq)]
  simp
theorem reps_flat {α : Type} [Inhabited α] {d : Kd α} {enc : α → List Value} (F : Flat d enc) (w : World) (base : Nat) (ok : Nat → Prop) (xs : Array α) : Reps (d.M w base ok) d.sz xs.toList (Go.Sort.flatK enc d.sz xs).toList := by
  refine ⟨by rw [Array.length_toList, Go.Sort.size_flatK, Array.length_toList], fun j p hj => ?_⟩
  have hjl := (List.getElem?_eq_some_iff.1 hj).1
  rw [Array.length_toList] at hjl
  have hb : j * d.sz + d.sz ≤ xs.size * d.sz := by rw [← Nat.succ_mul]; exact Nat.mul_le_mul_right _ hjl
  have : ((Go.Sort.flatK enc d.sz xs).toList.drop (j * d.sz)).take d.sz = enc p := by
    apply List.ext_getElem
    · rw [List.length_take, List.length_drop, Array.length_toList, Go.Sort.size_flatK, F.len]; omega
    · intro r h1 h2
      have hr : r < d.sz := by rw [F.len] at h2; exact h2
      rw [List.getElem_take, List.getElem_drop, Array.getElem_toList]
      have h3 := Go.Sort.get_flatK enc d.sz xs (j * d.sz + r) (by omega)
      rw [getElem!_pos (Go.Sort.flatK enc d.sz xs) (j * d.sz + r) (by rw [Go.Sort.size_flatK]; omega)] at h3
      rw [h3]
      have e1 : (j * d.sz + r) / d.sz = j := (Go.Sort.blk_iff d.sz j _ (by omega)).1 ⟨by omega, by omega⟩
      have e2 : (j * d.sz + r) % d.sz = r := by rw [Nat.mod_eq_sub_div_mul, e1]; omega
      rw [e1, e2]
      have e3 : xs[j]! = p := by
        rw [getElem!_pos xs j hjl]
        have := (List.getElem?_eq_some_iff.1 hj).2
        rw [← this, Array.getElem_toList]
      rw [e3, getElem!_pos (enc p) r h2]
  rw [this]
  exact F.made w base ok p
theorem toList_put (F : Array Value) (c : Array Value) (h : F.size ≤ c.size) : (Go.Sort.putCells id 0 F c).toList.take F.size = F.toList := by
  apply List.ext_getElem
  · rw [List.length_take, Array.length_toList, Array.length_toList]
    unfold Go.Sort.putCells
    rw [Array.size_mapIdx]
    omega
  · intro i h1 h2
    rw [Array.length_toList] at h2
    rw [List.getElem_take, Array.getElem_toList, Array.getElem_toList]
    unfold Go.Sort.putCells
    rw [Array.getElem_mapIdx, if_pos ⟨Nat.zero_le _, by omega⟩, Nat.sub_zero, getElem!_pos F i h2]
    rfl
theorem heap_sorted {α : Type} [Inhabited α] (enc : α → List Value) (k : Nat) (w : World) (g m : Nat) (ys : Array α) (os : Array Obj) (hg : g < w.heap.size) {cur : Array Value} {e : Nat} (hh : w.heap[g]? = some (.cells cur e (0, 0))) :
    (Go.Proofs.sortWorldK enc k w g 0 m ys os).heap[g]? = some (.cells (Go.Sort.putCells id 0 (Go.Sort.flatK enc k ys) cur) e (0, 0)) := by
  unfold Go.Proofs.sortWorldK Go.Sort.putRowK Go.Sort.putRow
  rw [Go.Sort.heap_grow_old _ _ (by simp [Go.Sort.mapBlock, Go.Sort.ahead]; exact hg)]
  simp only [Go.Sort.mapBlock, Go.Sort.ahead, Array.getElem?_modify, hh]
  simp [Go.Sort.onCells]
theorem heap_unsorted {α : Type} [Inhabited α] (enc : α → List Value) (k : Nat) (w : World) (g m : Nat) (ys : Array α) (os : Array Obj) {i : Nat} (hi : i < w.heap.size) (hne : i ≠ g) : (Go.Proofs.sortWorldK enc k w g 0 m ys os).heap[i]? = w.heap[i]? := by
  unfold Go.Proofs.sortWorldK Go.Sort.putRowK Go.Sort.putRow
  rw [Go.Sort.heap_grow_old _ _ (by simp [Go.Sort.mapBlock, Go.Sort.ahead]; exact hi)]
  simp only [Go.Sort.mapBlock, Go.Sort.ahead, Array.getElem?_modify]
  rw [if_neg (fun h => hne h.symm)]
theorem size_sorted {α : Type} [Inhabited α] (enc : α → List Value) (k : Nat) (w : World) (g m : Nat) (ys : Array α) (os : Array Obj) : w.heap.size ≤ (Go.Proofs.sortWorldK enc k w g 0 m ys os).heap.size := by
  unfold Go.Proofs.sortWorldK Go.Sort.putRowK
  rw [Go.Sort.size_grow, Go.Sort.size_putRow]
  simp only [Go.Sort.heap_ahead]
  omega
theorem flat_sorted {α : Type} [Inhabited α] {d : Kd α} {enc : α → List Value} (F : Flat d enc) {e : Nat} {w : World} {base : Nat} {ok : Nat → Prop} {g n c : Nat} {xs : List α} (h : d.R e w base ok (.slice (some ⟨g, 0, none⟩) n c) xs) (ys : Array α) (hs : ys.size = xs.length) (m : Nat) (os : Array Obj) :
    d.R e (Go.Proofs.sortWorldK enc d.sz w g 0 m ys os) base ok (.slice (some ⟨g, 0, none⟩) n c) ys.toList := by
  have hl : g < w.heap.size := Kd.R_lt h g rfl
  obtain ⟨h0, inner, ⟨h1, h2⟩, hr⟩ := h
  have hyl : ys.toList.length = xs.length := by rw [Array.length_toList]; exact hs
  refine ⟨h0, (Go.Sort.flatK enc d.sz ys).toList, ⟨by rw [Array.length_toList, Go.Sort.size_flatK, Array.length_toList], ?_⟩, reps_flat F _ _ _ _⟩
  rcases h2 with ⟨hv, _⟩ | ⟨g', cap, cur, hv, hb, hh, h3, h4, h5, h6⟩
  · cases hv
  · injection hv with hv1 hv2 hv3
    injection hv1 with hv1
    injection hv1 with hv1
    subst hv1; subst hv3; subst hv2
    have hcs : ys.size * d.sz ≤ cur.size := by rw [h5, hs]; exact Nat.mul_le_mul_right _ h3
    refine .inr ⟨g, c, _, by rw [hyl], hb, heap_sorted enc d.sz w g m ys os hl hh, by rw [hyl]; exact h3, h4, ?_, ?_⟩
    · unfold Go.Sort.putCells
      rw [Array.size_mapIdx]
      exact h5
    · rw [hyl, ← hs, ← Go.Sort.size_flatK enc d.sz ys]
      exact toList_put _ _ (by rw [Go.Sort.size_flatK]; exact hcs)
theorem below_sorted {α : Type} [Inhabited α] (enc : α → List Value) (k : Nat) {w0 w : World} {g B : Nat} (hB : Below B w0 w) (hg : B ≤ g) (hBs : B ≤ w.heap.size) (m : Nat) (ys : Array α) (os : Array Obj) : Below B w0 (Go.Proofs.sortWorldK enc k w g 0 m ys os) :=
  ⟨hB.os, hB.tape, hB.output, Nat.le_trans hB.size (size_sorted _ _ _ _ _ _ _), fun i hi => (heap_unsorted enc k w g m ys os (by omega) (by omega)).trans (hB.block i hi)⟩
end Go.Proofs.Ytgbmlkoblcfceaa.Sl

/-
Of the row VersionOwn: printed walks and plain laws, merged (wip/claim2.py).
-/
import Derived.Test.YtpakolohhoegfaaRows
import Derived.Test.YtpakolohhoegfaaQVersionOwn0
import Derived.SizedLaws
import Derived.ChangeSame
import Derived.WideShapes
import Derived.Deep.Slices
namespace Go.Proofs.Ytpakolohhoegfaa.Opn
open Go.Proofs.YtpakolohhoegfaaW.PrintWords Go.ChangeShapes Go.WideShapes
set_option linter.unusedVariables false

structure Opn (P : Program) (t : TypeId) {α : Type} (d : Kd α) (ok : α → Prop) (bulk : α → Nat) : Prop where
  sz : P.cellsOf t = d.sz
  op : ∀ {H : Type} {enc : TypeId × Value → H} {w : World} {fuel : Nat} {cs : List Value} {D : DataW H} {ps : List MemPlace}, DataW.trod enc P w 0 (fun _ => true) true fuel t cs = some (D, ps) →
    (∀ n ∈ DataW.weights P t D, n ≤ reachBytes) → ∃ x : α, d.K w x cs ∧ ok x ∧ bulk x ≤ Rows.uptoBulk D

theorem Opn.mono {P : Program} {t : TypeId} {α : Type} {d : Kd α} {ok ok' : α → Prop} {bulk bulk' : α → Nat} (h : Opn P t d ok bulk) (h1 : ∀ x, ok x → ok' x) (h2 : ∀ x, bulk' x ≤ bulk x) : Opn P t d ok' bulk' :=
  ⟨h.sz, fun hf hw => by
    obtain ⟨x, a, b, c⟩ := h.op hf hw
    exact ⟨x, a, h1 x b, Nat.le_trans (h2 x) c⟩⟩

theorem opn_int {P : Program} {t : TypeId} {k : IntKind} (hu : P.underlying t = some (.int k)) (hc : P.cellsOf t = 1) : Opn P t (Kd.int k) (fun x => (Lit.int k x).wf = true) (fun _ => 1) :=
  ⟨hc, fun {H enc w fuel cs D ps} hf _ => by
    cases fuel with
    | zero => simp [DataW.trod] at hf
    | succ n =>
      unfold DataW.trod at hf
      rw [hu] at hf
      split at hf <;> simp_all
      obtain ⟨⟨_, h2⟩, rfl, rfl⟩ := hf
      exact ⟨_, rfl, h2, by simp [Rows.uptoBulk]⟩⟩

theorem opn_bool {P : Program} {t : TypeId} (hu : P.underlying t = some .bool) (hc : P.cellsOf t = 1) : Opn P t Kd.bool (fun _ => True) (fun _ => 1) :=
  ⟨hc, fun {H enc w fuel cs D ps} hf _ => by
    cases fuel with
    | zero => simp [DataW.trod] at hf
    | succ n =>
      unfold DataW.trod at hf
      rw [hu] at hf
      split at hf <;> simp_all
      obtain ⟨rfl, rfl⟩ := hf
      refine ⟨?_, by simp [Rows.uptoBulk]⟩
      first | (rename_i b _; cases b <;> first | exact .inl rfl | exact .inr rfl)⟩

theorem opn_string {P : Program} {t : TypeId} (hu : P.underlying t = some .string) (hc : P.cellsOf t = 1) : Opn P t Kd.string (fun s => s.size ≤ 140737488351232) (fun s => s.size + 1) :=
  ⟨hc, fun {H enc w fuel cs D ps} hf hw => by
    cases fuel with
    | zero => simp [DataW.trod] at hf
    | succ n =>
      unfold DataW.trod at hf
      rw [hu] at hf
      split at hf <;> simp_all
      obtain ⟨h1, rfl, rfl⟩ := hf
      rename_i s
      have hl : s.data.toList.length = s.size := by rw [Array.length_toList]; rfl
      have := hw s.data.toList.length (by simp [DataW.weights])
      rw [hl] at this
      exact ⟨s, rfl, this, by simp only [Rows.uptoBulk]; omega⟩⟩

theorem bulk_all {H : Type} {α : Type} (bulk : α → Nat) : ∀ (l : List α) (D : List (DataW H)), l.length = D.length → (∀ i (h : i < l.length) (h' : i < D.length), bulk l[i] ≤ Rows.uptoBulk D[i]) → (l.map bulk).sum ≤ Rows.uptoBulkAll D
  | [], [], _, _ => by simp [Rows.uptoBulkAll]
  | a :: l, d :: D, hl, h => by
    have h0 := h 0 (by simp) (by simp)
    have ih := bulk_all bulk l D (by simpa using hl) (fun i h1 h2 => h (i + 1) (by simp; omega) (by simp; omega))
    simp only [List.map_cons, List.sum_cons, Rows.uptoBulkAll]
    simp only [List.getElem_cons_zero] at h0
    omega
  | [], _ :: _, hl, _ => by simp at hl
  | _ :: _, [], hl, _ => by simp at hl

theorem weights_all {H : Type} {P : Program} {e : TypeId} {d : DataW H} : ∀ {l : List (DataW H)}, d ∈ l → ∀ n ∈ DataW.weights P e d, n ∈ DataW.weightsAll P e l
  | x :: l, hd, n, hn => by
    simp only [DataW.weightsAll, List.mem_append]
    cases List.mem_cons.1 hd with
    | inl e => subst e; exact .inl hn
    | inr e => exact .inr (weights_all e n hn)

theorem list_of {α : Type} {p : Nat → α → Prop} : ∀ (n : Nat), (∀ i, i < n → ∃ x, p i x) → ∃ l : List α, l.length = n ∧ ∀ i x, l[i]? = some x → p i x
  | 0, _ => ⟨[], rfl, fun i x h => by simp at h⟩
  | n + 1, h => by
    obtain ⟨l, hl, hp⟩ := list_of n (fun i hi => h i (by omega))
    obtain ⟨x, hx⟩ := h n (by omega)
    refine ⟨l ++ [x], by simp [hl], fun i y hy => ?_⟩
    by_cases hi : i < n
    · rw [List.getElem?_append_left (by omega)] at hy
      exact hp i y hy
    · rw [List.getElem?_append_right (by omega)] at hy
      by_cases hi2 : i = n
      · subst hi2
        simp [hl] at hy
        subst hy
        exact hx
      · rw [List.getElem?_eq_none (by simp; omega)] at hy
        cases hy

theorem opn_slice {P : Program} {t e : TypeId} {α : Type} {d : Kd α} {ok : α → Prop} {bulk : α → Nat} {B : Nat} (h : Opn P e d ok bulk) (hu : P.underlying t = some (.slice e)) (hc : P.cellsOf t = 1) (hB : P.bytesOf e = B) :
    Opn P t (Kd.slice e d) (fun l => l.length ≤ maxLen ∧ l.length * B ≤ 140737488351232 ∧ ∀ x ∈ l, ok x) (fun l => (l.map bulk).sum + 1) :=
  ⟨hc, fun {H enc w fuel cs D ps} hf hw => by
    rcases Deep.open_slice hu hf with ⟨rfl, hx⟩ | ⟨a, len, cap, m, n, E, Pl, rfl, hb, hl, hm, hmm, hx, hel⟩
    · simp only [Prod.mk.injEq] at hx
      obtain ⟨rfl, rfl⟩ := hx
      exact ⟨[], ⟨none, 0, rfl, by simp, rfl, by simp, fun h => absurd h (by simp)⟩, ⟨by simp, by simp, by simp⟩, by simp [Rows.uptoBulk]⟩
    · simp only [Prod.mk.injEq] at hx
      obtain ⟨rfl, rfl⟩ := hx
      have hm1 : m = cap := by rw [hmm]; rfl
      subst hm1
      have hW := hw
      simp only [DataW.weights, hu] at hw
      have hsize : (len + (m - len)) * P.bytesOf e ≤ reachBytes := by
        have := hw _ (List.mem_cons_self ..)
        rw [List.length_map, List.length_range, List.length_map, List.length_range] at this
        exact this
      have hea : ∀ i, i < len → E i ∈ (List.range len).map E := fun i hi => List.mem_map.2 ⟨i, by simpa using hi, rfl⟩
      obtain ⟨l, hll, hp⟩ := list_of (α := α) (p := fun i x => (∃ c, d.K w x c ∧ ∀ j u, c[j]? = some u → w.cell? (a.add (i * d.sz + j)) = some u) ∧ ok x ∧ bulk x ≤ Rows.uptoBulk (E i)) len (fun i hi => by
        obtain ⟨c, hc1, hc2⟩ := hel i (by omega)
        obtain ⟨x, hk, hok, hbk⟩ := h.op hc2 (fun n hn => hw n (List.mem_cons_of_mem _ (List.mem_append_left _ (weights_all (hea i hi) n hn))))
        obtain ⟨_, hlen, hcell⟩ := World.cells?_some hc1
        refine ⟨x, ⟨c, hk, fun j u hj => ?_⟩, hok, hbk⟩
        have hj' : j < c.length := (List.getElem?_eq_some_iff.1 hj).1
        have h3 := hcell j (by omega)
        rw [h.sz, hj] at h3
        rw [Deep.add_add] at h3
        exact h3)
      refine ⟨l, ⟨some a, m, by rw [hll], by omega, rfl, by rw [hll]; exact Nat.le_trans (by omega) hm, fun h0 => ⟨a, rfl, fun j p hj => ?_⟩⟩, ⟨by rw [hll]; omega, ?_, ?_⟩, ?_⟩
      · obtain ⟨⟨c, hk, hcc⟩, _⟩ := hp j p hj
        exact ⟨c, d.K_len hk, hk, hcc⟩
      · rw [hll, ← hB]
        have h5 : len * P.bytesOf e ≤ (len + (m - len)) * P.bytesOf e := Nat.mul_le_mul_right _ (by omega)
        have h6 : reachBytes = 140737488351232 := by decide
        omega
      · intro x hx
        obtain ⟨i, hi, rfl⟩ := List.getElem_of_mem hx
        exact (hp i _ (List.getElem?_eq_getElem hi)).2.1
      · simp only [Rows.uptoBulk]
        have := bulk_all bulk l ((List.range len).map E) (by simp [hll]) (fun i h1 h2 => by
          have := (hp i _ (List.getElem?_eq_getElem h1)).2.2
          simpa using this)
        omega⟩

structure OpnF (P : Program) (fs : List Field) (off : Nat) {α : Type} (d : Kd α) (ok : α → Prop) (bulk : α → Nat) : Prop where
  op : ∀ {H : Type} {enc : TypeId × Value → H} {w : World} {fuel : Nat} {cs : List Value} {xs : List (DataW H × List MemPlace)}, cs.length = off + d.sz → xs.length = fs.length →
    (∀ (i : Nat) (f : Field), fs[i]? = some f → (DataW.trod enc P w 0 (fun _ => true) true fuel f.type ((cs.drop f.offset).take (P.cellsOf f.type))) = xs[i]?) →
    (∀ n ∈ DataW.weightsEach P (fs.map (·.type)) (xs.map (·.1)), n ≤ reachBytes) → ∃ x : α, d.K w x (cs.drop off) ∧ ok x ∧ bulk x ≤ Rows.uptoBulkAll (xs.map (·.1))

theorem opnF_last {P : Program} {f : Field} {off : Nat} {α : Type} {d : Kd α} {ok : α → Prop} {bulk : α → Nat} (h : Opn P f.type d ok bulk) (ho : f.offset = off) : OpnF P [f] off d ok bulk := by
  constructor
  intro H enc w fuel cs xs hl hx hf hw
  match xs, hx with
  | [(D, ps)], _ =>
    have h0 := hf 0 f rfl
    simp only [List.getElem?_cons_zero] at h0
    rw [ho, h.sz, List.take_of_length_le (by simp; omega)] at h0
    obtain ⟨x, hk, hok, hb⟩ := h.op h0 (fun n hn => hw n (by simpa [DataW.weightsEach] using hn))
    exact ⟨x, hk, hok, by simp only [List.map_cons, List.map_nil, Rows.uptoBulkAll]; omega⟩

theorem opnF_cons {P : Program} {f : Field} {fs : List Field} {off : Nat} {α β : Type} {a : Kd α} {b : Kd β} {oka : α → Prop} {ba : α → Nat} {okb : β → Prop} {bb : β → Nat} (h : Opn P f.type a oka ba) (ho : f.offset = off)
    (hr : OpnF P fs (off + a.sz) b okb bb) : OpnF P (f :: fs) off (Kd.pair a b) (fun x => oka x.1 ∧ okb x.2) (fun x => ba x.1 + bb x.2) := by
  constructor
  intro H enc w fuel cs xs hl hx hf hw
  match xs, hx with
  | (D, ps) :: xs, hx =>
    have hl' : cs.length = off + (a.sz + b.sz) := hl
    have h0 := hf 0 f rfl
    simp only [List.getElem?_cons_zero] at h0
    rw [ho, h.sz] at h0
    obtain ⟨x, hk, hok, hb⟩ := h.op h0 (fun n hn => hw n (by simp only [List.map_cons, DataW.weightsEach, List.mem_append]; exact .inl hn))
    obtain ⟨y, hk2, hok2, hb2⟩ := hr.op (H := H) (enc := enc) (w := w) (fuel := fuel) (cs := cs) (xs := xs) (by omega) (by simpa using hx) (fun i g hg => by simpa using hf (i + 1) g (by simpa using hg))
      (fun n hn => hw n (by simp only [List.map_cons, DataW.weightsEach, List.mem_append]; exact .inr hn))
    refine ⟨(x, y), ⟨(cs.drop off).take a.sz, cs.drop (off + a.sz), ?_, hk, hk2⟩, ⟨hok, hok2⟩, by simp only [List.map_cons, Rows.uptoBulkAll]; omega⟩
    rw [← List.drop_drop, List.take_append_drop]

theorem opn_struct {P : Program} {t : TypeId} {fs : Array Field} {α β : Type} {d : Kd α} {ok : α → Prop} {bulk : α → Nat} (hu : P.underlying t = some (.struct fs)) {l : List Field} (hl : fs.toList = l) (h : OpnF P l 0 d ok bulk) (hc : P.cellsOf t = d.sz) (f : β → α) (g : α → β) (hfg : ∀ p, f (g p) = p) :
    Opn P t (Kd.iso d f) (fun x => ok (f x)) (fun x => bulk (f x) + 1) :=
  ⟨hc, fun {H enc w fuel cs D ps} hf hw => by
    subst hl
    obtain ⟨xs, n, _, hx, hl, hlen, hi⟩ := DataW.trod_struct hu hf
    simp only [Prod.mk.injEq] at hx
    obtain ⟨rfl, rfl⟩ := hx
    simp only [DataW.weights, hu] at hw
    obtain ⟨x, hk, hok, hb⟩ := h.op (H := H) (enc := enc) (w := w) (fuel := n) (cs := cs) (xs := xs) (by omega) (by simpa using hlen) (fun i f hf => by simpa using hi i f (by simpa using hf)) hw
    refine ⟨g x, ?_, by rw [hfg]; exact hok, by rw [hfg]; simp only [Rows.uptoBulk]; omega⟩
    show d.K w (f (g x)) cs
    rw [hfg]
    simpa using hk⟩

theorem weigh {H : Type} {P : Program} {ts : List TypeId} {ds : List (DataW H)} (h : (DataW.weightsEach P ts ds).all (· ≤ reachBytes) = true) {j : Nat} {t : TypeId} {d : DataW H} (ht : ts[j]? = some t) (hd : ds[j]? = some d) : ∀ n ∈ DataW.weights P t d, n ≤ reachBytes := fun n hn => by
  have := List.all_eq_true.1 h _ (DataW.weights_mem_each ht hd n hn)
  simpa using this
theorem trod_lt {H : Type} {enc : TypeId × Value → H} {P : Program} {W : World} {t : TypeId} {v : Value} {d : DataW H} {p : List MemPlace} (h : DataW.Trod enc P W 0 (fun _ => true) true t v d p) : ∀ x ∈ p, x.block < W.heap.size := by
  obtain ⟨m, hm⟩ := h
  exact DataW.trod_lt m _ _ _ hm
theorem arg_slice {H : Type} {enc : TypeId × Value → H} {P : Program} {W : World} {b0 : Nat} {r : Reach} {t e : TypeId} {v : Value} {D : DataW H} {ps : List MemPlace} {α : Type} {d : Kd α} {ok : List α → Prop} {bulk : List α → Nat} (h : Opn P t (Kd.slice e d) ok bulk) (hu : P.underlying t = some (.slice e))
    (hv : Value.okWide P W r b0 t v) (hf : DataW.Trod enc P W 0 (fun _ => true) true t v D ps) (hw : ∀ n ∈ DataW.weights P t D, n ≤ reachBytes) :
    ∃ A c l, v = .slice A (List.length l) c ∧ l.length ≤ c ∧ d.C W A l.length l ∧ ok l ∧ bulk l ≤ Rows.uptoBulk D := by
  obtain ⟨a, len, cap, rfl⟩ := okWide_slice hu hv
  obtain ⟨fuel, hf⟩ := hf
  obtain ⟨l, ⟨A, c, he, hl, hC⟩, hok, hb⟩ := h.op hf hw
  have he' : Value.slice a len cap = .slice A l.length c := by simpa [Value.cells] using he
  exact ⟨A, c, l, he', hl, hC, hok, hb⟩
theorem arg_struct {H : Type} {enc : TypeId × Value → H} {P : Program} {W : World} {b0 : Nat} {r : Reach} {t : TypeId} {fs : Array Field} {v : Value} {D : DataW H} {ps : List MemPlace} {α : Type} {d : Kd α} {ok : α → Prop} {bulk : α → Nat} (h : Opn P t d ok bulk) (hu : P.underlying t = some (.struct fs))
    (hv : Value.okWide P W r b0 t v) (hf : DataW.Trod enc P W 0 (fun _ => true) true t v D ps) (hw : ∀ n ∈ DataW.weights P t D, n ≤ reachBytes) :
    ∃ cs x, v = .agg cs ∧ d.K W x cs.toList ∧ ok x ∧ bulk x ≤ Rows.uptoBulk D := by
  obtain ⟨cs, rfl, _⟩ := okWide_struct hu hv
  obtain ⟨fuel, hf⟩ := hf
  obtain ⟨x, hk, hok, hb⟩ := h.op hf hw
  exact ⟨cs, x, rfl, by simpa [Value.cells] using hk, hok, hb⟩
theorem upto {H : Type} {l : List (DataW H)} (hk : Rows.uptoSmall H l = true) : Rows.uptoBulkAll l ≤ 1048576 := of_decide_eq_true hk
end Go.Proofs.Ytpakolohhoegfaa.Opn

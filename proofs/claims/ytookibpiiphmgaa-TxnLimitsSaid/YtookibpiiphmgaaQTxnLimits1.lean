/-
Of the row TxnLimits: printed walks and plain laws, merged (wip/claim2.py).
-/
import Derived.Test.YtookibpiiphmgaaRows
import Derived.Test.YtookibpiiphmgaaQTxnLimits0
import Derived.SizedLaws
import Derived.ChangeSame
import Derived.WideShapes
import Derived.Deep.Slices
namespace Go.Proofs.Ytookibpiiphmgaa.Opn
open Go.Proofs.YtookibpiiphmgaaW.PrintWords Go.ChangeShapes Go.WideShapes
set_option linter.unusedVariables false

structure Opn (P : Program) (t : TypeId) {α : Type} (d : Kd α) (ok : α → Prop) (bulk : α → Nat) : Prop where
  sz : P.cellsOf t = d.sz
  op : ∀ {H : Type} {enc : TypeId × Value → H} {w : World} {fuel : Nat} {cs : List Value} {D : DataW H} {ps : List MemPlace}, DataW.trod enc P w 0 (fun _ => true) true fuel t cs = some (D, ps) →
    (∀ n ∈ DataW.weights P t D, n ≤ reachBytes) → ∃ x : α, d.K w x cs ∧ ok x ∧ bulk x ≤ Rows.uptoBulk D

theorem Opn.mono {P : Program} {t : TypeId} {α : Type} {d : Kd α} {ok ok' : α → Prop} {bulk bulk' : α → Nat} (h : Opn P t d ok bulk) (h1 : ∀ x, ok x → ok' x) (h2 : ∀ x, bulk' x ≤ bulk x) : Opn P t d ok' bulk' :=
  ⟨h.sz, fun hf hw => by
    obtain ⟨x, a, b, c⟩ := h.op hf hw
    exact ⟨x, a, h1 x b, Nat.le_trans (h2 x) c⟩⟩

theorem trod_lt {H : Type} {enc : TypeId × Value → H} {P : Program} {W : World} {t : TypeId} {v : Value} {d : DataW H} {p : List MemPlace} (h : DataW.Trod enc P W 0 (fun _ => true) true t v d p) : ∀ x ∈ p, x.block < W.heap.size := by
  obtain ⟨m, hm⟩ := h
  exact DataW.trod_lt m _ _ _ hm
theorem upto {H : Type} {l : List (DataW H)} (hk : Rows.uptoSmall H l = true) : Rows.uptoBulkAll l ≤ 1048576 := of_decide_eq_true hk
end Go.Proofs.Ytookibpiiphmgaa.Opn

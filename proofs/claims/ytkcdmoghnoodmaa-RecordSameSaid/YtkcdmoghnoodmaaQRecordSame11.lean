/-
Of the row RecordSame: printed walks and plain laws, merged (wip/claim2.py).
-/
import Derived.Test.YtkcdmoghnoodmaaQRecordSame2
import Derived.Test.YtkcdmoghnoodmaaQRecordSame10
set_option linter.unusedVariables false
set_option linter.unusedSimpArgs false
namespace Go.Proofs.YtkcdmoghnoodmaaW.Hp
open Go.RowKit Go.Proofs.YtkcdmoghnoodmaaW.PrintWords Go.Proofs.YtkcdmoghnoodmaaW.PrintMore
open Asn

section
variable {w0 w w' W : World} {L L' : List (Nat × Asn)} {i j m p q : Nat} {A B A' : Asn}
section
variable {P : Program} {ops : Array Oper} {rest : List Oper} {o : Oper} {a : Act} {Q : Exit → Act → World → Prop} {α : Type} {Kc : Act → World → Prop}
theorem Hp.at_append_rows (d : Kd α) (H : Hp w0 W L) (p : Nat) (hgd : o.guard = none) (s x : Operand) (t e : TypeId) (z : Value) (bytes : Nat)
    (ho : o.op = .call { callee := .builtin .append, args := #[s, x], argTypes := #[t, t] })
    (ht : P.underlying t = some (.slice e)) (hinfo : (P.info? e).map (fun i => (i.zero, i.size, i.bytes)) = some (some z, d.sz, bytes)) (hz : z.cells.size = d.sz) (hs0 : 0 < d.sz) (hb0 : 0 < bytes)
    (v : Value) (xs ys : List α) (A : Option Addr) (n c : Nat) (hi : L[p]? = some (i, row d e v xs)) (hn : lone i L p = true) (hs : a.eval s = v) (hx : a.eval x = .slice A n c) (HR : d.C W A n ys) (hKM : ∀ x cs, d.K W x cs → d.M W 0 (fun _ => False) x cs) (hl : (xs.length + n) * bytes ≤ 140737488355328)
    (h : ∀ v1 w1, Hp w0 w1 (L.set p (i, row d e v1 (xs ++ ys))) → wpList P ops Q rest (a.put o.dst v1) w1) : wpList P ops Q (o :: rest) a W := by
  obtain ⟨lab, hall⟩ := H.all
  exact Kd.R_append_rows d (w0 := w0) 0 hgd s x t e z bytes ho ht hinfo hz hs0 hb0 v xs ys A n c (fun k => lab k = i ∨ W.heap.size ≤ k) (fun _ => False) hs hx (Kd.R_mono (hall.get hi) (fun _ hk => .inl hk)) HR hKM (fun _ hk => hk.elim) (fun _ hk => .inr hk) H.old0 (Nat.zero_le _) hl
    (fun v1 w1 hR hb hg _ => h v1 w1 (H.append_of hall p hi hn hR hb hg))
end
section
variable {α : Type} {d : Kd α} {e : Nat} {v : Value} {xs : List α}
theorem Hp.made (H : Hp w0 w L) (m : Nat) (hb : Below w.heap.size w w') (hR : d.R e w' w.heap.size (fun _ => True) v xs) : Hp w0 w' (L ++ [(m, row d e v xs)]) :=
  H.new m hb (Kd.R_lower (Kd.R_mono (Kd.R_bound hR) (fun _ hk => hk.2.1)) (Nat.zero_le _))
theorem Hp.came {A : Option Addr} {n : Nat} (hd : Kd.Heap d) (H : Hp w0 w L) (p : Nat) (hi : L[p]? = some (i, old w0 (fun _ => False))) (h : d.C w0 A n xs) : Hp w0 w (L ++ [(i, rd d A n xs)]) := H.read p hi (Kd.F_mono (Kd.C_F hd h) (fun _ _ => id))
theorem Hp.row_C {A : Option Addr} {n c : Nat} (H : Hp w0 w L) (p : Nat) (hi : L[p]? = some (i, row d e (.slice A n c) xs)) : n = xs.length ∧ n ≤ c ∧ d.C w A xs.length xs := H.fact p hi (fun _ h => Kd.R_reads' h)
end
end
end Go.Proofs.YtkcdmoghnoodmaaW.Hp

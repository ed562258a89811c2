/-
Of the row RecordParts: printed walks and plain laws, merged (wip/claim2.py).
-/
import Derived.Test.YtkcdmoghnoodmaaQRecordParts9
import Derived.Maps.OwnSet
import Derived.Sort.KeysCollected
set_option linter.unusedVariables false
set_option linter.unusedSimpArgs false
namespace Go.Proofs.YtkcdmoghnoodmaaW.Hp
open Go.RowKit Go.Proofs.YtkcdmoghnoodmaaW.PrintWords Go.Proofs.YtkcdmoghnoodmaaW.PrintMore Go.Maps

structure Ky (κ : Type) where
  lit : κ → Lit
  lt : κ → κ → Bool
  before : ∀ a b, (lit a).before (lit b) = lt a b
  same : ∀ a b, (lit a).sameKey (lit b) = true ↔ a = b
  total : ∀ a b, a ≠ b → lt a b = true ∨ lt b a = true
namespace Ky

variable {κ α : Type} (K : Ky κ)
theorem trans {a b c : κ} (h : K.lt a b = true) (k : K.lt b c = true) : K.lt a c = true := by
  rw [← K.before] at *
  exact WideShapes.before_trans h k
def get (k : κ) (l : List (κ × α)) : Option α := (l.find? fun p => (K.lit p.1).sameKey (K.lit k)).map (·.2)
def Srt (l : List (κ × α)) : Prop := l.Pairwise fun p q => K.lt p.1 q.1 = true
def D (enc : α → Value) (l : List (κ × α)) : DataW Value := .map (l.map fun p => (K.lit p.1, .held (enc p.2)))
variable {enc : α → Value} {l : List (κ × α)} {k : κ} {x z : α}
end Ky
theorem toList_inj {a b : ByteArray} (h : a.data.toList = b.data.toList) : a = b := ByteArray.ext (Array.toList_inj.1 h)
def rawR (v : Value) : Option (DataW Value × List MemPlace) := some (.held v, [])
def Asn.map {κ α : Type} (K : Ky κ) (P : Program) (kt : TypeId) (enc : α → Value) (b : Nat) (l : List (κ × α)) : Asn :=
  ⟨fun w ok => (K.Srt l ∧ ∃ n, w.ownsMap P kt rawR b n (K.D enc l)) ∧ ok b,
   fun {w w' ok} h hm _ => ⟨⟨h.1.1, let ⟨n, es, c, hb, r⟩ := h.1.2; ⟨n, es, c, (hm _ h.2 (blk_lt hb)).trans hb, r⟩⟩, h.2⟩,
   fun {w ok ok'} h hs => ⟨h.1, hs _ (let ⟨n, o⟩ := h.1.2; o.lt) h.2⟩⟩
end Go.Proofs.YtkcdmoghnoodmaaW.Hp

/-
Of the row ValidOwn: printed walks and plain laws, merged (wip/claim2.py).
-/
import Derived.Test.YtgbmlkoblcfceaaQValidOwn3
import Derived.Test.YtgbmlkoblcfceaaQValidOwn4
import Derived.Test.YtgbmlkoblcfceaaQValidOwn5
import Derived.Test.YtgbmlkoblcfceaaQValidOwn11
import Derived.Test.YtgbmlkoblcfceaaQValidOwn21
set_option linter.unusedVariables false
set_option linter.unusedSimpArgs false
namespace Go.Proofs.Ytgbmlkoblcfceaa.Ky
open Go.RowKit Go.Proofs.Ytgbmlkoblcfceaa.B Go.Proofs.YtgbmlkoblcfceaaW.PrintWords Go.Proofs.YtgbmlkoblcfceaaW.PrintLast Go.Proofs.Ytgbmlkoblcfceaa.Vd
theorem wrS {i : Nat} (h : i < 9223372036854775807) : wrap64 ((i : Int) + 1) = ((i + 1 : Nat) : Int) := by unfold wrap64; omega
theorem l1_put (l out : List ByteArray) (i : Nat) (hi : i < l.length) (ho : out.length ≤ i) (hb : l.length < 8796093022208) (hnot : ¬ out[pl out l[i]]? = some l[i]) (k : Nat) :
    cressetref23_Keys.l1 (k + 1) l out (i : Int) (pl out l[i] : Nat) = cressetref23_Keys.l0 k l (insS out l[i]) ((i + 1 : Nat) : Int) := by
  have hp := pl_le out l[i]
  have e1 : rdOf ByteArray.empty l (i : Int) = l[i] := Vd.rdOf_getElem hi
  have e2 : insS out l[i] = out.take (pl out l[i]) ++ [l[i]] ++ out.drop (pl out l[i]) := by unfold insS; rw [if_neg hnot]
  have n1 : (out.take (pl out l[i])).length ≤ i := by rw [List.length_take]; omega
  have n2 : (out.drop (pl out l[i])).length ≤ i := by rw [List.length_drop]; omega
  have n3 : (out.take (pl out l[i])).length + (out.drop (pl out l[i])).length = out.length := by rw [List.length_take, List.length_drop]; omega
  simp only [cressetref23_Keys.l1, Option.bind_some, List.nil_append, List.length_nil, Nat.zero_add, Int.toNat_natCast, e1, List.length_append, List.length_singleton]
  rw [e2]
  by_cases hlt : pl out l[i] < out.length
  · have e3 : rdOf ByteArray.empty out ((pl out l[i] : Nat) : Int) = out[pl out l[i]] := Vd.rdOf_getElem hlt
    have hnb := pl_next hlt
    rw [if_pos (by omega), if_pos (by omega), if_pos (by omega), if_pos (by omega), e3, if_neg (by rw [show Op.bytesLess out[pl out l[i]].toList l[i].toList = false from hnb]; decide), if_neg (fun e => hnot (by rw [List.getElem?_eq_getElem hlt, inj_toList e])), if_pos (by omega), if_pos (by omega), if_pos (by omega), if_pos (by omega), wrS (by omega)]
  · rw [if_neg (by omega), if_pos (by omega), if_pos (by omega), if_pos (by omega), if_pos (by omega), if_pos (by omega), if_pos (by omega), if_pos (by omega), wrS (by omega)]
theorem l1_skip (l out : List ByteArray) (i : Nat) (hi : i < l.length) (hb : l.length < 8796093022208) (hyes : out[pl out l[i]]? = some l[i]) (k : Nat) :
    cressetref23_Keys.l1 (k + 1) l out (i : Int) (pl out l[i] : Nat) = cressetref23_Keys.l0 k l (insS out l[i]) ((i + 1 : Nat) : Int) := by
  have hlt : pl out l[i] < out.length := (List.getElem?_eq_some_iff.1 hyes).1
  have he : out[pl out l[i]] = l[i] := (List.getElem?_eq_some_iff.1 hyes).2
  have e1 : rdOf ByteArray.empty l (i : Int) = l[i] := Vd.rdOf_getElem hi
  have e3 : rdOf ByteArray.empty out ((pl out l[i] : Nat) : Int) = l[i] := (Vd.rdOf_getElem hlt).trans he
  have e2 : insS out l[i] = out := by unfold insS; rw [if_pos hyes]
  simp only [cressetref23_Keys.l1]
  rw [if_pos (by omega), if_pos (by omega), if_pos (by omega), if_pos (by omega), e1, e3, if_neg (by rw [show Op.bytesLess l[i].toList l[i].toList = false from bl_irrefl _]; decide), if_pos rfl, wrS (by omega), e2]
theorem l1_next (l out : List ByteArray) (i j : Nat) (hi : i < l.length) (ho : out.length ≤ i) (hb : l.length < 8796093022208) (hj : j < pl out l[i]) (k : Nat) :
    cressetref23_Keys.l1 (k + 1) l out (i : Int) (j : Int) = cressetref23_Keys.l1 k l out (i : Int) ((j + 1 : Nat) : Int) := by
  have hp := pl_le out l[i]
  have e1 : rdOf ByteArray.empty l (i : Int) = l[i] := Vd.rdOf_getElem hi
  have e3 : rdOf ByteArray.empty out (j : Int) = out[j] := Vd.rdOf_getElem (by omega)
  simp only [cressetref23_Keys.l1]
  rw [if_pos (by omega), if_pos (by omega), if_pos (by omega), if_pos (by omega), e1, e3, if_pos (show Op.bytesLess out[j].toList l[i].toList = true from pl_below hj), wrS (by omega)]
theorem keys_loop (l : List ByteArray) (hb : l.length < 8796093022208) : ∀ (d i : Nat) (out : List ByteArray), i + d = l.length → out.length ≤ i → Ev (fun k => cressetref23_Keys.l0 k l out (i : Int)) ((l.drop i).foldl insS out)
  | 0, i, out, hi, ho => by
    refine Ev.step (f := fun _ => some out) (fun k => ?_) ?_
    · simp only [cressetref23_Keys.l0]
      rw [if_neg (by omega)]
    · rw [List.drop_of_length_le (by omega)]
      exact Ev.now _
  | d + 1, i, out, hi, ho => by
    have hlt : i < l.length := by omega
    have ih := keys_loop l hb d (i + 1) (insS out l[i]) (by omega) (by have := ins_len out l[i]; omega)
    rw [List.drop_eq_getElem_cons hlt, List.foldl_cons]
    have inner : ∀ (c j : Nat), j + c = pl out l[i] → Ev (fun k => cressetref23_Keys.l1 k l out (i : Int) (j : Int)) ((l.drop (i + 1)).foldl insS (insS out l[i])) := by
      intro c
      induction c with
      | zero =>
        intro j hj
        obtain rfl : j = pl out l[i] := by omega
        by_cases hq : out[pl out l[i]]? = some l[i]
        · exact Ev.step (fun k => l1_skip l out i hlt hb hq k) ih
        · exact Ev.step (fun k => l1_put l out i hlt ho hb hq k) ih
      | succ c ihc =>
        intro j hj
        exact Ev.step (fun k => l1_next l out i j hlt ho hb (by omega) k) (ihc (j + 1) (by omega))
    refine Ev.step (f := fun k => cressetref23_Keys.l1 k l out (i : Int) ((0 : Nat) : Int)) (fun k => ?_) (inner (pl out l[i]) 0 (by omega))
    simp only [cressetref23_Keys.l0]
    rw [if_pos (by omega)]
    rfl
theorem keys_ev (l : List ByteArray) (hb : l.length < 8796093022208) : Ev (fun k => cressetref23_Keys.f k l) (keys l) := by
  have := keys_loop l hb l.length 0 [] (by omega) (Nat.le_refl _)
  rw [List.drop_zero, keys_fold] at this
  exact this
theorem same_loop (l : List ByteArray) (hl : l.length ≤ 9223372036854775000) : ∀ (d n : Nat), n + d = l.length → Ev (fun k => cressetref23_Same.l0 k l l (n : Int)) true
  | 0, n, h => by
    refine Ev.step (f := fun _ => some true) (fun k => ?_) (Ev.now _)
    simp only [cressetref23_Same.l0]
    rw [if_neg (by omega)]
  | d + 1, n, h => by
    refine Ev.step (f := fun k => cressetref23_Same.l0 k l l ((n + 1 : Nat) : Int)) (fun k => ?_) (same_loop l hl d (n + 1) (by omega))
    simp only [cressetref23_Same.l0]
    rw [if_pos (by omega), if_pos (by omega), if_pos (by omega), if_pos trivial, wrS (by omega)]
theorem same_ev (l : List ByteArray) (hl : l.length ≤ 9223372036854775000) : Ev (fun k => cressetref23_Same.f k l l) true := by
  refine Ev.congr (f := fun k => cressetref23_Same.l0 k l l ((0 : Nat) : Int)) (fun k => ?_) (same_loop l hl l.length 0 (by omega))
  unfold cressetref23_Same.f
  rw [if_pos rfl]
  rfl
end Go.Proofs.Ytgbmlkoblcfceaa.Ky

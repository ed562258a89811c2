/-
Of the row ValidDoes: printed walks and plain laws, merged (wip/claim2.py).
-/
import Derived.Test.YtgbmlkoblcfceaaQValidDoes3
import Derived.Test.YtgbmlkoblcfceaaQValidDoes4
import Derived.Test.YtgbmlkoblcfceaaQValidDoes5
import Derived.Test.YtgbmlkoblcfceaaQValidDoes14
import Derived.Test.YtgbmlkoblcfceaaQValidDoes21
set_option linter.unusedVariables false
set_option linter.unusedSimpArgs false
namespace Go.Proofs.Ytgbmlkoblcfceaa.Ky
open Go.RowKit Go.Proofs.Ytgbmlkoblcfceaa.B Go.Proofs.YtgbmlkoblcfceaaW.PrintWords Go.Proofs.YtgbmlkoblcfceaaW.PrintLast Go.Proofs.Ytgbmlkoblcfceaa.Vd
theorem wrS {i : Nat} (h : i < 9223372036854775807) : wrap64 ((i : Int) + 1) = ((i + 1 : Nat) : Int) := by unfold wrap64; omega
theorem l1_put (l out : List ByteArray) (i : Nat) (hi : i < l.length) (ho : out.length ≤ i) (hb : l.length < 8796093022208) (hnot : ¬ out[pl out l[i]]? = some l[i]) (k : Nat) :
    cressetref23_Keys.l1 (k + 1) l out (i : Int) (pl out l[i] : Nat) = cressetref23_Keys.l0 k l (insS out l[i]) ((i + 1 : Nat) : Int) := by
  have hp := pl_le out l[i]
  have e1 : rdOf ByteArray.empty l (i : Int) = l[i] := Vd.rdOf_getElem hi
  have e2 : insS out l[i] = out.take (pl out l[i]) ++ [l[i]] ++ out.drop (pl out l[i]) := by unfold insS; rw [if_neg hnot]
  have n1 : (out.take (pl out l[i])).length ≤ i := by rw [List.length_take]; omega
  have n2 : (out.drop (pl out l[i])).length ≤ i := by rw [List.length_drop]; omega
  have n3 : (out.take (pl out l[i])).length + (out.drop (pl out l[i])).length = out.length := by rw [List.length_take, List.length_drop]; omega
  simp only [cressetref23_Keys.l1, Option.bind_some, List.nil_append, List.length_nil, Nat.zero_add, Int.toNat_natCast, e1, List.length_append, List.length_singleton]
  rw [e2]
  by_cases hlt : pl out l[i] < out.length
  · have e3 : rdOf ByteArray.empty out ((pl out l[i] : Nat) : Int) = out[pl out l[i]] := Vd.rdOf_getElem hlt
    have hnb := pl_next hlt
    rw [if_pos (by omega), if_pos (by omega), if_pos (by omega), if_pos (by omega), e3, if_neg (by rw [show Op.bytesLess out[pl out l[i]].toList l[i].toList = false from hnb]; decide), if_neg (fun e => hnot (by rw [List.getElem?_eq_getElem hlt, inj_toList e])), if_pos (by omega), if_pos (by omega), if_pos (by omega), if_pos (by omega), wrS (by omega)]
  · rw [if_neg (by omega), if_pos (by omega), if_pos (by omega), if_pos (by omega), if_pos (by omega), if_pos (by omega), if_pos (by omega), if_pos (by omega), wrS (by omega)]
theorem l1_skip (l out : List ByteArray) (i : Nat) (hi : i < l.length) (hb : l.length < 8796093022208) (hyes : out[pl out l[i]]? = some l[i]) (k : Nat) :
    cressetref23_Keys.l1 (k + 1) l out (i : Int) (pl out l[i] : Nat) = cressetref23_Keys.l0 k l (insS out l[i]) ((i + 1 : Nat) : Int) := by
  have hlt : pl out l[i] < out.length := (List.getElem?_eq_some_iff.1 hyes).1
  have he : out[pl out l[i]] = l[i] := (List.getElem?_eq_some_iff.1 hyes).2
  have e1 : rdOf ByteArray.empty l (i : Int) = l[i] := Vd.rdOf_getElem hi
  have e3 : rdOf ByteArray.empty out ((pl out l[i] : Nat) : Int) = l[i] := (Vd.rdOf_getElem hlt).trans he
  have e2 : insS out l[i] = out := by unfold insS; rw [if_pos hyes]
  simp only [cressetref23_Keys.l1]
  rw [if_pos (by omega), if_pos (by omega), if_pos (by omega), if_pos (by omega), e1, e3, if_neg (by rw [show Op.bytesLess l[i].toList l[i].toList = false from bl_irrefl _]; decide), if_pos rfl, wrS (by omega), e2]
theorem l1_next (l out : List ByteArray) (i j : Nat) (hi : i < l.length) (ho : out.length ≤ i) (hb : l.length < 8796093022208) (hj : j < pl out l[i]) (k : Nat) :
    cressetref23_Keys.l1 (k + 1) l out (i : Int) (j : Int) = cressetref23_Keys.l1 k l out (i : Int) ((j + 1 : Nat) : Int) := by
  have hp := pl_le out l[i]
  have e1 : rdOf ByteArray.empty l (i : Int) = l[i] := Vd.rdOf_getElem hi
  have e3 : rdOf ByteArray.empty out (j : Int) = out[j] := Vd.rdOf_getElem (by omega)
  simp only [cressetref23_Keys.l1]
  rw [if_pos (by omega), if_pos (by omega), if_pos (by omega), if_pos (by omega), e1, e3, if_pos (show Op.bytesLess out[j].toList l[i].toList = true from pl_below hj), wrS (by omega)]
theorem keys_loop (l : List ByteArray) (hb : l.length < 8796093022208) : ∀ (d i : Nat) (out : List ByteArray), i + d = l.length → out.length ≤ i → Ev (fun k => cressetref23_Keys.l0 k l out (i : Int)) ((l.drop i).foldl insS out)
  | 0, i, out, hi, ho => by
    refine Ev.step (f := fun _ => some out) (fun k => ?_) ?_
    · simp only [cressetref23_Keys.l0]
      rw [if_neg (by omega)]
    · rw [List.drop_of_length_le (by omega)]
      exact Ev.now _
  | d + 1, i, out, hi, ho => by
    have hlt : i < l.length := by omega
    have ih := keys_loop l hb d (i + 1) (insS out l[i]) (by omega) (by have := ins_len out l[i]; omega)
    rw [List.drop_eq_getElem_cons hlt, List.foldl_cons]
    have inner : ∀ (c j : Nat), j + c = pl out l[i] → Ev (fun k => cressetref23_Keys.l1 k l out (i : Int) (j : Int)) ((l.drop (i + 1)).foldl insS (insS out l[i])) := by
      intro c
      induction c with
      | zero =>
        intro j hj
        obtain rfl : j = pl out l[i] := by omega
        by_cases hq : out[pl out l[i]]? = some l[i]
        · exact Ev.step (fun k => l1_skip l out i hlt hb hq k) ih
        · exact Ev.step (fun k => l1_put l out i hlt ho hb hq k) ih
      | succ c ihc =>
        intro j hj
        exact Ev.step (fun k => l1_next l out i j hlt ho hb (by omega) k) (ihc (j + 1) (by omega))
    refine Ev.step (f := fun k => cressetref23_Keys.l1 k l out (i : Int) ((0 : Nat) : Int)) (fun k => ?_) (inner (pl out l[i]) 0 (by omega))
    simp only [cressetref23_Keys.l0]
    rw [if_pos (by omega)]
    rfl
theorem keys_ev (l : List ByteArray) (hb : l.length < 8796093022208) : Ev (fun k => cressetref23_Keys.f k l) (keys l) := by
  have := keys_loop l hb l.length 0 [] (by omega) (Nat.le_refl _)
  rw [List.drop_zero, keys_fold] at this
  exact this
theorem same_loop (l : List ByteArray) (hl : l.length ≤ 9223372036854775000) : ∀ (d n : Nat), n + d = l.length → Ev (fun k => cressetref23_Same.l0 k l l (n : Int)) true
  | 0, n, h => by
    refine Ev.step (f := fun _ => some true) (fun k => ?_) (Ev.now _)
    simp only [cressetref23_Same.l0]
    rw [if_neg (by omega)]
  | d + 1, n, h => by
    refine Ev.step (f := fun k => cressetref23_Same.l0 k l l ((n + 1 : Nat) : Int)) (fun k => ?_) (same_loop l hl d (n + 1) (by omega))
    simp only [cressetref23_Same.l0]
    rw [if_pos (by omega), if_pos (by omega), if_pos (by omega), if_pos trivial, wrS (by omega)]
theorem same_ev (l : List ByteArray) (hl : l.length ≤ 9223372036854775000) : Ev (fun k => cressetref23_Same.f k l l) true := by
  refine Ev.congr (f := fun k => cressetref23_Same.l0 k l l ((0 : Nat) : Int)) (fun k => ?_) (same_loop l hl l.length 0 (by omega))
  unfold cressetref23_Same.f
  rw [if_pos rfl]
  rfl
theorem has_loop (l : List ByteArray) (x : ByteArray) (hl : l.length ≤ 9223372036854775806) : ∀ (d n : Nat), n + d = l.length → Ev (fun k => cressetref23_has.l0 k l x (n : Int)) ((l.drop n).any (eqB x))
  | 0, n, h => by
    rw [List.drop_of_length_le (by omega)]
    refine Ev.step (f := fun _ => some false) (fun k => ?_) (Ev.now _)
    simp only [cressetref23_has.l0]
    rw [if_neg (by omega)]
  | d + 1, n, h => by
    have hlt : n < l.length := by omega
    rw [List.drop_eq_getElem_cons hlt, List.any_cons]
    by_cases e : l[n].toList = x.toList
    · rw [show eqB x l[n] = true from decide_eq_true e.symm, Bool.true_or]
      refine Ev.step (f := fun _ => some true) (fun k => ?_) (Ev.now _)
      simp only [cressetref23_has.l0]
      rw [if_pos (by omega), if_pos (by omega), Vd.rdOf_getElem hlt, if_pos e]
    · rw [show eqB x l[n] = false from decide_eq_false (fun h => e h.symm), Bool.false_or]
      refine Ev.step (f := fun k => cressetref23_has.l0 k l x ((n + 1 : Nat) : Int)) (fun k => ?_) (has_loop l x hl d (n + 1) (by omega))
      simp only [cressetref23_has.l0]
      rw [if_pos (by omega), if_pos (by omega), Vd.rdOf_getElem hlt, if_neg e, wrS (by omega)]
theorem has_ev (l : List ByteArray) (x : ByteArray) (hl : l.length ≤ 9223372036854775806) : Ev (fun k => cressetref23_has.f k l x) (l.any (eqB x)) := by
  have := has_loop l x hl l.length 0 (by omega)
  rw [List.drop_zero] at this
  exact this
theorem inR_f (x : S65) (k : ByteArray) : cressetref05_In.f x.f0 x.f1 k = some (inR x k) := by
  unfold cressetref05_In.f inR
  split
  · rfl
  · split <;> rfl
theorem rd65 {l : List S65} {i : Nat} (h : i < l.length) : rd_T65 l (i : Int) = l[i] := by
  unfold rd_T65
  rw [Int.toNat_natCast, List.getD_eq_getElem?_getD, List.getElem?_eq_getElem h]
  rfl
theorem hits_loop (l : List S65) (x : ByteArray) (hl : l.length ≤ 9223372036854775806) : ∀ (d n : Nat), n + d = l.length → Ev (fun k => cressetref05_Hits.l0 k l x (n : Int)) ((l.drop n).any fun r => inR r x)
  | 0, n, h => by
    rw [List.drop_of_length_le (by omega)]
    refine Ev.step (f := fun _ => some false) (fun k => ?_) (Ev.now _)
    simp only [cressetref05_Hits.l0]
    rw [if_neg (by omega)]
  | d + 1, n, h => by
    have hlt : n < l.length := by omega
    rw [List.drop_eq_getElem_cons hlt, List.any_cons]
    cases e : inR l[n] x with
    | true =>
      rw [Bool.true_or]
      refine Ev.step (f := fun _ => some true) (fun k => ?_) (Ev.now _)
      simp only [cressetref05_Hits.l0]
      rw [if_pos (by omega), if_pos (by omega), rd65 hlt, inR_f, e]
      rfl
    | false =>
      rw [Bool.false_or]
      refine Ev.step (f := fun k => cressetref05_Hits.l0 k l x ((n + 1 : Nat) : Int)) (fun k => ?_) (hits_loop l x hl d (n + 1) (by omega))
      simp only [cressetref05_Hits.l0]
      rw [if_pos (by omega), if_pos (by omega), rd65 hlt, inR_f, e, Option.bind_some, if_neg (by decide), wrS (by omega)]
theorem hits_ev (l : List S65) (x : ByteArray) (hl : l.length ≤ 9223372036854775806) : Ev (fun k => cressetref05_Hits.f k l x) (l.any fun r => inR r x) := by
  have := hits_loop l x hl l.length 0 (by omega)
  rw [List.drop_zero] at this
  exact this
theorem clash_loop (lv : Int) (rk : List ByteArray) (rr : List S65) (mine other : List ByteArray) (h1 : rk.length ≤ 9223372036854775806) (h2 : rr.length ≤ 9223372036854775806) (h3 : mine.length ≤ 9223372036854775806) (h4 : other.length ≤ 9223372036854775806) :
    ∀ (d n : Nat), n + d = other.length → Ev (fun k => cressetref23_Clash.l0 k lv mine other (n : Int) rk rr) ((other.drop n).any (hitB lv rk rr mine))
  | 0, n, h => by
    rw [List.drop_of_length_le (by omega)]
    refine Ev.step (f := fun _ => some false) (fun k => ?_) (Ev.now _)
    simp only [cressetref23_Clash.l0]
    rw [if_neg (by omega)]
  | d + 1, n, h => by
    have hlt : n < other.length := by omega
    have ih := clash_loop lv rk rr mine other h1 h2 h3 h4 d (n + 1) (by omega)
    rw [List.drop_eq_getElem_cons hlt, List.any_cons]
    refine Ev.step (f := fun k => (cressetref23_has.f k mine other[n]).bind fun t144 => (if t144 = true then (some true) else (if lv = 2 then ((cressetref23_has.f k rk other[n]).bind fun t146 => (if t146 = true then (some true) else ((cressetref05_Hits.f k rr other[n]).bind fun t148 => (if t148 = true then (some true) else (cressetref23_Clash.l0 k lv mine other ((n + 1 : Nat) : Int) rk rr))))) else (cressetref23_Clash.l0 k lv mine other ((n + 1 : Nat) : Int) rk rr)))) (fun k => ?_) ?_
    · simp only [cressetref23_Clash.l0]
      rw [if_pos (by omega), if_pos (by omega), Vd.rdOf_getElem hlt, wrS (by omega)]
    · refine Ev.bind (has_ev mine _ h3) ?_
      rw [show hitB lv rk rr mine other[n] = (mine.any (eqB other[n]) || (decide (lv = 2) && (rk.any (eqB other[n]) || rr.any fun x => inR x other[n]))) from rfl]
      cases e1 : mine.any (eqB other[n]) with
      | true => refine Ev.congr (f := fun _ => some true) (fun k => if_pos rfl) (by simpa using Ev.now true)
      | false =>
        refine Ev.congr (fun k => if_neg (by decide)) ?_
        by_cases e2 : lv = 2
        · refine Ev.congr (fun k => if_pos e2) ?_
          rw [show decide (lv = 2) = true from decide_eq_true e2]
          refine Ev.bind (has_ev rk _ h1) ?_
          cases e3 : rk.any (eqB other[n]) with
          | true => refine Ev.congr (f := fun _ => some true) (fun k => if_pos rfl) (by simpa using Ev.now true)
          | false =>
            refine Ev.congr (fun k => if_neg (by decide)) ?_
            refine Ev.bind (hits_ev rr _ h2) ?_
            cases e4 : rr.any (fun r => inR r other[n]) with
            | true => refine Ev.congr (f := fun _ => some true) (fun k => if_pos rfl) (by simpa using Ev.now true)
            | false => refine Ev.congr (fun k => if_neg (by decide)) (by simpa using ih)
        · refine Ev.congr (fun k => if_neg e2) ?_
          rw [show decide (lv = 2) = false from decide_eq_false e2]
          simpa using ih
theorem clash_ev (lv : Int) (rk : List ByteArray) (rr : List S65) (mine other : List ByteArray) (h1 : rk.length ≤ 9223372036854775806) (h2 : rr.length ≤ 9223372036854775806) (h3 : mine.length ≤ 9223372036854775806) (h4 : other.length ≤ 9223372036854775806) : Ev (fun k => cressetref23_Clash.f k lv rk rr mine other) (clash lv rk rr mine other) := by
  have := clash_loop lv rk rr mine other h1 h2 h3 h4 other.length 0 (by omega)
  rw [List.drop_zero] at this
  exact this
end Go.Proofs.Ytgbmlkoblcfceaa.Ky

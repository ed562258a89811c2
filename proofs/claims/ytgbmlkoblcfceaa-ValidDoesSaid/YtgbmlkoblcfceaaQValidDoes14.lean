/-
Of the row ValidDoes: printed walks and plain laws, merged (wip/claim2.py).
-/
import Derived.Test.YtgbmlkoblcfceaaQValidDoes10
import Derived.Test.YtgbmlkoblcfceaaQValidDoes13
import Derived.WalkMore
set_option linter.unusedVariables false
set_option linter.unusedSimpArgs false
namespace Go.Proofs.Ytgbmlkoblcfceaa.Vd
open Go.RowKit Go.Proofs.Ytgbmlkoblcfceaa.B Go.Proofs.YtgbmlkoblcfceaaW.PrintWords Go.Proofs.YtgbmlkoblcfceaaW.PrintLast Go.Proofs.YtgbmlkoblcfceaaW.PrintMore Go.Proofs.YtgbmlkoblcfceaaW.Mine Go.Proofs.YtgbmlkoblcfceaaW.Hp
def eqB (a b : ByteArray) : Bool := decide (a.toList = b.toList)
def inR (x : S65) (key : ByteArray) : Bool := if Op.bytesLess key.toList x.f0.toList = true then false else if x.f1.toList = [] then true else Op.bytesLess key.toList x.f1.toList
def hitB (lv : Int) (rk : List ByteArray) (rr : List S65) (mine : List ByteArray) (k : ByteArray) : Bool := mine.any (eqB k) || (decide (lv = 2) && (rk.any (eqB k) || rr.any fun x => inR x k))
def clash (lv : Int) (rk : List ByteArray) (rr : List S65) (mine other : List ByteArray) : Bool := other.any (hitB lv rk rr mine)
theorem in_f (x : S65) (k : ByteArray) : keys_In.f x.f0 x.f1 k = some (inR x k) := by
  unfold keys_In.f inR
  split
  · rfl
  · split <;> rfl
theorem hits_f (rr : List S65) (k : ByteArray) (h : rr.length ≤ 9223372036854775807) : keys_Hits.f rr k = some (rr.any fun x => inR x k) := by
  unfold keys_Hits.f
  rw [if_pos ⟨h, by rw [List.all_eq_true]; intro x _; rw [in_f]; rfl⟩]
  congr 1
  congr 1
  funext x
  rw [in_f]
  rfl
theorem rdOf_getElem {l : List ByteArray} {j : Nat} (h : j < l.length) : rdOf ByteArray.empty l (j : Int) = l[j] := by
  unfold rdOf
  rw [Int.toNat_natCast, List.getD_eq_getElem?_getD, List.getElem?_eq_getElem h]
  rfl
theorem index_l0 (l : List ByteArray) (x : ByteArray) (h : l.length ≤ 9223372036854775807) : ∀ (d j : Nat), j + d = l.length → ∀ k, d < k → ∃ r : Int, slices_Index_string_string.l0 k l x (l.length : Int) (j : Int) = some r ∧ decide (r ≥ 0) = (l.drop j).any (eqB x)
  | 0, j, hj, k, hk => by
    obtain ⟨k, rfl⟩ : ∃ m, k = m + 1 := ⟨k - 1, by omega⟩
    simp only [slices_Index_string_string.l0]
    rw [if_neg (by omega)]
    refine ⟨-1, rfl, ?_⟩
    rw [List.drop_of_length_le (by omega)]
    rfl
  | d + 1, j, hj, k, hk => by
    obtain ⟨k, rfl⟩ : ∃ m, k = m + 1 := ⟨k - 1, by omega⟩
    simp only [slices_Index_string_string.l0]
    have hlt : j < l.length := by omega
    rw [if_pos (by omega), if_pos (by omega), if_pos (by omega), rdOf_getElem hlt, List.drop_eq_getElem_cons hlt, List.any_cons]
    by_cases e : x.toList = l[j].toList
    · rw [if_pos e]
      refine ⟨j, rfl, ?_⟩
      rw [show eqB x l[j] = true from decide_eq_true e, Bool.true_or]
      exact decide_eq_true (by omega)
    · rw [if_neg e, show wrap64 ((j : Int) + 1) = ((j + 1 : Nat) : Int) from by unfold wrap64; omega]
      obtain ⟨r, h1, h2⟩ := index_l0 l x h d (j + 1) (by omega) k (by omega)
      refine ⟨r, h1, ?_⟩
      rw [h2, show eqB x l[j] = false from decide_eq_false e, Bool.false_or]
theorem contains_f (l : List ByteArray) (x : ByteArray) (h : l.length ≤ 9223372036854775807) (k : Nat) (hk : l.length < k) : slices_Contains_string_string.f k l x = some (l.any (eqB x)) := by
  obtain ⟨r, h1, h2⟩ := index_l0 l x h l.length 0 (by omega) k hk
  unfold slices_Contains_string_string.f slices_Index_string_string.f
  rw [show ((0 : Nat) : Int) = 0 from rfl] at h1
  rw [h1]
  simp only [Option.bind_some]
  rw [h2, List.drop_zero]
theorem clash_l0 (lv : Int) (rk : List ByteArray) (rr : List S65) (mine other : List ByteArray) (h1 : rk.length ≤ 9223372036854775807) (h2 : rr.length ≤ 9223372036854775807) (h3 : mine.length ≤ 9223372036854775807) (h4 : other.length ≤ 9223372036854775807) :
    ∀ (d j : Nat), j + d = other.length → ∀ k, d + rk.length + mine.length < k → valid_Clash.l0 k lv mine other (other.length : Int) (j : Int) rk rr = some ((other.drop j).any (hitB lv rk rr mine))
  | 0, j, hj, k, hk => by
    obtain ⟨k, rfl⟩ : ∃ m, k = m + 1 := ⟨k - 1, by omega⟩
    simp only [valid_Clash.l0]
    rw [if_neg (by omega), List.drop_of_length_le (by omega)]
    rfl
  | d + 1, j, hj, k, hk => by
    obtain ⟨k, rfl⟩ : ∃ m, k = m + 1 := ⟨k - 1, by omega⟩
    simp only [valid_Clash.l0]
    have hlt : j < other.length := by omega
    have ih := clash_l0 lv rk rr mine other h1 h2 h3 h4 d (j + 1) (by omega) k (by omega)
    rw [if_pos (by omega), if_pos (by omega), if_pos (by omega), rdOf_getElem hlt, List.drop_eq_getElem_cons hlt, List.any_cons, contains_f mine _ h3 k (by omega), show wrap64 ((j : Int) + 1) = ((j + 1 : Nat) : Int) from by unfold wrap64; omega, ih]
    simp only [Option.bind_some]
    unfold hitB
    cases e1 : mine.any (eqB other[j]) with
    | true => rw [if_pos rfl]; simp
    | false =>
      rw [if_neg (by decide)]
      by_cases e2 : lv = 2
      · rw [if_pos e2, contains_f rk _ h1 k (by omega), hits_f rr _ h2]
        simp only [Option.bind_some]
        rw [show decide (lv = 2) = true from decide_eq_true e2]
        cases e3 : rk.any (eqB other[j]) with
        | true => rw [if_pos rfl]; simp
        | false =>
          rw [if_neg (by decide)]
          cases e4 : rr.any (fun x => inR x other[j]) with
          | true => rw [if_pos rfl]; simp
          | false => rw [if_neg (by decide)]; simp
      · rw [if_neg e2, show decide (lv = 2) = false from decide_eq_false e2]
        simp
theorem clash_f (lv : Int) (rk : List ByteArray) (rr : List S65) (mine other : List ByteArray) (h1 : rk.length ≤ 9223372036854775807) (h2 : rr.length ≤ 9223372036854775807) (h3 : mine.length ≤ 9223372036854775807) (h4 : other.length ≤ 9223372036854775807) : ∃ k, valid_Clash.f k lv rk rr mine other = some (clash lv rk rr mine other) := by
  refine ⟨other.length + rk.length + mine.length + 1, ?_⟩
  have := clash_l0 lv rk rr mine other h1 h2 h3 h4 other.length 0 (by omega) _ (Nat.lt_succ_self _)
  rw [List.drop_zero] at this
  exact this
structure Rd (w : World) (K : Option Addr) (cK : Nat) (rk : List ByteArray) (R : Option Addr) (cR : Nat) (rr : List S65) (M : Option Addr) (cM : Nat) (mine : List ByteArray) : Prop where
  k : Kd.C Kd.string w K rk.length rk
  kc : rk.length ≤ cK
  r : Kd.C k65 w R rr.length rr
  rc : rr.length ≤ cR
  m : Kd.C Kd.string w M mine.length mine
  mc : mine.length ≤ cM
theorem Rd.below {w W : World} {K : Option Addr} {cK : Nat} {rk : List ByteArray} {R : Option Addr} {cR : Nat} {rr : List S65} {M : Option Addr} {cM : Nat} {mine : List ByteArray} (h : Rd w K cK rk R cR rr M cM mine) (hb : Below w.heap.size w W) : Rd W K cK rk R cR rr M cM mine :=
  ⟨Kd.C_below h.k hb, h.kc, Kd.C_below h.r hb, h.rc, Kd.C_below h.m hb, h.mc⟩
theorem Cmax {α : Type} {d : Kd α} {w : World} {A : Option Addr} {xs : List α} (h : d.C w A xs.length xs) : xs.length ≤ 9223372036854775807 := h.2.1
theorem clash_calls (lv : Int) (w : World) {K : Option Addr} {cK : Nat} {rk : List ByteArray} {R : Option Addr} {cR : Nat} {rr : List S65} {M : Option Addr} {cM : Nat} {mine : List ByteArray} (h : Rd w K cK rk R cR rr M cM mine) (O : Option Addr) (cO : Nat) (other : List ByteArray) (hO : Kd.C Kd.string w O other.length other) (hcO : other.length ≤ cO) :
    Calls Try.prog 15 #[.int .i64 lv, .agg #[.slice K rk.length cK, .slice R rr.length cR], .slice M mine.length cM, .slice O other.length cO] w fun e w' => e = .returned (.bool (clash lv rk rr mine other)) ∧ Below w.heap.size w w' := by
  obtain ⟨k, hk⟩ := clash_f lv rk rr mine other (Cmax h.k) (Cmax h.r) (Cmax h.m) (Cmax hO)
  exact valid_Clash.calls k lv K cK rk R cR rr M cM mine O cO other _ w h.k h.kc h.r h.rc h.m h.mc hO hcO hk
end Go.Proofs.Ytgbmlkoblcfceaa.Vd

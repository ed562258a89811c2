/-
Of the row VersionOwn: printed walks and plain laws, merged (wip/claim2.py).
-/
import Derived.Test.YtpakolohhoegfaaQVersionOwn7
import Derived.Maps.OwnSet
import Derived.Sort.KeysCollected
set_option linter.unusedVariables false
set_option linter.unusedSimpArgs false
namespace Go.Proofs.YtpakolohhoegfaaW.Hp
open Go.RowKit Go.Proofs.YtpakolohhoegfaaW.PrintWords Go.Proofs.YtpakolohhoegfaaW.PrintMore Go.Maps

structure Ky (κ : Type) where
  lit : κ → Lit
  lt : κ → κ → Bool
  before : ∀ a b, (lit a).before (lit b) = lt a b
  same : ∀ a b, (lit a).sameKey (lit b) = true ↔ a = b
  total : ∀ a b, a ≠ b → lt a b = true ∨ lt b a = true
namespace Ky

variable {κ α : Type} (K : Ky κ)
theorem irrefl (a : κ) : K.lt a a = false := by rw [← K.before]; exact WideShapes.before_irrefl _
theorem trans {a b c : κ} (h : K.lt a b = true) (k : K.lt b c = true) : K.lt a c = true := by
  rw [← K.before] at *
  exact WideShapes.before_trans h k
theorem not {a b : κ} (h : K.lt a b = true) : K.lt b a = false := by
  cases k : K.lt b a with
  | false => rfl
  | true => have := K.trans h k; rw [K.irrefl] at this; cases this
theorem eq {a b : κ} (h : K.lt a b = false) (k : K.lt b a = false) : a = b := Classical.byContradiction fun hn => (K.total a b hn).elim (fun e => by rw [h] at e; cases e) (fun e => by rw [k] at e; cases e)
theorem sameF {a b : κ} (h : a ≠ b) : (K.lit a).sameKey (K.lit b) = false := by
  cases k : (K.lit a).sameKey (K.lit b) with
  | false => rfl
  | true => exact absurd ((K.same a b).1 k) h
theorem sameT (a : κ) : (K.lit a).sameKey (K.lit a) = true := (K.same a a).2 rfl
theorem lt_ne {a b : κ} (h : K.lt a b = true) : a ≠ b := fun e => by rw [e, K.irrefl] at h; cases h
def ins (k : κ) (x : α) : List (κ × α) → List (κ × α)
  | [] => [(k, x)]
  | p :: r => if K.lt p.1 k then p :: ins k x r else if K.lt k p.1 then (k, x) :: p :: r else (k, x) :: r
def del (k : κ) (l : List (κ × α)) : List (κ × α) := l.filter fun p => !(K.lit p.1).sameKey (K.lit k)
def get (k : κ) (l : List (κ × α)) : Option α := (l.find? fun p => (K.lit p.1).sameKey (K.lit k)).map (·.2)
def Srt (l : List (κ × α)) : Prop := l.Pairwise fun p q => K.lt p.1 q.1 = true
def D (enc : α → Value) (l : List (κ × α)) : DataW Value := .map (l.map fun p => (K.lit p.1, .held (enc p.2)))
variable {enc : α → Value} {l : List (κ × α)} {k : κ} {x z : α}
theorem mem_ins {p : κ × α} : ∀ {l : List (κ × α)}, p ∈ K.ins k x l → p = (k, x) ∨ p ∈ l
  | [], h => .inl (by simpa [ins] using h)
  | q :: r, h => by
    unfold ins at h
    split at h
    · rcases List.mem_cons.1 h with h | h
      · exact .inr (by rw [h]; exact List.mem_cons_self ..)
      · exact (mem_ins h).imp id (List.mem_cons_of_mem _)
    · split at h
      · exact (List.mem_cons.1 h)
      · exact (List.mem_cons.1 h).imp id (List.mem_cons_of_mem _)
theorem ins_srt (h : K.Srt l) : K.Srt (K.ins k x l) := by
  induction l with
  | nil => exact List.pairwise_singleton _ _
  | cons p r ih =>
    have h1 := List.pairwise_cons.1 h
    unfold ins
    split
    · rename_i hp
      exact List.pairwise_cons.2 ⟨fun q hq => (K.mem_ins hq).elim (fun e => by rw [e]; exact hp) (h1.1 q), ih h1.2⟩
    · rename_i hp
      split
      · rename_i hk
        exact List.pairwise_cons.2 ⟨fun q hq => (List.mem_cons.1 hq).elim (fun e => by rw [e]; exact hk) (fun hm => K.trans hk (h1.1 q hm)), h⟩
      · rename_i hk
        have e : k = p.1 := K.eq (by simpa using hk) (by simpa using hp)
        exact List.pairwise_cons.2 ⟨fun q hq => by rw [e]; exact h1.1 q hq, h1.2⟩
theorem del_srt (h : K.Srt l) : K.Srt (K.del k l) := List.Pairwise.filter _ h
theorem srt_nil : K.Srt ([] : List (κ × α)) := List.Pairwise.nil
theorem filter_all {r : List (κ × α)} (h : ∀ q ∈ r, q.1 ≠ k) : r.filter (fun p => !(K.lit p.1).sameKey (K.lit k)) = r := List.filter_eq_self.2 fun q hq => by rw [K.sameF (h q hq)]; rfl
theorem map_filter (l : List (κ × α)) : ((l.map fun p => (K.lit p.1, (DataW.held (enc p.2) : DataW Value))).filter fun p => !p.1.sameKey (K.lit k)) = (l.filter fun p => !(K.lit p.1).sameKey (K.lit k)).map fun p => (K.lit p.1, .held (enc p.2)) := by rw [List.filter_map]; rfl
theorem put_list : ∀ {l : List (κ × α)}, K.Srt l → DataW.insert (K.lit k, (.held (enc x) : DataW Value)) ((l.filter fun p => !(K.lit p.1).sameKey (K.lit k)).map fun p => (K.lit p.1, .held (enc p.2))) = (K.ins k x l).map fun p => (K.lit p.1, .held (enc p.2))
  | [], _ => rfl
  | p :: r, h => by
    have h1 := List.pairwise_cons.1 h
    unfold ins
    split
    · rename_i hp
      rw [List.filter_cons, K.sameF (K.lt_ne hp)]
      show DataW.insert _ ((K.lit p.1, _) :: _) = _
      unfold DataW.insert
      rw [show (K.lit k, (DataW.held (enc x) : DataW Value)).1.before (K.lit p.1, (DataW.held (enc p.2) : DataW Value)).1 = false by rw [K.before]; exact K.not hp]
      rw [if_neg (by decide), put_list h1.2]
      rfl
    · rename_i hp
      split
      · rename_i hk
        have hne : ∀ q ∈ p :: r, q.1 ≠ k := fun q hq => (List.mem_cons.1 hq).elim (fun e => by rw [e]; exact (K.lt_ne hk).symm) (fun hm => (K.lt_ne (K.trans hk (h1.1 q hm))).symm)
        rw [K.filter_all hne]
        show DataW.insert _ ((K.lit p.1, _) :: _) = _
        unfold DataW.insert
        rw [show (K.lit k, (DataW.held (enc x) : DataW Value)).1.before (K.lit p.1, (DataW.held (enc p.2) : DataW Value)).1 = true by rw [K.before]; exact hk]
        rw [if_pos rfl]
        rfl
      · rename_i hk
        have e : p.1 = k := K.eq (by simpa using hp) (by simpa using hk)
        rw [List.filter_cons, e, K.sameT]
        rw [K.filter_all (fun q hq => by rw [← e]; exact (K.lt_ne (h1.1 q hq)).symm)]
        rw [if_neg (by decide)]
        cases r with
        | nil => rfl
        | cons q r =>
          show DataW.insert _ ((K.lit q.1, _) :: _) = _
          unfold DataW.insert
          rw [show (K.lit k, (DataW.held (enc x) : DataW Value)).1.before (K.lit q.1, (DataW.held (enc q.2) : DataW Value)).1 = true by rw [K.before, ← e]; exact h1.1 q (List.mem_cons_self ..)]
          rw [if_pos rfl]
          rfl
theorem D_put (h : K.Srt l) : (K.D enc l).put (K.lit k) (.held (enc x)) = K.D enc (K.ins k x l) := by
  show DataW.map _ = DataW.map _
  rw [K.map_filter, K.put_list h]
theorem D_del : (K.D enc l).del (K.lit k) = K.D enc (K.del k l) := by
  show DataW.map _ = DataW.map _
  rw [K.map_filter]
  rfl
theorem D_at : (K.D enc l).atKey (K.lit k) (.held (enc z)) = .held (enc ((K.get k l).getD z)) := by
  unfold D get DataW.atKey
  dsimp only
  rw [List.find?_map]
  have e : ((fun p : Lit × DataW Value => p.1.sameKey (K.lit k)) ∘ fun p : κ × α => (K.lit p.1, (DataW.held (enc p.2) : DataW Value))) = fun p => (K.lit p.1).sameKey (K.lit k) := rfl
  rw [e]
  cases l.find? fun p => (K.lit p.1).sameKey (K.lit k) <;> rfl
theorem D_size : Maps.size (K.D enc l) = l.length := by
  show (l.map _).length = _
  rw [List.length_map]
theorem ins_len : (K.ins k x l).length ≤ l.length + 1 := by
  induction l with
  | nil => simp [ins]
  | cons p r ih =>
    unfold ins
    split
    · simp only [List.length_cons]; omega
    · split <;> simp
theorem del_len : (K.del k l).length ≤ l.length := List.length_filter_le _ _
end Ky
theorem toList_inj {a b : ByteArray} (h : a.data.toList = b.data.toList) : a = b := ByteArray.ext (Array.toList_inj.1 h)
def kyS : Ky ByteArray where
  lit s := .string s.data.toList
  lt a b := bytesBefore a.data.toList b.data.toList
  before _ _ := rfl
  same a b := by
    show (a.data.toList == b.data.toList) = true ↔ a = b
    rw [beq_iff_eq]
    exact ⟨toList_inj, fun e => by rw [e]⟩
  total a b h := WideAt.bytes_total _ _ fun e => h (toList_inj e)
theorem strKeys_D {α : Type} {enc : α → Value} (l : List (ByteArray × α)) : strKeys (kyS.D enc l) = l.map fun p => p.1.data.toList := by
  show (l.map fun p => (kyS.lit p.1, (DataW.held (enc p.2) : DataW Value))).map (fun p => strOf p.1) = _
  rw [List.map_map]
  rfl
theorem lex_le : ∀ {a b : List UInt8}, bytesBefore a b = true → a ≤ b
  | [], _, _ => List.nil_le _
  | _ :: _, [], h => by simp [bytesBefore] at h
  | x :: r, y :: s, h => by
    simp only [bytesBefore, Bool.or_eq_true, Bool.and_eq_true, decide_eq_true_eq, beq_iff_eq] at h
    rw [List.cons_le_cons_iff]
    exact h.imp id fun h => ⟨h.1, lex_le h.2⟩
theorem sorted_keys {α : Type} {enc : α → Value} {l : List (ByteArray × α)} (h : kyS.Srt l) {ss : List (List UInt8)} (hp : ss.Perm (strKeys (kyS.D enc l))) : (ss.mergeSort fun x y => decide (x ≤ y)) = l.map fun p => p.1.data.toList := by
  rw [strKeys_D] at hp
  have h1 := mergeSort_of_perm hp
  rw [show (ss.mergeSort fun x y => decide (x ≤ y)) = ss.mergeSort leB from rfl, h1]
  refine List.mergeSort_of_pairwise ?_
  rw [List.pairwise_map]
  exact List.Pairwise.imp (fun {p q} hpq => by simp only [leB, decide_eq_true_eq]; exact lex_le hpq) h
def rawR (v : Value) : Option (DataW Value × List MemPlace) := some (.held v, [])
def Asn.map {κ α : Type} (K : Ky κ) (P : Program) (kt : TypeId) (enc : α → Value) (b : Nat) (l : List (κ × α)) : Asn :=
  ⟨fun w ok => (K.Srt l ∧ ∃ n, w.ownsMap P kt rawR b n (K.D enc l)) ∧ ok b,
   fun {w w' ok} h hm _ => ⟨⟨h.1.1, let ⟨n, es, c, hb, r⟩ := h.1.2; ⟨n, es, c, (hm _ h.2 (blk_lt hb)).trans hb, r⟩⟩, h.2⟩,
   fun {w ok ok'} h hs => ⟨h.1, hs _ (let ⟨n, o⟩ := h.1.2; o.lt) h.2⟩⟩
section
variable {κ α : Type} {K : Ky κ} {P : Program} {kt b : Nat} {enc : α → Value} {l : List (κ × α)} {w0 w W : World} {L : List (Nat × Asn)} {i p : Nat}
theorem map_tight {w : World} {n : Nat} (h : w.ownsMap P kt rawR b n (K.D enc l)) : w.ownsMap P kt rawR b l.length (K.D enc l) := by
  obtain ⟨es, c, hb, F, hs, hD⟩ := h
  refine ⟨es, c, hb, F, ?_, hD⟩
  have := congrArg Maps.size hD
  rw [K.D_size] at this
  have e : Maps.size (DataW.map ((es.toList.map (WideElems.rg P kt rawR)).foldr DataW.insert [])) = es.size := by simp [Maps.size, length_sorted]
  rw [e] at this
  omega
theorem Hp.map_owns (H : Hp w0 w L) (p : Nat) (hi : L[p]? = some (i, Asn.map K P kt enc b l)) : K.Srt l ∧ w.ownsMap P kt rawR b l.length (K.D enc l) := H.fact p hi fun S h => ⟨h.1.1, let ⟨_, o⟩ := h.1.2; map_tight o⟩
theorem Hp.map_new (K : Ky κ) (P : Program) (kt : Nat) (enc : α → Value) (H : Hp w0 w L) (m : Nat) : Hp w0 (w.alloc (.map #[] 0)) (L ++ [(m, Asn.map K P kt enc w.heap.size [])]) :=
  H.new m (below_alloc (Below.refl _ _) _) ⟨⟨K.srt_nil, 0, World.ownsMap_made _ _ _ _⟩, Nat.le_refl _⟩
theorem Hp.map_turn {w' : World} {l' : List (κ × α)} (H : Hp w0 w L) (p : Nat) (hi : L[p]? = some (i, Asn.map K P kt enc b l)) (hn : lone i L p = true) (hs : K.Srt l') {n : Nat} (ho : w'.ownsMap P kt rawR b n (K.D enc l')) (hg : w.grownBy w' (some b)) : Hp w0 w' (L.set p (i, Asn.map K P kt enc b l')) :=
  H.upd p hi hn hg.os hg.tape hg.output hg.size (fun S h => ⟨⟨⟨hs, n, ho⟩, .inl h.2⟩, fun k hk hS => hg.block k hk (fun e => hS (by injection e with e; rw [e]; exact h.2))⟩)
variable {ops : Array Oper} {rest : List Oper} {o : Oper} {a : Act} {Q : Exit → Act → World → Prop}
theorem Hp.at_makeMap (K : Ky κ) (kt : Nat) (enc : α → Value) (H : Hp w0 W L) (m : Nat) (hgd : o.guard = none) {N : Tmp} (_hd : o.dst = some N)
    (hrun : (execOp a.eval o).run P W = .ok (.value (.map (some W.heap.size))) (W.alloc (.map #[] 0)))
    (h : ∀ g w1, Hp w0 w1 (L ++ [(m, Asn.map K P kt enc g [])]) → wpList P ops Q rest (a.put o.dst (.map (some g))) w1) : wpList P ops Q (o :: rest) a W :=
  Kd.event_run hgd hrun (h _ _ (H.map_new K P kt enc m))
theorem Hp.at_look (H : Hp w0 W L) (p : Nat) (hi : L[p]? = some (i, Asn.map K P kt enc b l)) (hgd : o.guard = none) (m x : Operand) (t e : TypeId) (hop : o.op = Op.lookup t m x false) (KL : Keyed P kt) (ht : P.underlying t = some (.map kt e)) (z : α) (hz : (zeroValue e).run P W = .ok (enc z) W)
    (hm : a.eval m = .map (some b)) (k : κ) (v : Value) (hx : a.eval x = v) (hkey : keyOf P kt v = some (K.lit k)) (h : wpList P ops Q rest (a.put o.dst (enc ((K.get k l).getD z))) W) : wpList P ops Q (o :: rest) a W := by
  obtain ⟨_, hown⟩ := H.map_owns p hi
  refine wpList_plain hgd fun K' hK' => ?_
  obtain ⟨v', ps, hrun, hv⟩ := hown.lookup KL ht hz (zd := .held (enc z)) (zp := []) rfl hkey
  rw [K.D_at] at hv
  obtain rfl : v' = enc ((K.get k l).getD z) := by
    simp only [rawR, Option.some.injEq, Prod.mk.injEq, DataW.held.injEq] at hv
    exact hv.1
  unfold Oper.wp
  simp [execOp, hop, hm, hx, hrun, Result.andThen]
  exact hK' _ _ h
theorem Hp.at_put (H : Hp w0 W L) (p : Nat) (hi : L[p]? = some (i, Asn.map K P kt enc b l)) (hn : lone i L p = true) (hgd : o.guard = none) (m x v : Operand) (t : TypeId) (hop : o.op = Op.mapUpdate t m x v) (e : TypeId) (KL : Keyed P kt) (ht : P.underlying t = some (.map kt e))
    (hm : a.eval m = .map (some b)) (k : κ) (key : Value) (hx : a.eval x = key) (hkey : keyOf P kt key = some (K.lit k)) (y : α) (hv : a.eval v = enc y) (hlen : l.length < maxLen)
    (h : ∀ w1, Hp w0 w1 (L.set p (i, Asn.map K P kt enc b (K.ins k y l))) → wpList P ops Q rest (a.put o.dst undef) w1) : wpList P ops Q (o :: rest) a W := by
  obtain ⟨hs, hown⟩ := H.map_owns p hi
  refine wpList_mapUpdate_own W hgd m x v t hop kt e KL ht rawR b l.length (K.D enc l) hm hown hlen key (enc y) (K.lit k) hx hv hkey (.held (enc y)) [] rfl ?_
  intro w1 ho hg
  rw [K.D_put hs] at ho
  exact h w1 (H.map_turn p hi hn (K.ins_srt hs) ho hg)
theorem Hp.at_del (H : Hp w0 W L) (p : Nat) (hi : L[p]? = some (i, Asn.map K P kt enc b l)) (hn : lone i L p = true) (hgd : o.guard = none) (m x : Operand) (t : TypeId) (hop : o.op = Op.call { callee := Callee.builtin Builtin.delete, args := #[m, x], argTypes := #[t, kt] }) (e : TypeId) (KL : Keyed P kt) (ht : P.underlying t = some (.map kt e))
    (hm : a.eval m = .map (some b)) (k : κ) (key : Value) (hx : a.eval x = key) (hkey : keyOf P kt key = some (K.lit k))
    (h : ∀ w1, Hp w0 w1 (L.set p (i, Asn.map K P kt enc b (K.del k l))) → wpList P ops Q rest (a.put o.dst (.tuple #[])) w1) : wpList P ops Q (o :: rest) a W := by
  obtain ⟨hs, hown⟩ := H.map_owns p hi
  refine wpList_delete_own W hgd m x t kt hop e KL ht rawR b l.length (K.D enc l) hm hown key (K.lit k) hx hkey ?_
  intro w1 ho hg
  rw [K.D_del] at ho
  exact h w1 (H.map_turn p hi hn (K.del_srt hs) ho hg.grown)
end
end Go.Proofs.YtpakolohhoegfaaW.Hp

set_option linter.unusedVariables false
set_option linter.unusedSimpArgs false
namespace Go.Proofs.YtpakolohhoegfaaW.Hp
open Go.RowKit Go.Proofs.YtpakolohhoegfaaW.PrintWords Go.Proofs.YtpakolohhoegfaaW.PrintMore
open Asn

def TrS {X : Type} (P : Program) (n : FuncId) (args : Array Value) (R A : Asn) (φ : Value → X → Prop) (A' B : X → Asn) : Prop := Tr P n args R A (fun r => ex fun x : X => Asn.and (lift (φ r x)) (star (A' x) (B x)))
section
variable {X : Type} {P : Program} {n : FuncId} {args : Array Value} {R A O : Asn} {φ : Value → X → Prop} {A' B : X → Asn} {w0 w : World} {L : List (Nat × Asn)} {i p m : Nat}
theorem Hp.call_star (H : Hp w0 w L) (t : TrS P n args R A φ A' B) (p : Nat) (hi : L[p]? = some (i, A)) (hn : lone i L p = true) (hR : ∀ lab, All w lab L → R.P w (fun k => lab k ≠ i)) (m : Nat) (hm : m ≠ i) :
    Calls P n args w fun e w' => ∃ r x, e = .returned r ∧ φ r x ∧ Hp w0 w' (L.set p (i, A' x) ++ [(m, B x)]) := by
  refine (H.call t p hi hn hR).mono ?_
  rintro e w' ⟨r, rfl, H1⟩
  have hlt : p < L.length := (List.getElem?_eq_some_iff.1 hi).1
  have hs : ∀ Y : Nat × Asn, (L.set p Y)[p]? = some Y := fun Y => List.getElem?_set_self hlt
  obtain ⟨x, H2⟩ := H1.open_ p (hs _)
  rw [List.set_set] at H2
  have hφ := H2.fact p (hs _) (fun S h => h.1)
  have H3 := H2.imp p (A' := star (A' x) (B x)) (hs _) (fun S h => h.2)
  rw [List.set_set] at H3
  have H4 := H3.split p m (hs _) (by rw [lone_set hi]; exact hn) hm
  rw [List.set_set] at H4
  exact ⟨r, x, rfl, hφ, H4⟩
def EndS (w0 : World) (S : Nat → Prop) (φ : Value → X → Prop) (A' B : X → Asn) (e : Ending) (w' : World) : Prop := ∃ r x, e = .returned r ∧ φ r x ∧ Hp w0 w' [(0, old w0 S), (1, A' x), (2, B x)]
theorem EndS.mk {S : Nat → Prop} {r : Value} (x : X) (hφ : φ r x) (H : Hp w0 w [(0, old w0 S), (1, A' x), (2, B x)]) : EndS w0 S φ A' B (.returned r) w := ⟨r, x, rfl, hφ, H⟩
theorem TrS.intro (h : ∀ (w : World) (S : Nat → Prop), Hp w w [(0, old w S), (0, R), (1, A)] → Calls P n args w (EndS w S φ A' B)) : TrS P n args R A φ A' B := by
  refine Tr.intro fun w S H => (h w S H).mono ?_
  rintro e w' ⟨r, x, rfl, hφ, H1⟩
  exact ⟨r, rfl, ((H1.join 1 2 rfl rfl (by decide) rfl rfl).imp 1 (A' := ex fun x : X => Asn.and (lift (φ r x)) (star (A' x) (B x))) rfl (fun S h => ⟨x, hφ, h⟩)).keep [0, 1]⟩
theorem Hp.nil {α : Type} (H : Hp w0 w L) (d : Kd α) (e m : Nat) : Hp w0 w (L ++ [(m, row d e (.slice none 0 0) [])]) := H.free m (Kd.R_nil d e w 0 (fun _ => False))
end
end Go.Proofs.YtpakolohhoegfaaW.Hp

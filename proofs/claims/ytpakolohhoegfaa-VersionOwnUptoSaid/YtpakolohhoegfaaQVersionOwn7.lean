/-
Of the row VersionOwn: printed walks and plain laws, merged (wip/claim2.py).
-/
import Derived.Test.YtpakolohhoegfaaQVersionOwn2
import Derived.Deep.RegionLaw
import Derived.Lib.SliceRun
set_option linter.unusedVariables false
set_option linter.unusedSimpArgs false
namespace Go.Proofs.YtpakolohhoegfaaW.Hp
open Go.RowKit Go.Proofs.YtpakolohhoegfaaW.PrintWords Go.Proofs.YtpakolohhoegfaaW.PrintMore
open Asn

section
variable {w0 w w' W : World} {L L' : List (Nat × Asn)} {i j m p q : Nat} {A B A' : Asn}
theorem noLab_map (i : Nat) : ∀ {L L' : List (Nat × Asn)}, L.map Prod.fst = L'.map Prod.fst → noLab i L = noLab i L'
  | [], [], _ => rfl
  | [], _ :: _, h => by simp at h
  | _ :: _, [], h => by simp at h
  | (a, _) :: L, (b, _) :: L', h => by
    simp only [List.map_cons, List.cons.injEq] at h
    simp only [noLab]
    rw [h.1, noLab_map i h.2]
theorem lone_map (i : Nat) : ∀ {L L' : List (Nat × Asn)} {p : Nat}, L.map Prod.fst = L'.map Prod.fst → lone i L p = lone i L' p
  | [], [], _, _ => rfl
  | [], _ :: _, _, h => by simp at h
  | _ :: _, [], _, h => by simp at h
  | (a, _) :: L, (b, _) :: L', 0, h => by
    simp only [List.map_cons, List.cons.injEq] at h
    simp only [lone]
    exact noLab_map i h.2
  | (a, _) :: L, (b, _) :: L', p + 1, h => by
    simp only [List.map_cons, List.cons.injEq] at h
    simp only [lone]
    rw [h.1, lone_map i h.2]
theorem map_set (hi : L[p]? = some (i, A)) : (L.set p (i, B)).map Prod.fst = L.map Prod.fst := by
  rw [List.map_set]
  apply List.ext_getElem?
  intro n
  rw [List.getElem?_set]
  split
  · rename_i e
    subst e
    rw [List.getElem?_map, hi]
    split
    · rfl
    · rename_i h
      rw [List.length_map] at h
      have := (List.getElem?_eq_some_iff.1 hi).1
      omega
  · rfl
theorem lone_set (hi : L[p]? = some (i, A)) {k r : Nat} : lone k (L.set p (i, B)) r = lone k L r := lone_map k (map_set hi)
section
variable {α : Type} {d : Kd α} {e : Nat} {v : Value} {xs : List α}
theorem Hp.made (H : Hp w0 w L) (m : Nat) (hb : Below w.heap.size w w') (hR : d.R e w' w.heap.size (fun _ => True) v xs) : Hp w0 w' (L ++ [(m, row d e v xs)]) :=
  H.new m hb (Kd.R_lower (Kd.R_mono (Kd.R_bound hR) (fun _ hk => hk.2.1)) (Nat.zero_le _))
theorem Hp.came {A : Option Addr} {n : Nat} (hd : Kd.Heap d) (H : Hp w0 w L) (p : Nat) (hi : L[p]? = some (i, old w0 (fun _ => False))) (h : d.C w0 A n xs) : Hp w0 w (L ++ [(i, rd d A n xs)]) := H.read p hi (Kd.F_mono (Kd.C_F hd h) (fun _ _ => id))
theorem Hp.row_C {A : Option Addr} {n c : Nat} (H : Hp w0 w L) (p : Nat) (hi : L[p]? = some (i, row d e (.slice A n c) xs)) : n = xs.length ∧ n ≤ c ∧ d.C w A xs.length xs := H.fact p hi (fun _ h => Kd.R_reads' h)
theorem R_tail {α : Type} {d : Kd α} {e : Nat} {w : World} {base : Nat} {ok : Nat → Prop} {g n c : Nat} {xs : List α} (h : d.R e w base ok (.slice (some ⟨g, 0, none⟩) n c) xs) (o : Nat) (ho : xs.length * d.sz ≤ o) (u : Value) : d.R e (w.setCell ⟨g, o, none⟩ u) base ok (.slice (some ⟨g, 0, none⟩) n c) xs := by
  obtain ⟨h0, inner, ⟨h1, h2⟩, hr⟩ := h
  refine ⟨h0, inner, ⟨h1, ?_⟩, hr.imp_ (fun _ _ hp => d.M_move (fun k hk => Below.heap_setCell w ⟨g, o, none⟩ u k (fun he => hk.2 (by rw [he]; rfl))) hp)⟩
  rcases h2 with ⟨hv, _⟩ | ⟨g', cap, cur, hv, hb, hh, h3, h4, h5, h6⟩
  · cases hv
  · injection hv with hv1 hv2 hv3
    injection hv1 with hv1
    injection hv1 with hv1
    subst hv1; subst hv3; subst hv2
    refine .inr ⟨g, c, cur.setIfInBounds o u, rfl, hb, blk_set hh o u, h3, h4, by rw [Array.size_setIfInBounds]; exact h5, ?_⟩
    rw [Array.toList_setIfInBounds, List.take_set_of_le ho]
    exact h6
theorem R_tails {α : Type} {d : Kd α} {e : Nat} {base : Nat} {ok : Nat → Prop} {g n c : Nat} {xs : List α} : ∀ (l : List Value) (o : Nat) {w : World}, d.R e w base ok (.slice (some ⟨g, 0, none⟩) n c) xs → xs.length * d.sz ≤ o → d.R e (w.setCells g o l) base ok (.slice (some ⟨g, 0, none⟩) n c) xs
  | [], _, _, h, _ => h
  | v :: r, o, _, h, ho => R_tails r (o + 1) (R_tail h o ho v) (by omega)
end
theorem Tr.of {P : Program} {n : FuncId} {args : Array Value} {A : Asn} {B : Value → Asn} (h : ∀ (w : World) (S : Nat → Prop), A.P w S → Calls P n args w fun e w' => ∃ r, e = .returned r ∧ (B r).P w' S ∧ w'.os = w.os ∧ w'.tape = w.tape ∧ w'.output = w.output ∧ w.heap.size ≤ w'.heap.size ∧ ∀ k, k < w.heap.size → ¬ S k → w'.heap[k]? = w.heap[k]?) : Tr P n args top A B := by
  intro w U S _ hA _
  refine (h w S hA).mono ?_
  rintro e w' ⟨r, rfl, hB, h1, h2, h3, h4, h5⟩
  exact ⟨r, rfl, ⟨S, hB, fun _ hk => .inl hk⟩, h1, h2, h3, h4, h5⟩
end
end Go.Proofs.YtpakolohhoegfaaW.Hp

set_option linter.unusedVariables false
set_option linter.unusedSimpArgs false
namespace Go.Proofs.YtpakolohhoegfaaW.Hp
open Go.RowKit Go.Proofs.YtpakolohhoegfaaW.PrintWords Go.Proofs.YtpakolohhoegfaaW.PrintLast Go.Proofs.YtpakolohhoegfaaW.PrintMore

theorem R_box {α : Type} {d : Kd α} {e : Nat} {w : World} {ok : Nat → Prop} {A : Option Addr} {n c : Nat} {xs : List α} (h : d.R e w 0 ok (.slice A n c) xs) :
    (A = none ∧ n = 0) ∨ ∃ g, A = some ⟨g, 0, none⟩ ∧ ∃ cs : Array Value, c * d.sz ≤ cs.size ∧ (n ≤ c ∧ c ≤ maxLen) ∧ (Asn.box g cs e).P w ok := by
  obtain ⟨h0, inner, ⟨h1, h2⟩, hr⟩ := h
  rcases h2 with ⟨hv, h3⟩ | ⟨g', cap, cur, hv, hb, hh, h3, h4, h5, h6⟩
  · injection hv with hv1 hv2 hv3
    exact .inl ⟨hv1, by omega⟩
  · injection hv with hv1 hv2 hv3
    have hb : (Value.slice A n c).ownBlock = some g' := by rw [hv1]; rfl
    exact .inr ⟨g', hv1, cur, by rw [h5, hv3]; exact Nat.le_refl _, ⟨by omega, by omega⟩, hh, h0 g' hb⟩
def Buf (m : Nat) (e : TypeId) : Option Addr → Asn
  | none => Asn.top
  | some a => Asn.ex fun cs : Array Value => Asn.and (Asn.lift (m ≤ cs.size)) (Asn.box a.block cs e)
variable {w0 w : World} {L : List (Nat × Asn)} {i : Nat}
theorem Hp.row_buf {α : Type} {d : Kd α} {e : Nat} {A : Option Addr} {n c : Nat} {xs : List α} (H : Hp w0 w L) (p : Nat) (hi : L[p]? = some (i, Asn.row d e (.slice A n c) xs)) :
    Hp w0 w (L.set p (i, Buf (c * d.sz) e A)) ∧ ((A = none ∧ n = 0) ∨ ∃ g, A = some ⟨g, 0, none⟩ ∧ n ≤ c ∧ c ≤ maxLen) := by
  refine ⟨H.imp p hi (fun S h => ?_), H.fact p hi (fun S h => ?_)⟩
  · rcases R_box h with ⟨rfl, _⟩ | ⟨g, rfl, cs, h1, h2, h3⟩
    · trivial
    · exact ⟨cs, h1, h3⟩
  · rcases R_box h with h | ⟨g, h, cs, h1, h2, h3⟩
    · exact .inl h
    · exact .inr ⟨g, h, h2⟩
theorem Hp.buf_set {m : Nat} {e : TypeId} {g : Nat} (H : Hp w0 w L) (p : Nat) (hi : L[p]? = some (i, Buf m e (some ⟨g, 0, none⟩))) (hl : lone i L p = true) (j : Nat) (hj : j < m) (u : Value) :
    ((∃ v, w.cell? ⟨g, j, none⟩ = some v) ∧ w.frozen? ⟨g, j, none⟩ = false) ∧ Hp w0 (w.setCell ⟨g, j, none⟩ u) (L.set p (i, Buf m e (some ⟨g, 0, none⟩))) := by
  refine ⟨H.fact p hi (fun S h => ?_), ?_⟩
  · obtain ⟨cs, h1, h2⟩ := h
    exact ⟨⟨cs[j]'(by have : m ≤ cs.size := h1; omega), by rw [blk_cell h2.1]; exact Array.getElem?_eq_getElem _⟩, blk_frozen h2.1 j⟩
  · exact H.upd p hi hl rfl rfl rfl (by simp [World.setCell]) (fun S h => by
      obtain ⟨cs, h1, h2⟩ := h
      exact ⟨⟨cs.setIfInBounds j u, by (show m ≤ _); rw [Array.size_setIfInBounds]; exact h1, blk_set h2.1 j u, .inl h2.2⟩, fun k hk hS => Below.heap_setCell w _ u k (fun e => hS (by have e2 : k = g := e; rw [e2]; exact h2.2))⟩)
theorem Hp.two_buf {α β : Type} {d : Kd α} {d' : Kd β} {e e' : TypeId} {w' : World} {A A' : Option Addr} {n c n' c' : Nat} {xs : List α} {ys : List β} (H : Hp w0 w L) (m : Nat) (hb : Below w.heap.size w w')
    (h0 : d.R e w' w.heap.size (fun k => some k ≠ (Value.slice A' n' c').ownBlock) (.slice A n c) xs) (h1 : d'.R e' w' w.heap.size (fun k => some k ≠ (Value.slice A n c).ownBlock) (.slice A' n' c') ys) :
    Hp w0 w' (L ++ [(m, Asn.star (Buf (c * d.sz) e A) (Buf (c' * d'.sz) e' A'))]) ∧ ((A = none ∧ n = 0) ∨ ∃ g, A = some ⟨g, 0, none⟩ ∧ n ≤ c ∧ c ≤ maxLen) ∧ ((A' = none ∧ n' = 0) ∨ ∃ g, A' = some ⟨g, 0, none⟩ ∧ n' ≤ c' ∧ c' ≤ maxLen) := by
  have b0 := R_box (Kd.R_lower (Kd.R_mono (Kd.R_bound h0) (ok' := fun k => w.heap.size ≤ k ∧ some k ≠ (Value.slice A' n' c').ownBlock) (fun k hk => ⟨hk.2.1, hk.1⟩)) (Nat.zero_le _))
  have b1 := R_box (Kd.R_lower (Kd.R_mono (Kd.R_bound h1) (ok' := fun k => w.heap.size ≤ k ∧ some k ≠ (Value.slice A n c).ownBlock) (fun k hk => ⟨hk.2.1, hk.1⟩)) (Nat.zero_le _))
  have f0 : (A = none ∧ n = 0) ∨ ∃ g, A = some ⟨g, 0, none⟩ ∧ n ≤ c ∧ c ≤ maxLen := b0.imp id (fun ⟨g, h, cs, h1, h2, h3⟩ => ⟨g, h, h2⟩)
  have f1 : (A' = none ∧ n' = 0) ∨ ∃ g, A' = some ⟨g, 0, none⟩ ∧ n' ≤ c' ∧ c' ≤ maxLen := b1.imp id (fun ⟨g, h, cs, h1, h2, h3⟩ => ⟨g, h, h2⟩)
  refine ⟨H.new m hb ?_, f0, f1⟩
  refine ⟨fun k => w.heap.size ≤ k ∧ (Value.slice A n c).ownBlock = some k, fun k => w.heap.size ≤ k ∧ (Value.slice A n c).ownBlock ≠ some k, fun k h1 h2 => h2.2 h1.2, fun k hk _ => hk.elim (fun h => h.1) (fun h => h.1), ?_, ?_⟩
  · rcases b0 with ⟨rfl, _⟩ | ⟨g, rfl, cs, h1, h2, h3⟩
    · trivial
    · exact ⟨cs, h1, h3.1, h3.2.1, rfl⟩
  · rcases b1 with ⟨rfl, _⟩ | ⟨g, rfl, cs, h1, h2, h3⟩
    · trivial
    · exact ⟨cs, h1, h3.1, h3.2.1, fun e => h3.2.2 e.symm⟩
end Go.Proofs.YtpakolohhoegfaaW.Hp

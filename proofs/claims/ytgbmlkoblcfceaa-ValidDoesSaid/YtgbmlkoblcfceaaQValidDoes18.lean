/-
Of the row ValidDoes: printed walks and plain laws, merged (wip/claim2.py).
-/
import Derived.Test.YtgbmlkoblcfceaaQValidDoes3
import Derived.Test.YtgbmlkoblcfceaaQValidDoes8
import Derived.Test.YtgbmlkoblcfceaaQValidDoes17
import Derived.WalkLawsBesides
import Derived.IntWalk
import Derived.BigQuiet
import Derived.Deep.QuietTactic
import Derived.Outline
set_option linter.unusedVariables false
set_option linter.unusedSimpArgs false
namespace Go.Proofs.Ytgbmlkoblcfceaa.Cp
open Go.RowKit Go.Proofs.Ytgbmlkoblcfceaa.B Go.Proofs.YtgbmlkoblcfceaaW.PrintWords Go.Proofs.YtgbmlkoblcfceaaW.PrintLast Go.Proofs.YtgbmlkoblcfceaaW.PrintMore Go.Proofs.YtgbmlkoblcfceaaW.Mine Go.Proofs.Ytgbmlkoblcfceaa.Sl Go.Proofs.YtgbmlkoblcfceaaW.Hp
def cgo (p : ByteArray) : List ByteArray → List ByteArray
  | [] => []
  | y :: l => if p.toList = y.toList then cgo y l else y :: cgo y l
def cpt : List ByteArray → List ByteArray
  | [] => []
  | x :: l => x :: cgo x l
theorem cgo_snoc (l : List ByteArray) (p b : ByteArray) : cgo p (l ++ [b]) = cgo p l ++ (if ((p :: l).getLast (List.cons_ne_nil _ _)).toList = b.toList then [] else [b]) := by
  induction l generalizing p with
  | nil => by_cases e : p.toList = b.toList <;> simp [cgo, e]
  | cons y l ih =>
    simp only [List.cons_append, cgo]
    rw [List.getLast_cons (List.cons_ne_nil _ _)]
    split
    · exact ih y
    · rw [ih y, List.cons_append]
theorem cpt_snoc (l : List ByteArray) (b : ByteArray) (h : l ≠ []) : cpt (l ++ [b]) = cpt l ++ (if (l.getLast h).toList = b.toList then [] else [b]) := by
  cases l with
  | nil => exact absurd rfl h
  | cons x l => simp only [List.cons_append, cpt]; rw [cgo_snoc]
theorem cpt_take {l : List ByteArray} {m : Nat} (h0 : 0 < m) (h : m < l.length) : cpt (l.take (m + 1)) = cpt (l.take m) ++ (if (l.getD (m - 1) ByteArray.empty).toList = (l.getD m ByteArray.empty).toList then [] else [l.getD m ByteArray.empty]) := by
  have hne : l.take m ≠ [] := by
    intro e
    have := congrArg List.length e
    rw [List.length_take, List.length_nil] at this
    omega
  rw [List.take_succ_eq_append_getElem h, cpt_snoc _ _ hne, getD_at _ h, getD_at _ (show m - 1 < l.length by omega)]
  have e : (l.take m).getLast hne = l[m - 1] := by
    rw [List.getLast_eq_getElem, List.getElem_take]
    congr 1
    rw [List.length_take]
    omega
  rw [e]
theorem cpt_len (l : List ByteArray) : (cpt l).length ≤ l.length := by
  have : ∀ (l : List ByteArray) p, (cgo p l).length ≤ l.length := by
    intro l
    induction l with
    | nil => intro p; exact Nat.le_refl _
    | cons y l ih =>
      intro p
      simp only [cgo]
      split
      · exact Nat.le_succ_of_le (ih y)
      · exact Nat.succ_le_succ (ih y)
  cases l with
  | nil => exact Nat.le_refl _
  | cons x l => exact Nat.succ_le_succ (this l x)
def CInv (l ys : List ByteArray) (k m : Nat) : Prop := ys.length = l.length ∧ 1 ≤ k ∧ k + 1 ≤ m ∧ ys.take k = cpt (l.take m) ∧ ∀ t, m ≤ t + 1 → ys[t]? = l[t]?
theorem CInv.skip {l ys : List ByteArray} {k m : Nat} (h : CInv l ys k m) (hm : m < l.length) (he : (l.getD m ByteArray.empty).toList = (l.getD (m - 1) ByteArray.empty).toList) : CInv l ys k (m + 1) := by
  obtain ⟨h1, h2, h3, h4, h5⟩ := h
  refine ⟨h1, h2, by omega, ?_, fun t ht => h5 t (by omega)⟩
  rw [cpt_take (by omega) hm, if_pos he.symm, List.append_nil]
  exact h4
theorem CInv.keep {l ys : List ByteArray} {k m : Nat} (h : CInv l ys k m) (hm : m < l.length) (he : ¬ (l.getD m ByteArray.empty).toList = (l.getD (m - 1) ByteArray.empty).toList) : CInv l (ys.set k (l.getD m ByteArray.empty)) (k + 1) (m + 1) := by
  obtain ⟨h1, h2, h3, h4, h5⟩ := h
  refine ⟨by rw [List.length_set]; exact h1, by omega, by omega, ?_, fun t ht => ?_⟩
  · rw [cpt_take (by omega) hm, if_neg (fun e => he e.symm), ← h4]
    have hk : k < (ys.set k (l.getD m ByteArray.empty)).length := by rw [List.length_set]; omega
    rw [List.take_succ_eq_append_getElem hk, List.getElem_set_self, List.take_set_of_le (Nat.le_refl _)]
  · rw [List.getElem?_set_ne (by omega)]
    exact h5 t (by omega)
theorem CInv.start {l : List ByteArray} {k : Nat} (h1 : 1 ≤ k) (hk : k < l.length) (he : (l.getD k ByteArray.empty).toList = (l.getD (k - 1) ByteArray.empty).toList) (hp : cpt (l.take k) = l.take k) : CInv l l k (k + 1) := by
  refine ⟨rfl, h1, Nat.le_refl _, ?_, fun _ _ => rfl⟩
  rw [cpt_take h1 hk, if_pos he.symm, List.append_nil, hp]
theorem CInv.done {l ys : List ByteArray} {k : Nat} (h : CInv l ys k l.length) : ys.take k = cpt l := by
  have := h.2.2.2.1
  rwa [List.take_length] at this
theorem sort_tr (A : Option Addr) (n c : Nat) (l : List ByteArray) (hl : l.length < 4611686018427387904) : Tr Try.prog 32 #[.slice A n c] Asn.top (Asn.row Kd.string 9 (.slice A n c) l) (fun _ => Asn.row Kd.string 9 (.slice A n c) (Srt.srt l)) := by
  refine Tr.of fun w S h => ?_
  rcases Nat.eq_zero_or_pos l.length with h0 | h0
  · have e0 : l = [] := List.eq_nil_of_length_eq_zero h0
    subst e0
    have hn := (Kd.R_reads' h).1
    subst hn
    refine (Go.Proofs.AnyM.slices_Sort_string_none Try.sort32 A c w).mono ?_
    rintro e w' ⟨rfl, rfl⟩
    exact ⟨_, rfl, by rw [show Srt.srt [] = [] from by simp [Srt.srt]]; exact h, rfl, rfl, rfl, Nat.le_refl _, fun _ _ _ => rfl⟩
  · obtain ⟨g, cap, he, hb, hlt, _⟩ := Kd.R_form h h0
    injection he with he1 he2 he3
    subst he1; subst he3
    refine (Srt.sort_R h hl).mono ?_
    rintro e w' ⟨⟨v, rfl⟩, hR, m, os, rfl⟩
    have hB := below_sorted Srt.encB 1 (Below.refl 0 w) (Nat.zero_le g) (Nat.zero_le _) m (Srt.srt l).toArray os
    exact ⟨_, rfl, hR, hB.os, hB.tape, hB.output, size_sorted Srt.encB 1 w g m _ os, fun k hk hS => heap_unsorted Srt.encB 1 w g m _ os hk (fun e => hS (by rw [e]; exact h.1 g rfl))⟩
set_option maxHeartbeats 8000000 in
set_option maxRecDepth 100000 in
theorem compact_tr (A : Option Addr) (n c : Nat) (l : List ByteArray) (hlen : l.length ≤ 4611686018427387904) : Tr Try.prog 33 #[.slice A n c] Asn.top (Asn.row Kd.string 9 (.slice A n c) l) (fun r => Asn.row Kd.string 9 r (cpt l)) := by
  refine Tr.intro fun w S H0 => ?_
  have H : Hp w w [(0, Asn.old w S), (1, Asn.row Kd.string 9 (.slice A n c) l)] := H0.keep [0, 2]
  clear H0
  obtain ⟨hn, hcap, _⟩ := H.row_C 1 rfl
  subst hn
  rcases Nat.lt_or_ge l.length 2 with hs | hs
  · have e : cpt l = l := by
      match l, hs with
      | [], _ => rfl
      | [x], _ => rfl
    rw [e]
    have HO := Aside0.mk H
    have hd : decide (l.length < 2) = true := decide_eq_true hs
    clear H e
    go_enter Try.func33, Try.ntmps33
    go_wp2
    go_ret
    exact ⟨_, rfl, HO.out⟩
  · obtain ⟨q, cap, he, hb, hlt, _⟩ := H.fact 1 rfl (fun _ h => Kd.R_form h (by omega))
    injection he with he1 he2 he3
    subst he1; subst he3
    have HO := Aside0.mk H
    have hd : decide (l.length < 2) = false := decide_eq_false (by omega)
    have HLEN := Aside0.mk hlen
    clear H hlen hb hlt
    go_enter Try.func33, Try.ntmps33
    go_wp2
    go_loopg [3] l.length (fun gk v3 wr => ∃ k : Nat, v3 = .int .i64 k ∧ 1 ≤ k ∧ k ≤ l.length ∧ l.length - k ≤ gk ∧ Aside0 (Hp w wr [(0, Asn.old w S), (1, Asn.row Kd.string 9 (.slice (some ⟨q, 0, none⟩) l.length c) l)]) ∧ Aside0 (cpt (l.take k) = l.take k))
    case atStart => exact ⟨1, rfl, by omega, by omega, by omega, HO, ⟨by match l, hs with | x :: y :: l, _ => rfl⟩⟩
    case round =>
      clear HO
      obtain ⟨k, rfl, hk1, hkl, hgk, HO, HI⟩ := hrel
      by_cases hlt2 : k < l.length
      · have hltz : (k : Int) < (l.length : Int) := by omega
        obtain ⟨x0, _⟩ := HO.out.fact 1 rfl (fun _ h => Kd.R_cell (enc := Value.string) (h1 := fun _ => rfl) ByteArray.empty h (k : Int) (by omega) hltz)
        obtain ⟨y0, _⟩ := HO.out.fact 1 rfl (fun _ h => Kd.R_cell (enc := Value.string) (h1 := fun _ => rfl) ByteArray.empty h ((k : Int) - 1) (by omega) (by omega))
        have ex : rdOf ByteArray.empty l (k : Int) = l.getD k ByteArray.empty := rfl
        have ey : rdOf ByteArray.empty l ((k : Int) - 1) = l.getD (k - 1) ByteArray.empty := by unfold rdOf; congr 1; omega
        have e1 : ((k : Int) - 1).toNat = k - 1 := by omega
        rw [ex, Int.toNat_natCast] at x0
        rw [ey, e1] at y0
        clear ex ey e1
        by_cases he : (l.getD k ByteArray.empty).toList = (l.getD (k - 1) ByteArray.empty).toList
        · have HST := Aside0.mk (CInv.start hk1 hlt2 he HI.out)
          have heb : ((l.getD k ByteArray.empty).toList == (l.getD (k - 1) ByteArray.empty).toList) = true := beq_iff_eq.mpr he
          clear he
          generalize l.getD k ByteArray.empty = X at x0 heb
          generalize l.getD (k - 1) ByteArray.empty = Y at y0 heb
          have hlen' := HLEN.out
          have hk1z : 0 ≤ (k : Int) - 1 := by omega
          have hwr : IntKind.i64.wrap ((k : Int) - 1) = (k : Int) - 1 := IntWalk.i64_in _ (by omega)
          have hto : ((k : Int) - 1).toNat = k - 1 := by omega
          have hkl1 : k - 1 < l.length := by omega
          clear hlen'
          have hk1l : (k : Int) - 1 < (l.length : Int) := by omega
          have hcne : ¬ c = k := by omega
          have hile : k ≤ l.length := by omega
          have hicc : k ≤ c := by omega
          go_wp2
          go_quiet (fail)
          clear hwr hto
          have hd2 := HO.out.drewN nq
          have HO2 := Aside0.mk hd2
          clear hd2 HO x0 y0
          go_wp2_with (fail)
          go_loopg [3, 5] l.length (fun gk v3 v5 w2 => ∃ (kk j : Nat) (ys : List ByteArray), v3 = .int .i64 kk ∧ v5 = .int .i64 j ∧ 1 ≤ j ∧ k + j ≤ l.length ∧ l.length - (k + j) ≤ gk ∧ Aside0 (Hp w w2 [(0, Asn.old w S), (1, Asn.row Kd.string 9 (.slice (some ⟨q, 0, none⟩) l.length c) ys)]) ∧ Aside0 (CInv l ys kk (k + j)))
          case atStart => exact ⟨k, 1, l, rfl, rfl, Nat.le_refl _, by omega, by omega, HO2, HST⟩
          case round =>
            clear HO2 HST
            obtain ⟨kk, j, ys, rfl, rfl, hj1, hjl, hgk2, HO, HC⟩ := hrel
            have hyl : ys.length = l.length := HC.out.1
            have hkk := HC.out.2.2.1
            have hkk1 := HC.out.2.1
            have hlen' := HLEN.out
            by_cases hlt3 : k + j < l.length
            · have hj3 : j < l.length - k := by omega
              have hj3z : (j : Int) < ((l.length - k : Nat) : Int) := by omega
              have HR : Kd.string.C wr (some ⟨q, 0, none⟩) ys.length ys := (HO.out.row_C 1 rfl).2.2
              rw [← hyl] at HO
              obtain ⟨x0, _⟩ := HO.out.fact 1 rfl (fun _ h => Kd.R_cell (enc := Value.string) (h1 := fun _ => rfl) ByteArray.empty h ((k + j : Nat) : Int) (by omega) (by omega))
              obtain ⟨y0, _⟩ := HO.out.fact 1 rfl (fun _ h => Kd.R_cell (enc := Value.string) (h1 := fun _ => rfl) ByteArray.empty h ((k + (j - 1) : Nat) : Int) (by omega) (by omega))
              obtain ⟨z0, u0⟩ := HO.out.fact 1 rfl (fun _ h => Kd.R_cell (enc := Value.string) (h1 := fun _ => rfl) ByteArray.empty h (kk : Int) (by omega) (by omega))
              rw [hyl] at HO
              have ex : rdOf ByteArray.empty ys ((k + j : Nat) : Int) = l.getD (k + j) ByteArray.empty := by unfold rdOf; rw [Int.toNat_natCast, List.getD_eq_getElem?_getD, List.getD_eq_getElem?_getD, HC.out.2.2.2.2 (k + j) (by omega)]
              have ey : rdOf ByteArray.empty ys ((k + (j - 1) : Nat) : Int) = l.getD (k + j - 1) ByteArray.empty := by unfold rdOf; rw [Int.toNat_natCast, List.getD_eq_getElem?_getD, List.getD_eq_getElem?_getD, HC.out.2.2.2.2 (k + (j - 1)) (by omega), show k + (j - 1) = k + j - 1 by omega]
              rw [ex, Int.toNat_natCast] at x0
              rw [ey, Int.toNat_natCast] at y0
              rw [Int.toNat_natCast] at z0 u0
              generalize rdOf ByteArray.empty ys (kk : Int) = Z at z0
              clear ex ey HR
              have hj1z : 0 ≤ (j : Int) - 1 := by omega
              have hj1n : j - 1 < l.length - k := by omega
              have hj1l : (j : Int) - 1 < ((l.length - k : Nat) : Int) := by omega
              have hkz : kk < l.length := by omega
              have hwr : IntKind.i64.wrap ((j : Int) - 1) = (j : Int) - 1 := IntWalk.i64_in _ (by omega)
              have hto : ((j : Int) - 1).toNat = j - 1 := by omega
              by_cases he2 : (l.getD (k + j) ByteArray.empty).toList = (l.getD (k + j - 1) ByteArray.empty).toList
              · have HST := Aside0.mk (CInv.skip HC.out hlt3 he2)
                have heb : ((l.getD (k + j) ByteArray.empty).toList != (l.getD (k + j - 1) ByteArray.empty).toList) = false := bne_eq_false_iff_eq.mpr he2
                have heb2 : ((l.getD (k + j) ByteArray.empty).toList == (l.getD (k + j - 1) ByteArray.empty).toList) = true := beq_iff_eq.mpr he2
                clear he2 HC
                generalize l.getD (k + j) ByteArray.empty = X at x0 heb heb2
                generalize l.getD (k + j - 1) ByteArray.empty = Y at y0 heb heb2
                have HGK := Aside0.mk hgk2
                have HJL := Aside0.mk hlt3
                clear hgk2 hlt3 hyl
                go_wp2
                go_quiet (fail)
                clear hwr hto
                have HO3 := Aside0.mk (HO.out.drewN nq)
                clear HO
                go_wp2
                go_roundg (l.length - (k + (j + 1)))
                case measure => have := HGK.out; have := HJL.out; omega
                case rel => exact ⟨kk, j + 1, ys, rfl, by go_num, by omega, by have := HJL.out; omega, by omega, HO3, HST⟩
              · have HST := Aside0.mk (CInv.keep HC.out hlt3 he2)
                have heb : ((l.getD (k + j) ByteArray.empty).toList != (l.getD (k + j - 1) ByteArray.empty).toList) = true := bne_iff_ne.mpr he2
                have heb2 : ((l.getD (k + j) ByteArray.empty).toList == (l.getD (k + j - 1) ByteArray.empty).toList) = false := beq_eq_false_iff_ne.mpr he2
                clear he2 HC
                generalize l.getD (k + j) ByteArray.empty = X at x0 heb heb2 HST
                generalize l.getD (k + j - 1) ByteArray.empty = Y at y0 heb heb2
                have HGK := Aside0.mk hgk2
                have HJL := Aside0.mk hlt3
                have HYL := Aside0.mk hyl
                clear hgk2 hlt3 hyl
                go_wp2
                go_quiet (fail)
                clear hwr hto
                have HO3 : Aside0 (Hp w ((wr.drewN nq).setCell ⟨q, kk, none⟩ (.string X)) [(0, Asn.old w S), (1, Asn.row Kd.string 9 (.slice (some ⟨q, 0, none⟩) l.length c) (ys.set kk X))]) := ⟨by
                  have h1 := HO.out.drewN nq
                  rw [← HYL.out] at h1 ⊢
                  exact h1.row_set (enc := Value.string) (h1 := fun _ => rfl) 1 rfl rfl (kk : Int) X⟩
                clear HO
                go_wp2
                go_roundg (l.length - (k + (j + 1)))
                case measure => have := HGK.out; have := HJL.out; omega
                case rel => exact ⟨kk + 1, j + 1, ys.set kk X, by go_num, by go_num, by omega, by have := HJL.out; omega, by omega, HO3, HST⟩
            · have hjn : ¬ j < l.length - k := by omega
              have hjz : ¬ (j : Int) < ((l.length - k : Nat) : Int) := by omega
              have hm : k + j = l.length := by omega
              have hkz : kk < l.length := by omega
              have hC2 := HC.out
              rw [hm] at hC2
              have hfin := hC2.done
              have hzl : (Builtin.zeroCells (Value.cells (.string ⟨#[]⟩)) (l.length - kk)).toList.length = (l.length - kk) * 1 := by simp [Builtin.zeroCells, Value.cells]
              have hz1 : ∀ v ∈ (Builtin.zeroCells (Value.cells (.string ⟨#[]⟩)) (l.length - kk)).toList, v.oneCell' = true := zeros_one _ _ (by intro v hv; have hv' : v ∈ [Value.string ⟨#[]⟩] := Array.mem_toList_iff.2 hv; rw [List.mem_singleton.1 hv']; rfl)
              have hbh : ∀ r, r < (l.length - kk) * 1 → (wr.cell? ⟨q, kk + r, none⟩).isSome = true ∧ wr.frozen? ⟨q, kk + r, none⟩ = false := fun r hr => HO.out.fact 1 rfl (fun _ h => R_behind h (kk + r) (by show _ < l.length * 1; omega))
              have hcl : ∀ ty, (Builtin.clear_ #[23] ty #[.slice (some ⟨q, kk, none⟩) (l.length - kk) (c - kk)]).run Try.prog wr = .ok (.tuple #[]) (wr.setCells q kk (Builtin.zeroCells (Value.cells (.string ⟨#[]⟩)) (l.length - kk)).toList) :=
                fun ty => run_clear wr 23 9 ty (.string ⟨#[]⟩) Try.underlying23 Try.zeroValue9 q kk (l.length - kk) (c - kk) (by omega) hz1 (fun r hr => (hbh r (by rw [hzl] at hr; exact hr)).1) (fun r hr => (hbh r (by rw [hzl] at hr; exact hr)).2)
              generalize (Builtin.zeroCells (Value.cells (.string ⟨#[]⟩)) (l.length - kk)).toList = zs at hcl
              have hcne2 : ¬ c = kk := by omega
              have hile2 : kk ≤ l.length := by omega
              have hize2 : (kk : Int) ≤ (l.length : Int) := by omega
              have hicc2 : kk ≤ c := by omega
              have HYL := Aside0.mk hyl
              have HFI := Aside0.mk hfin
              clear hzl hz1 hbh hC2 hfin hlen' hyl hm hgk2
              go_wp2
              go_ret
              have h1 := HO.out.imp (A' := Asn.row Kd.string 9 (.slice (some ⟨q, 0, none⟩) kk c) (cpt l)) 1 rfl (fun _ h => by
                have := Kd.R_take (m := kk) h (by have := HYL.out; omega)
                rw [HFI.out] at this
                exact this)
              exact ⟨_, rfl, h1.row_tails 1 rfl rfl zs kk (by rw [← HFI.out, List.length_take]; exact Nat.le_trans (Nat.le_of_eq (Nat.mul_one _)) (Nat.min_le_left _ _))⟩
        · have heb : ((l.getD k ByteArray.empty).toList == (l.getD (k - 1) ByteArray.empty).toList) = false := beq_eq_false_iff_ne.mpr he
          have HN : Aside0 (cpt (l.take (k + 1)) = l.take (k + 1)) := ⟨by rw [cpt_take (by omega) hlt2, if_neg (fun e => he e.symm), HI.out, List.take_succ_eq_append_getElem hlt2, getD_at _ hlt2]⟩
          clear he HI
          generalize l.getD k ByteArray.empty = X at x0 heb
          generalize l.getD (k - 1) ByteArray.empty = Y at y0 heb
          have hlen' := HLEN.out
          have hk1z : 0 ≤ (k : Int) - 1 := by omega
          have hwr : IntKind.i64.wrap ((k : Int) - 1) = (k : Int) - 1 := IntWalk.i64_in _ (by omega)
          have hto : ((k : Int) - 1).toNat = k - 1 := by omega
          have hkl1 : k - 1 < l.length := by omega
          have hk1l : (k : Int) - 1 < (l.length : Int) := by omega
          have HGK := Aside0.mk hgk
          have HJL := Aside0.mk hlt2
          clear hgk
          go_wp2
          go_quiet (fail)
          clear hwr hto
          have HO2 := Aside0.mk (HO.out.drewN nq)
          go_wp2
          go_roundg (l.length - (k + 1))
          case measure => have := HGK.out; have := HJL.out; omega
          case rel => exact ⟨k + 1, by go_num, by omega, by have := HJL.out; omega, by omega, HO2, HN⟩
      · obtain rfl : k = l.length := by omega
        have hltz : ¬ (l.length : Int) < (l.length : Int) := by omega
        go_wp2
        go_ret
        have hT := HI.out
        rw [List.take_length] at hT
        exact ⟨_, rfl, by rw [hT]; exact HO.out⟩
end Go.Proofs.Ytgbmlkoblcfceaa.Cp

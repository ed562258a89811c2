/-
Of the row RecordApart: printed walks and plain laws, merged (wip/claim2.py).
-/
import Derived.Test.YtkcdmoghnoodmaaQRecordApart3
import Derived.Test.YtkcdmoghnoodmaaQRecordApart6
import Derived.Test.YtkcdmoghnoodmaaQRecordApart7
import Derived.Test.YtkcdmoghnoodmaaQRecordApart9
import Derived.Test.YtkcdmoghnoodmaaQRecordApart10
import Derived.Test.YtkcdmoghnoodmaaQRecordApart12
set_option linter.unusedVariables false
set_option linter.unusedSimpArgs false
namespace Go.Proofs.Ytkcdmoghnoodmaa.Tk
open Go.RowKit Go.Proofs.Ytkcdmoghnoodmaa.B Go.Proofs.YtkcdmoghnoodmaaW.PrintWords Go.Proofs.YtkcdmoghnoodmaaW.PrintLast Go.Proofs.YtkcdmoghnoodmaaW.PrintMore Go.Proofs.YtkcdmoghnoodmaaW.Mine Go.Proofs.YtkcdmoghnoodmaaW.Hp
open Go.Proofs.Ytkcdmoghnoodmaa.Cod Go.Proofs.Ytkcdmoghnoodmaa.Rd Go.Proofs.Ytkcdmoghnoodmaa.Wr

abbrev U8 : Kd Int := Kd.int .u8
def Leads (A : Option Addr) (xs : List Int) (A' : Option Addr) (ys : List Int) : Prop := ∀ W ok, Kd.F U8 W ok A xs.length xs → Kd.F U8 W ok A' ys.length ys
theorem Leads.trans {A0 A A' : Option Addr} {b xs ys : List Int} (h : Leads A0 b A xs) (k : Leads A xs A' ys) : Leads A0 b A' ys := fun W ok hf => k W ok (h W ok hf)
section
variable {b : List Int} (hb : Bytes b) (hl : b.length ≤ 140737488351232) {p : Nat} {A0 : Option Addr} {a : Int} (ha : In b a)
include hb hl ha
end
end Go.Proofs.Ytkcdmoghnoodmaa.Tk

set_option linter.unusedVariables false
set_option linter.unusedSimpArgs false
namespace Go.Proofs.Ytkcdmoghnoodmaa.Ap
open Go.RowKit Go.Proofs.Ytkcdmoghnoodmaa.B Go.Proofs.YtkcdmoghnoodmaaW.PrintWords Go.Proofs.YtkcdmoghnoodmaaW.PrintLast Go.Proofs.YtkcdmoghnoodmaaW.PrintMore Go.Proofs.YtkcdmoghnoodmaaW.Mine Go.Proofs.YtkcdmoghnoodmaaW.Hp
open Go.Proofs.Ytkcdmoghnoodmaa.Lib Go.Proofs.Ytkcdmoghnoodmaa.Cod Go.Proofs.Ytkcdmoghnoodmaa.Rd Go.Proofs.Ytkcdmoghnoodmaa.Wr

def AtC (b : List Int) (a : Int) (post : List Int) (k : Nat) : Prop := In b a ∧ dr b a = post.take k ∧ k < post.length
theorem take_in {x post : List Int} {k : Nat} (hk : x.length ≤ k) : (x ++ post).take k = x ++ post.take (k - x.length) := by
  rw [List.take_append, List.take_of_length_le hk]
theorem take_out {x post : List Int} {k : Nat} (hk : k < x.length) : (x ++ post).take k = x.take k := by
  rw [List.take_append, show k - x.length = 0 by omega]
  simp
theorem AtC.step {b : List Int} {a : Int} {x post : List Int} {k : Nat} (h : AtC b a (x ++ post) k) (hk : x.length ≤ k) : AtC b (a + x.length) post (k - x.length) := by
  obtain ⟨hi, hd, hl⟩ := h
  rw [take_in hk] at hd
  have h1 := (At.step (b := b) (a := a) (x := x) (post := post.take (k - x.length)) ⟨hi, hd⟩)
  rw [List.length_append] at hl
  exact ⟨h1.1, h1.2, by omega⟩
theorem RN_cut {b : List Int} {a n : Int} {post : List Int} {k : Nat} (hn : i64 n) (h : AtC b a (I n ++ post) k) : (RN b a 0 = (n, a + (I n).length, 0) ∧ AtC b (a + (I n).length) post (k - (I n).length)) ∨ (RN b a 0).2.2 = 10 := by
  by_cases hk : (I n).length ≤ k
  · refine .inl ⟨?_, h.step hk⟩
    have hd := h.2.1
    rw [take_in hk] at hd
    exact RN_at (post := post.take (k - (I n).length)) hn ⟨h.1, hd⟩
  · refine .inr ?_
    have hd := h.2.1
    rw [take_out (by omega)] at hd
    unfold RN
    rw [hd, P_short hn k (by omega), if_pos rfl]
    rfl
theorem T_cut (s : ByteArray) (hs : s.size ≤ 1000) (j : Nat) (hj : j < (tB s).length) : T ((tB s).take j) = (⟨#[]⟩, 0, 10) := by
  have hi : i64 (s.size : Int) := i64_nat (by omega)
  unfold tB at hj ⊢
  by_cases hk : (I (s.size : Int)).length ≤ j
  · rw [take_in hk]
    unfold T
    rw [P_I hi, if_pos rfl, if_neg (by omega), if_pos ?_]
    rw [List.length_append, I_length, bytesOf_length] at hj
    rw [I_length] at hk
    simp only [List.length_append, List.length_take, I_length, bytesOf_length]
    omega
  · rw [take_out (by omega)]
    unfold T
    rw [P_short hi j (by omega)]
    rfl
theorem RT_cut {b : List Int} {a : Int} {s : ByteArray} {post : List Int} {k : Nat} (hs : s.size ≤ 1000) (h : AtC b a (tB s ++ post) k) : (RT b a 0 = (s, a + (tB s).length, 0) ∧ AtC b (a + (tB s).length) post (k - (tB s).length)) ∨ (RT b a 0).2.2 = 10 := by
  by_cases hk : (tB s).length ≤ k
  · refine .inl ⟨?_, h.step hk⟩
    have hd := h.2.1
    rw [take_in hk] at hd
    exact RT_at (post := post.take (k - (tB s).length)) hs ⟨h.1, hd⟩
  · refine .inr ?_
    have hd := h.2.1
    rw [take_out (by omega)] at hd
    unfold RT
    rw [hd, T_cut s hs k (by omega), if_pos rfl]
    rfl
theorem TC_more {a : Int} {l : List S33} (ha : i64 a) (h : commitE a l = 0) : TC (cB a l ++ [0]) = (0, [], 13) := by
  obtain ⟨hl, _, hv⟩ := commit_valid h
  have h0 := At.start (cB a l ++ [0])
  generalize hbb : cB a l ++ [0] = b at h0 ⊢
  have h1 : At b 0 (I a ++ (I l.length ++ (l.flatMap wB ++ [0]))) := by
    refine ⟨h0.1, h0.2.trans ?_⟩
    rw [← hbb]
    unfold cB
    simp [List.append_assoc]
  unfold TC
  rw [RN_at ha h1]
  dsimp only
  rw [RM_at (n := l.length) (by omega) (by omega) h1.step]
  dsimp only
  obtain ⟨a', h2, h3⟩ := WS_at l _ [] [0] hv h1.step.step
  rw [show (l.length : Int).toNat = l.length by omega, h2]
  dsimp only
  have h4 := dr_len h3.1
  rw [h3.2] at h4
  simp only [List.length_cons, List.length_nil] at h4
  unfold endE
  rw [if_pos rfl, if_pos (show a' < (b.length : Int) by omega)]
  rfl
theorem RT_keep (b : List Int) (a e : Int) (h : e ≠ 0) : (RT b a e).2.2 = e := by unfold RT; rw [if_neg h]
theorem RF_keep (b : List Int) (a e : Int) (h : e ≠ 0) : (RF b a e).2.2 = e := by unfold RF; rw [if_neg h]
theorem RN_keep (b : List Int) (a e : Int) (h : e ≠ 0) : (RN b a e).2.2 = e := by unfold RN; rw [if_neg h]
theorem RW_keep (b : List Int) (a e : Int) (h : e ≠ 0) : (RW b a e).2.2 = e := by
  unfold RW
  dsimp only
  have h1 := RT_keep b a e h
  have h2 := RF_keep b (RT b a e).2.1 (RT b a e).2.2 (by rw [h1]; exact h)
  have h3 := RT_keep b (RF b (RT b a e).2.1 (RT b a e).2.2).2.1 (RF b (RT b a e).2.1 (RT b a e).2.2).2.2 (by rw [h2, h1]; exact h)
  rw [h3, h2, h1, if_neg h]
theorem WS_keep (b : List Int) : ∀ (n : Nat) (a e : Int) (l : List S33), e ≠ 0 → (WS b n a e l).2.2 = e
  | 0, _, _, _, _ => rfl
  | n + 1, a, e, l, h => by
    have h1 := RW_keep b a e h
    unfold WS
    rw [WS_keep b n _ _ _ (by rw [h1]; exact h), h1]
theorem RF_cut {b : List Int} {a : Int} {x : Bool} {post : List Int} {k : Nat} (h : AtC b a (fB x ++ post) k) : (RF b a 0 = (x, a + (fB x).length, 0) ∧ AtC b (a + (fB x).length) post (k - (fB x).length)) ∨ (RF b a 0).2.2 = 10 := by
  by_cases hk : (fB x).length ≤ k
  · refine .inl ⟨?_, h.step hk⟩
    have hd := h.2.1
    rw [take_in hk] at hd
    exact RF_at (post := post.take (k - (fB x).length)) ⟨h.1, hd⟩
  · refine .inr ?_
    have hd := h.2.1
    rw [take_out (by omega)] at hd
    have hP : P ((fB x).take k) = (0, 0, 10) := P_short (by cases x <;> exact ⟨by decide, by decide⟩) k (by unfold fB at hk; omega)
    unfold RF F
    rw [hd, hP, if_pos rfl]
    rfl
theorem RW_cut {b : List Int} {a : Int} {x : S33} {post : List Int} {k : Nat} (hx : wrE x = 0) (h : AtC b a (wB x ++ post) k) : (RW b a 0 = (x, a + (wB x).length, 0) ∧ AtC b (a + (wB x).length) post (k - (wB x).length)) ∨ (RW b a 0).2.2 = 10 := by
  have hz := wr_sizes hx
  by_cases hk : (wB x).length ≤ k
  · refine .inl ⟨?_, h.step hk⟩
    have hd := h.2.1
    rw [take_in hk] at hd
    exact (RW_at (post := post.take (k - (wB x).length)) hx ⟨h.1, hd⟩).1
  · refine .inr ?_
    have h0 := h
    unfold wB at h
    rw [List.append_assoc, List.append_assoc] at h
    unfold RW
    dsimp only
    rcases RT_cut hz.1 h with ⟨h1, h2⟩ | h1
    · rw [h1]
      dsimp only
      rcases RF_cut h2 with ⟨h3, h4⟩ | h3
      · rw [h3]
        dsimp only
        rcases RT_cut hz.2 h4 with ⟨h5, h6⟩ | h5
        · have : (wB x).length = (tB x.f0).length + (fB x.f2).length + (tB x.f1).length := by unfold wB; rw [List.length_append, List.length_append]
          have h7 := h6.2.2
          have h8 := h2.2.2
          have h9 := h4.2.2
          have hA := (At.step (b := b) (a := a) (x := []) (post := dr b a) ⟨h0.1, rfl⟩).1
          exfalso
          have e1 := dr_len h6.1
          have e2 := dr_len h0.1
          rw [h6.2.1] at e1
          rw [h0.2.1] at e2
          have e3 := List.length_take_le (k - (tB x.f0).length - (fB x.f2).length - (tB x.f1).length) post
          rw [List.length_take] at e1 e2
          omega
        · rw [h5, if_neg (by decide)]
      · have h5 := RT_keep b (RF b (a + (tB x.f0).length) 0).2.1 (RF b (a + (tB x.f0).length) 0).2.2 (by rw [h3]; decide)
        rw [h5, h3, if_neg (by decide)]
    · have h2 := RF_keep b (RT b a 0).2.1 (RT b a 0).2.2 (by rw [h1]; decide)
      have h3 := RT_keep b (RF b (RT b a 0).2.1 (RT b a 0).2.2).2.1 (RF b (RT b a 0).2.1 (RT b a 0).2.2).2.2 (by rw [h2, h1]; decide)
      rw [h3, h2, h1, if_neg (by decide)]
theorem WS_cut {b : List Int} : ∀ (r : List S33) (a : Int) (l : List S33) (k : Nat), (∀ x ∈ r, wrE x = 0) → AtC b a (r.flatMap wB) k → (WS b r.length a 0 l).2.2 = 10
  | [], a, l, k, _, h => by
    have := h.2.2
    simp at this
  | x :: r, a, l, k, hv, h => by
    rw [List.flatMap_cons] at h
    show (WS b r.length (RW b a 0).2.1 (RW b a 0).2.2 (l ++ [(RW b a 0).1])).2.2 = 10
    rcases RW_cut (hv x (List.mem_cons_self ..)) h with ⟨h1, h2⟩ | h1
    · rw [h1]
      exact WS_cut r _ _ _ (fun y hy => hv y (List.mem_cons_of_mem _ hy)) h2
    · rw [WS_keep b _ _ _ _ (by rw [h1]; decide), h1]
theorem RM_cut {b : List Int} {a : Int} {n : Nat} {most : Int} {post : List Int} {k : Nat} (hn : (n : Int) ≤ most) (hm : most ≤ 1000) (h : AtC b a (I n ++ post) k) : (RM b a 0 most = ((n : Int), a + (I n).length, 0) ∧ AtC b (a + (I n).length) post (k - (I n).length)) ∨ (RM b a 0 most).2.2 = 10 := by
  rcases RN_cut (i64_nat (by omega)) h with ⟨h1, h2⟩ | h1
  · refine .inl ⟨?_, h2⟩
    unfold RM
    rw [h1, if_pos rfl, if_neg (by omega)]
  · refine .inr ?_
    unfold RM
    rw [h1, if_neg (by decide)]
theorem RM_keep (b : List Int) (a e most : Int) (h : e ≠ 0) : (RM b a e most).2.2 = e := by
  unfold RM
  rw [RN_keep b a e h, if_neg h]
theorem TC_cut {a : Int} {l : List S33} (ha : i64 a) (h : commitE a l = 0) (k : Nat) (hk : k < (cB a l).length) : TC ((cB a l).take k) = (0, [], 10) := by
  obtain ⟨hl, _, hv⟩ := commit_valid h
  have h0 := At.start ((cB a l).take k)
  generalize hbb : (cB a l).take k = b at h0 ⊢
  have h1 : AtC b 0 (I a ++ (I l.length ++ l.flatMap wB)) k := by
    refine ⟨h0.1, h0.2.trans ?_, ?_⟩
    · rw [← hbb]
      unfold cB
      rw [List.append_assoc]
    · unfold cB at hk
      rwa [List.append_assoc] at hk
  have key : (WS b (RM b (RN b 0 0).2.1 (RN b 0 0).2.2 64).1.toNat (RM b (RN b 0 0).2.1 (RN b 0 0).2.2 64).2.1 (RM b (RN b 0 0).2.1 (RN b 0 0).2.2 64).2.2 []).2.2 = 10 := by
    rcases RN_cut ha h1 with ⟨h2, h3⟩ | h2
    · rw [h2]
      dsimp only
      rcases RM_cut (n := l.length) (most := 64) (by omega) (by omega) h3 with ⟨h4, h5⟩ | h4
      · rw [h4]
        dsimp only
        rw [show (l.length : Int).toNat = l.length by omega]
        exact WS_cut l _ _ _ hv h5
      · rw [WS_keep b _ _ _ _ (by rw [h4]; decide), h4]
    · have h4 := RM_keep b (RN b 0 0).2.1 (RN b 0 0).2.2 64 (by rw [h2]; decide)
      rw [WS_keep b _ _ _ _ (by rw [h4, h2]; decide), h4, h2]
  unfold TC endE
  dsimp only
  rw [key]
  rfl
theorem ba_inj {s t : ByteArray} (h : s.toList = t.toList) : s = t := by
  rw [ByteArray.toList_eq, ByteArray.toList_eq] at h
  exact ByteArray.ext (Array.toList_inj.1 h)
theorem s33_same (x y : S33) : ((!((x.f0.toList) == (y.f0.toList)) || (!((x.f1.toList) == (y.f1.toList)) || (!(x.f2 == y.f2)))) = true) ↔ x ≠ y := by
  constructor
  · rintro h rfl
    simp at h
  · intro h
    by_cases h0 : x.f0.toList = y.f0.toList
    · by_cases h1 : x.f1.toList = y.f1.toList
      · by_cases h2 : x.f2 = y.f2
        · refine absurd ?_ h
          have e0 := ba_inj h0
          have e1 := ba_inj h1
          cases x; cases y
          simp only at e0 e1 h2
          rw [e0, e1, h2]
        · simp [h2]
      · simp [h1]
    · simp [h0]
theorem cB_inj {a c : Int} {l m : List S33} (ha : i64 a) (hc : i64 c) (h : commitE a l = 0) (g : commitE c m = 0) (e : cB a l = cB c m) : a = c ∧ l = m := by
  have h1 := TC_at ha h
  rw [e, TC_at hc g] at h1
  injection h1 with h2 h3
  injection h3 with h4 _
  exact ⟨h2.symm, h4.symm⟩
theorem sameW_loop (l m : List S33) (hl : l.length ≤ 9223372036854775807) (hm : m.length = l.length) : ∀ (d i : Nat), i + d = l.length → ∃ v, (∀ a b : Int, Ev (fun k => api_Write.l0 k l m (l.length : Int) (i : Int)) v ∧ Ev (fun k => cressetref03_SameCommit.l0 k (i : Int) a l b m) v) ∧ (v = true ↔ l.drop i = m.drop i)
  | 0, i, h => by
    refine ⟨true, fun a b => ⟨Ev.step (f := fun _ => some true) (fun k => by simp only [api_Write.l0]; rw [if_neg (by omega)]) (Ev.now _), Ev.step (f := fun _ => some true) (fun k => by simp only [cressetref03_SameCommit.l0]; rw [if_neg (by omega)]) (Ev.now _)⟩, ?_⟩
    rw [List.drop_of_length_le (by omega), List.drop_of_length_le (by omega)]
    simp
  | d + 1, i, h => by
    obtain ⟨v, h1, h2⟩ := sameW_loop l m hl hm d (i + 1) (by omega)
    have hx := rd33 l i (by omega)
    have hy := rd33 m i (by omega)
    have hd : l.drop i = m.drop i ↔ l[i]'(by omega) = m[i]'(by omega) ∧ l.drop (i + 1) = m.drop (i + 1) := by
      rw [List.drop_eq_getElem_cons (show i < l.length by omega), List.drop_eq_getElem_cons (show i < m.length by omega), List.cons.injEq]
    by_cases ht : (!((((rd_T33 l i).f0).toList) == (((rd_T33 m i).f0).toList)) || (!((((rd_T33 l i).f1).toList) == (((rd_T33 m i).f1).toList)) || (!(((rd_T33 l i).f2) == ((rd_T33 m i).f2))))) = true
    · refine ⟨false, fun a b => ⟨Ev.step (f := fun _ => some false) (fun k => by simp only [api_Write.l0]; rw [if_pos (by omega), if_pos (by omega), if_pos (by omega), if_pos (by omega), if_pos ht]) (Ev.now _), Ev.step (f := fun _ => some false) (fun k => by simp only [cressetref03_SameCommit.l0]; rw [if_pos (by omega), if_pos (by omega), if_pos (by omega), if_pos ht]) (Ev.now _)⟩, ?_⟩
      have h3 := (s33_same _ _).1 ht
      rw [hx, hy] at h3
      rw [hd]
      simp [h3]
    · refine ⟨v, fun a b => ⟨?_, ?_⟩, ?_⟩
      · refine Ev.step (fun k => by simp only [api_Write.l0]; rw [if_pos (by omega), if_pos (by omega), if_pos (by omega), if_pos (by omega), if_neg ht]) ?_
        rw [Cod.wr1 (x := (i : Int) + 1) (by omega) (by omega)]
        exact (h1 a b).1
      · refine Ev.step (fun k => by simp only [cressetref03_SameCommit.l0]; rw [if_pos (by omega), if_pos (by omega), if_pos (by omega), if_neg ht]) ?_
        rw [Cod.wr1 (x := (i : Int) + 1) (by omega) (by omega)]
        exact (h1 a b).2
      · have h3 : rd_T33 l i = rd_T33 m i := Classical.byContradiction (fun hn => ht ((s33_same _ _).2 hn))
        rw [hx, hy] at h3
        rw [hd, h2]
        simp [h3]
theorem sameCs_ev (a b : Int) (l m : List S33) (hl : l.length ≤ 9223372036854775807) : ∃ v, Ev (fun k => record_SameCommit.f k a l b m) v ∧ Ev (fun k => cressetref03_SameCommit.f k a l b m) v ∧ (v = true ↔ a = b ∧ l = m) := by
  unfold record_SameCommit.f cressetref03_SameCommit.f
  by_cases hab : a = b
  · by_cases hm : m.length = l.length
    · obtain ⟨v, h1, h2⟩ := sameW_loop l m hl hm l.length 0 (by omega)
      refine ⟨v, ?_, ?_, ?_⟩
      · refine Ev.congr (f := _) (fun k => if_pos hab) ?_
        refine Ev.bind (a := v) ?_ (Ev.now _)
        unfold api_Write.f
        exact Ev.congr (f := _) (fun k => if_pos (by omega)) (h1 a b).1
      · refine Ev.congr (f := _) (fun k => if_pos hab) ?_
        refine Ev.step (f := fun k => cressetref03_SameCommit.l0 k 0 a l b m) (fun k => by simp only [cressetref03_SameCommit.j0]; rw [if_neg (by simp [hm])]) ?_
        exact (h1 a b).2
      · rw [h2]
        simp [hab]
    · refine ⟨false, ?_, ?_, ?_⟩
      · refine Ev.congr (f := _) (fun k => if_pos hab) ?_
        refine Ev.bind (a := false) ?_ (Ev.now _)
        unfold api_Write.f
        exact Ev.congr (f := _) (fun k => if_neg (by omega)) (Ev.now _)
      · refine Ev.congr (f := _) (fun k => if_pos hab) ?_
        refine Ev.step (f := fun k => some false) (fun k => by simp only [cressetref03_SameCommit.j0]; rw [if_pos (by simp; omega)]) (Ev.now _)
      · simp only [Bool.false_eq_true, false_iff, not_and]
        rintro _ rfl
        exact hm rfl
  · refine ⟨false, Ev.congr (f := _) (fun k => if_neg hab) (Ev.now _), ?_, ?_⟩
    · refine Ev.congr (f := _) (fun k => if_neg hab) ?_
      exact Ev.step (f := fun k => some false) (fun k => by simp only [cressetref03_SameCommit.j0]; rw [if_pos trivial]) (Ev.now _)
    · simp [hab]

end Go.Proofs.Ytkcdmoghnoodmaa.Ap

set_option linter.unusedVariables false
set_option linter.unusedSimpArgs false
namespace Go.Proofs.Ytkcdmoghnoodmaa.Ap
open Go.RowKit Go.Proofs.Ytkcdmoghnoodmaa.B Go.Proofs.YtkcdmoghnoodmaaW.PrintWords Go.Proofs.YtkcdmoghnoodmaaW.PrintLast Go.Proofs.YtkcdmoghnoodmaaW.PrintMore Go.Proofs.YtkcdmoghnoodmaaW.Mine Go.Proofs.YtkcdmoghnoodmaaW.Hp
open Go.Proofs.Ytkcdmoghnoodmaa.Lib Go.Proofs.Ytkcdmoghnoodmaa.Cod Go.Proofs.Ytkcdmoghnoodmaa.Rd Go.Proofs.Ytkcdmoghnoodmaa.Wr Go.Proofs.Ytkcdmoghnoodmaa.Tk

theorem h33 : Kd.Heap k33 := Kd.heap_iso _ (Kd.heap_pair Kd.heap_string (Kd.heap_pair Kd.heap_string Kd.heap_bool))
theorem eq_bytes {x y : List Int} (hx : Bytes x) (hy : Bytes y) {v : Bool} (h : v = true ↔ x = y) : bytes_Equal.f x y = some v := by
  unfold bytes_Equal.f
  congr 1
  apply Bool.eq_iff_iff.2
  rw [h, beq_iff_eq]
  constructor
  · intro e
    have e1 := congrArg bytesOf (ba_inj e)
    rwa [bytes_str hx, bytes_str hy] at e1
  · rintro rfl
    rfl
theorem cB_pos (a : Int) (l : List S33) : 0 < (cB a l).length := by
  unfold cB
  rw [List.length_append, List.length_append, I_length]
  unfold kw
  omega
def apT.T7 : Bool × List (List Nat × List Nat) := (true, [([], []), ([], []), ([0, 1], [0, 1]), ([], []), ([], []), ([3, 4, 2], [3, 4]), ([2, 5], [2, 5]), ([6, 5], [6]), ([7], [7]), ([7], [7]), ([8, 9, 7, 7], [7, 8, 9]), ([7], [7]), ([7], [7]), ([11, 12, 10, 7], [7, 11, 12]), ([10, 13, 7], [7, 10, 13]), ([7, 14], [7, 14])])
def apT.B7 : List Nat := [0, 0, 3, 0, 0, 31, 63, 127, 255, 255, 1023, 255, 255, 8191, 16383, 32767]
theorem apT.tab7 : rtab .any (opsOf Try.f6 7) = apT.T7 := by kernel_rfl
theorem apT.bits7 : waitsOk apT.T7.2 apT.B7 = true := by kernel_rfl

set_option maxHeartbeats 16000000 in
set_option maxRecDepth 100000 in
theorem apart_go (x0 : Int) (A0 : Option Addr) (c0 : Nat) (l0 : List S33) (x1 : Int) (A1 : Option Addr) (c1 : Nat) (l1 : List S33) (a2 : Int) (w : World)
    (hr0 : Kd.C k33 w A0 l0.length l0) (hc0 : l0.length ≤ c0) (hr1 : Kd.C k33 w A1 l1.length l1) (hc1 : l1.length ≤ c1) (hi0 : i64 x0) (hi1 : i64 x1) (hl0 : l0.length ≤ 9223372036854775807) (ha0 : 0 ≤ a2) (ha1 : a2 ≤ 65535) :
    Calls Try.prog 6 #[.agg #[.int .i64 x0, .slice A0 l0.length c0], .agg #[.int .i64 x1, .slice A1 l1.length c1], .int .u16 a2] w fun e w' => e = .returned (.bool true) ∧ Below w.heap.size w w' := by
  have H0 := ((Hp.start w).came h33 0 rfl hr0).came h33 0 rfl hr1
  clear hr0 hr1
  obtain ⟨k1, hk1⟩ := (recCommit_ev x0 l0 hi0).rounds
  obtain ⟨k2, hk2⟩ := (recCommit_ev x1 l1 hi1).rounds
  obtain ⟨k3, hk3⟩ := (checkCommitR_ev x0 l0).rounds
  obtain ⟨k4, hk4⟩ := (checkCommitR_ev x1 l1).rounds
  obtain ⟨v, h5, h6, hv⟩ := sameCs_ev x0 x1 l0 l1 hl0
  obtain ⟨k5, hk5⟩ := h5.rounds
  obtain ⟨k6, hk6⟩ := h6.rounds
  have HD : Aside0 (((commitE x0 l0 != 0) = true ∧ (commitE x0 l0 == 0) = false) ∨ (commitE x0 l0 = 0 ∧ (commitE x1 l1 != 0) = true ∧ (commitE x1 l1 == 0) = false) ∨
      (commitE x0 l0 = 0 ∧ commitE x1 l1 = 0 ∧ bytes_Equal.f (commitR x0 l0).1 (commitR x1 l1).1 = some v ∧ (commitR x0 l0).1 = cB x0 l0)) := ⟨by
    by_cases h0 : commitE x0 l0 = 0
    · by_cases h1 : commitE x1 l1 = 0
      · refine .inr (.inr ⟨h0, h1, ?_, by unfold commitR; rw [if_pos h0]⟩)
        unfold commitR
        rw [if_pos h0, if_pos h1]
        exact eq_bytes (cB_bytes hi0 h0).1 (cB_bytes hi1 h1).1 (by rw [hv]; exact ⟨fun ⟨e1, e2⟩ => by rw [e1, e2], fun e => cB_inj hi0 hi1 h0 h1 e⟩)
      · exact .inr (.inl ⟨h0, bne_iff_ne.mpr h1, beq_eq_false_iff_ne.mpr h1⟩)
    · exact .inl ⟨bne_iff_ne.mpr h0, beq_eq_false_iff_ne.mpr h0⟩⟩
  have HT : Aside0 (commitE x0 l0 = 0 → ∃ k7 k8 q : Nat, q < (cB x0 l0).length ∧ a2 % ((cB x0 l0).length : Int) = q ∧ (cB x0 l0).length ≤ 1000000 ∧ record_TakeCommit.f k7 ((cB x0 l0).take q) = some (0, [], 10) ∧ record_TakeCommit.f k8 (cB x0 l0 ++ [0]) = some (0, [], 13)) := ⟨by
    intro h0
    obtain ⟨hb, hle⟩ := cB_bytes hi0 h0
    have hp := cB_pos x0 l0
    have hq1 := Int.emod_nonneg a2 (b := ((cB x0 l0).length : Int)) (by omega)
    have hq2 := Int.emod_lt_of_pos a2 (b := ((cB x0 l0).length : Int)) (by omega)
    obtain ⟨q, hq⟩ := Int.eq_ofNat_of_zero_le hq1
    have e7 := takeCommit_ev (b := (cB x0 l0).take q) (fun z hz => hb z (List.mem_of_mem_take hz)) (by rw [List.length_take]; omega)
    rw [TC_cut hi0 h0 q (by omega)] at e7
    have e8 := takeCommit_ev (b := cB x0 l0 ++ [0]) (Bytes_app hb (fun z hz => by rw [List.mem_singleton] at hz; subst hz; decide)) (by rw [List.length_append]; simp; omega)
    rw [TC_more hi0 h0] at e8
    obtain ⟨k7, h7⟩ := e7.rounds
    obtain ⟨k8, h8⟩ := e8.rounds
    exact ⟨k7, k8, q, by omega, hq, hle, h7, h8⟩⟩
  obtain ⟨⟨y0, e0⟩, hy0⟩ : ∃ q, commitR x0 l0 = q := ⟨_, rfl⟩
  obtain ⟨⟨y1, e1⟩, hy1⟩ : ∃ q, commitR x1 l1 = q := ⟨_, rfl⟩
  have he0 : commitE x0 l0 = e0 := by unfold commitR at hy0; split at hy0 <;> (simp only [Prod.mk.injEq] at hy0; omega)
  have he1 : commitE x1 l1 = e1 := by unfold commitR at hy1; split at hy1 <;> (simp only [Prod.mk.injEq] at hy1; omega)
  rw [hy0] at hk1 HD
  rw [hy1] at hk2 HD
  rw [he0] at hk3 HD HT
  rw [he1] at hk4 HD
  dsimp only at HD
  have HK1 := Aside0.mk hk1
  have HK2 := Aside0.mk hk2
  have HK3 := Aside0.mk hk3
  have HK4 := Aside0.mk hk4
  have HK5 := Aside0.mk hk5
  have HK6 := Aside0.mk hk6
  have hc0' := Aside0.mk hc0
  have hc1' := Aside0.mk hc1
  have HA := Aside0.mk (And.intro ha0 ha1)
  clear hk1 hk2 hk3 hk4 hk5 hk6 h5 h6 hv hc0 hc1 hl0 hi0 hi1 hy0 hy1 he0 he1 ha0 ha1
  go_enter Try.func6, Try.ntmps6
  go_upto_region 5 with (first
    | ((with_reducible refine gate_dst (N := 3) rfl ?_); refine Hp.at_box H0 1 ?hg (N := 3) ?hd (cs := #[.int .i64 x0, .slice A0 l0.length c0]) (t := 24) ?hr ?_; (case hd => rfl); (case hg => rfl); (case hr => first | (go_simp; done) | (go_simp; rfl)); intro g3 w1 H1; clear H0)
    | ((with_reducible refine gate_dst (N := 4) rfl ?_); refine Hp.at_box H1 2 ?hg (N := 4) ?hd (cs := #[.int .i64 x1, .slice A1 l1.length c1]) (t := 24) ?hr ?_; (case hd => rfl); (case hg => rfl); (case hr => first | (go_simp; done) | (go_simp; rfl)); intro g4 w2 H2; clear H1; have z00 := H2.cell 3 rfl 0 (v := .int .i64 x0) rfl; have z01 := H2.cell 3 rfl 1 (v := .slice A0 l0.length c0) rfl; have z10 := H2.cell 4 rfl 0 (v := .int .i64 x1) rfl; have z11 := H2.cell 4 rfl 1 (v := .slice A1 l1.length c1) rfl)
    | (go_at_call 24; refine (record_Commit.calls k1 x0 A0 c0 l0 y0 e0 _ (H2.reads 1 rfl) hc0'.out HK1.out).mono ?_; rintro e w3 ⟨v3, rfl, hR, hb⟩; clear z00 z01 z10 z11; have H3' := H2.made 3 hb hR; obtain ⟨A3, c3, rfl⟩ := Kd.R_slice hR; clear hR hb H2; have H3 : Hp w w3 [(0, Asn.old w (fun _ => False)), (0, Asn.rd k33 A0 l0.length l0), (0, Asn.rd k33 A1 l1.length l1), (1, Asn.box g3 #[.int .i64 x0, .slice A0 l0.length c0] 24), (2, Asn.box g4 #[.int .i64 x1, .slice A1 l1.length c1] 24), (3, Asn.row U8 5 (.slice A3 y0.length c3) y0)] := H3'; clear H3'; have z00 := H3.cell 3 rfl 0 (v := .int .i64 x0) rfl; have z01 := H3.cell 3 rfl 1 (v := .slice A0 l0.length c0) rfl; have z10 := H3.cell 4 rfl 0 (v := .int .i64 x1) rfl; have z11 := H3.cell 4 rfl 1 (v := .slice A1 l1.length c1) rfl)
    | (go_at_call 24; refine (record_Commit.calls k2 x1 A1 c1 l1 y1 e1 _ (H3.reads 2 rfl) hc1'.out HK2.out).mono ?_; rintro e w4 ⟨v4, rfl, hR, hb⟩; clear z00 z01 z10 z11; have H4' := H3.made 4 hb hR; obtain ⟨A4, c4, rfl⟩ := Kd.R_slice hR; clear hR hb H3; have H4 : Hp w w4 [(0, Asn.old w (fun _ => False)), (0, Asn.rd k33 A0 l0.length l0), (0, Asn.rd k33 A1 l1.length l1), (1, Asn.box g3 #[.int .i64 x0, .slice A0 l0.length c0] 24), (2, Asn.box g4 #[.int .i64 x1, .slice A1 l1.length c1] 24), (3, Asn.row U8 5 (.slice A3 y0.length c3) y0), (4, Asn.row U8 5 (.slice A4 y1.length c4) y1)] := H4'; clear H4'; have z00 := H4.cell 3 rfl 0 (v := .int .i64 x0) rfl; have z01 := H4.cell 3 rfl 1 (v := .slice A0 l0.length c0) rfl; have z10 := H4.cell 4 rfl 0 (v := .int .i64 x1) rfl; have z11 := H4.cell 4 rfl 1 (v := .slice A1 l1.length c1) rfl)
    | (go_at_call 19; refine (cressetref03_CheckCommit.calls k3 x0 A0 c0 l0 e0 _ (H4.reads 1 rfl) hc0'.out HK3.out).mono ?_; rintro e w5 ⟨rfl, hb⟩; clear z00 z01 z10 z11; have H5 := H4.same hb; clear hb H4; have z00 := H5.cell 3 rfl 0 (v := .int .i64 x0) rfl; have z01 := H5.cell 3 rfl 1 (v := .slice A0 l0.length c0) rfl; have z10 := H5.cell 4 rfl 0 (v := .int .i64 x1) rfl; have z11 := H5.cell 4 rfl 1 (v := .slice A1 l1.length c1) rfl)
    | (go_at_call 19; refine (cressetref03_CheckCommit.calls k4 x1 A1 c1 l1 e1 _ (H5.reads 2 rfl) hc1'.out HK4.out).mono ?_; rintro e w6 ⟨rfl, hb⟩; clear z00 z01 z10 z11; have H6 := H5.same hb; clear hb H5; have z00 := H6.cell 3 rfl 0 (v := .int .i64 x0) rfl; have z01 := H6.cell 3 rfl 1 (v := .slice A0 l0.length c0) rfl; have z10 := H6.cell 4 rfl 0 (v := .int .i64 x1) rfl; have z11 := H6.cell 4 rfl 1 (v := .slice A1 l1.length c1) rfl)
    | (go_at_call 17; refine (cressetlaw03_live.calls 0 true _ rfl).mono ?_; rintro e w7 ⟨rfl, hb⟩; clear z00 z01 z10 z11; have H7 := H6.same hb; clear hb H6; have z00 := H7.cell 3 rfl 0 (v := .int .i64 x0) rfl; have z01 := H7.cell 3 rfl 1 (v := .slice A0 l0.length c0) rfl; have z10 := H7.cell 4 rfl 0 (v := .int .i64 x1) rfl; have z11 := H7.cell 4 rfl 1 (v := .slice A1 l1.length c1) rfl))
  rcases HD.out with ⟨q1, q2⟩ | ⟨rfl, q1, q2⟩ | ⟨rfl, rfl, hEq, hyB⟩
  · go_wp2
    go_ret
    exact ⟨rfl, H7.below 0 rfl (fun _ h => h)⟩
  · go_wp2
    go_ret
    exact ⟨rfl, H7.below 0 rfl (fun _ h => h)⟩
  · obtain ⟨k7, k8, q, hq, hmod, hle, hk7, hk8⟩ := HT.out rfl
    rw [← hyB] at hq hmod hle hk7 hk8
    have HEQ := Aside0.mk hEq
    have HK7 := Aside0.mk hk7
    have HK8 := Aside0.mk hk8
    have HQ := Aside0.mk hq
    have HM := Aside0.mk hmod
    have HLE := Aside0.mk hle
    obtain ⟨y2, hy2⟩ : ∃ y2, y0 ++ [0] = y2 := ⟨_, rfl⟩
    rw [hy2] at HK8
    have HY := Aside0.mk hy2
    clear HD HT hEq hyB hk7 hk8 hq hmod hle hy2
    go_upto_region 7 with (first | (go_at_call 99; skip))
    have HD := H7.drew
    clear z00 z01 z10 z11
    clear H7
    refine start_ (n := 16) (S := fun w' => w'.cell? ⟨g3, 0, none⟩ = some (.int .i64 x0) ∧ w'.cell? ⟨g3, 1, none⟩ = some (.slice A0 l0.length c0) ∧ w'.cell? ⟨g4, 0, none⟩ = some (.int .i64 x1) ∧ w'.cell? ⟨g4, 1, none⟩ = some (.slice A1 l1.length c1)) (ds := []) #[false, false, false, false, false, false, false, false, false, false, false, false, false, false, false, false] (by kernel_rfl) rfl rfl ⟨(HD.cell 3 rfl 0 (v := .int .i64 x0) rfl), (HD.cell 3 rfl 1 (v := .slice A0 l0.length c0) rfl), (HD.cell 4 rfl 0 (v := .int .i64 x1) rfl), (HD.cell 4 rfl 1 (v := .slice A1 l1.length c1) rfl)⟩ (fun hHeld => ?_); refine with_tabW apT.tab7 apT.bits7 (fun HT_ HW_ => ?_)
    refine pure_ (i := 0) (N := some 45) (v := ?_) (a' := ?_) #[true, false, false, false, false, false, false, false, false, false, false, false, false, false, false, false] rfl rfl (any_of HT_.out (by kernel_rfl)) (fun _ _ _ h => h) (Or.inl ⟨by rfl, ?_⟩) ?_ ?_
    rotate_left
    · intro w'
      go_simp
      with_reducible rfl
    rotate_left
    · simp only [Act.put, List.setIfInBounds_toArray, List.set_cons_zero, List.set_cons_succ, i64_w, i32_w]
      rfl
    refine pure_ (i := 1) (N := some 46) (v := ?_) (a' := ?_) #[true, true, false, false, false, false, false, false, false, false, false, false, false, false, false, false] rfl rfl (any_of HT_.out (by kernel_rfl)) (fun _ _ _ h => h) (Or.inl ⟨by rfl, ?_⟩) ?_ ?_
    rotate_left
    · intro w'
      go_simp
      with_reducible rfl
    rotate_left
    · simp only [Act.put, List.setIfInBounds_toArray, List.set_cons_zero, List.set_cons_succ, i64_w, i32_w]
      rfl
    refine take_ (i := 3) (N := some 48) (v := ?_) (a' := ?_) #[true, true, false, true, false, false, false, false, false, false, false, false, false, false, false, false] rfl rfl (take_ofW HT_.out HW_.out (by kernel_rfl)) (fun _ _ _ h => h) (Or.inl ⟨by rfl, ?_⟩) hHeld ?_ ?_
    rotate_left
    · rintro w' ⟨s0, s1, s2, s3⟩
      go_simp
      with_reducible rfl
    rotate_left
    · simp only [Act.put, List.setIfInBounds_toArray, List.set_cons_zero, List.set_cons_succ, i64_w, i32_w]
      rfl
    refine take_ (i := 4) (N := some 49) (v := ?_) (a' := ?_) #[true, true, false, true, true, false, false, false, false, false, false, false, false, false, false, false] rfl rfl (take_ofW HT_.out HW_.out (by kernel_rfl)) (fun _ _ _ h => h) (Or.inl ⟨by rfl, ?_⟩) hHeld ?_ ?_
    rotate_left
    · rintro w' ⟨s0, s1, s2, s3⟩
      go_simp
      with_reducible rfl
    rotate_left
    · simp only [Act.put, List.setIfInBounds_toArray, List.set_cons_zero, List.set_cons_succ, i64_w, i32_w]
      rfl
    refine one_ (i := 2) (N := some 47) #[true, true, true, true, true, false, false, false, false, false, false, false, false, false, false, false] rfl rfl (one_of HT_.out (by kernel_rfl)) (by decide) (fun Kx_ hKx_ => ?_)
    refine goes_ Try.func30 (by kernel_rfl) rfl #[.slice A3 y0.length c3, .slice A4 y1.length c4] (by rfl) rfl rfl (by (try simp only [List.map_toArray, List.map_cons, List.map_nil]); first | done | rfl) ?_
    refine (bytes_Equal.calls A3 c3 y0 A4 c4 y1 v _ (HD.row_C 5 rfl).2.2 (HD.row_C 5 rfl).2.1 (HD.row_C 6 rfl).2.2 (HD.row_C 6 rfl).2.1 HEQ.out).mono ?_
    rintro e w8 ⟨rfl, ⟨nd, rfl⟩⟩
    have H8 := HD.drewN nd
    refine ⟨_, rfl, ?_⟩
    refine hKx_.out _ _ ⟨(H8.cell 3 rfl 0 (v := .int .i64 x0) rfl), (H8.cell 3 rfl 1 (v := .slice A0 l0.length c0) rfl), (H8.cell 4 rfl 0 (v := .int .i64 x1) rfl), (H8.cell 4 rfl 1 (v := .slice A1 l1.length c1) rfl)⟩ (fun hHeld => ?_)
    clear hKx_ Kx_
    refine norm_ (a' := ?_) ?_ ?_
    rotate_left
    · show Act.put _ (some 47) _ = _
      simp only [Act.put, List.setIfInBounds_toArray, List.set_cons_zero, List.set_cons_succ, i64_w, i32_w]
      rfl
    refine one_ (i := 5) (N := some 50) #[true, true, true, true, true, true, false, false, false, false, false, false, false, false, false, false] rfl rfl (one_of HT_.out (by kernel_rfl)) (by decide) (fun Kx_ hKx_ => ?_)
    refine goes_ Try.func35 (by kernel_rfl) rfl #[.agg #[.int .i64 x0, .slice A0 l0.length c0], .agg #[.int .i64 x1, .slice A1 l1.length c1]] (by rfl) rfl rfl (by (try simp only [List.map_toArray, List.map_cons, List.map_nil]); first | done | rfl) ?_
    refine (cressetref03_SameCommit.calls k6 x0 A0 c0 l0 x1 A1 c1 l1 v _ (H8.reads 1 rfl) hc0'.out (H8.reads 2 rfl) hc1'.out HK6.out).mono ?_
    rintro e w9 ⟨rfl, hb1⟩
    have H9 := H8.same hb1
    clear hb1
    refine ⟨_, rfl, ?_⟩
    refine hKx_.out _ _ ⟨(H9.cell 3 rfl 0 (v := .int .i64 x0) rfl), (H9.cell 3 rfl 1 (v := .slice A0 l0.length c0) rfl), (H9.cell 4 rfl 0 (v := .int .i64 x1) rfl), (H9.cell 4 rfl 1 (v := .slice A1 l1.length c1) rfl)⟩ (fun hHeld => ?_)
    clear hKx_ Kx_
    refine norm_ (a' := ?_) ?_ ?_
    rotate_left
    · show Act.put _ (some 50) _ = _
      simp only [Act.put, List.setIfInBounds_toArray, List.set_cons_zero, List.set_cons_succ, i64_w, i32_w]
      rfl
    refine pure_ (i := 6) (N := some 51) (v := ?_) (a' := ?_) #[true, true, true, true, true, true, true, false, false, false, false, false, false, false, false, false] rfl rfl (any_of HT_.out (by kernel_rfl)) (fun _ _ _ h => h) (Or.inl ⟨by rfl, ?_⟩) ?_ ?_
    rotate_left
    · intro w'
      go_simp
      with_reducible rfl
    rotate_left
    · simp only [Act.put, List.setIfInBounds_toArray, List.set_cons_zero, List.set_cons_succ, i64_w, i32_w]
      rfl
    refine pure_ (i := 7) (N := some 52) (v := ?_) (a' := ?_) #[true, true, true, true, true, true, true, true, false, false, false, false, false, false, false, false] rfl rfl (any_of HT_.out (by kernel_rfl)) (fun _ _ _ h => h) (Or.inl ⟨by rfl, ?_⟩) ?_ ?_
    rotate_left
    · intro w'
      go_simp
      with_reducible rfl
    rotate_left
    · simp only [Act.put, List.setIfInBounds_toArray, List.set_cons_zero, List.set_cons_succ, i64_w, i32_w]
      rfl
    refine take_ (i := 8) (N := some 53) (v := ?_) (a' := ?_) #[true, true, true, true, true, true, true, true, true, false, false, false, false, false, false, false] rfl rfl (take_ofW HT_.out HW_.out (by kernel_rfl)) (fun _ _ _ h => h) (Or.inl ⟨by rfl, ?_⟩) hHeld ?_ ?_
    rotate_left
    · rintro w' ⟨s0, s1, s2, s3⟩
      go_simp
      with_reducible rfl
    rotate_left
    · simp only [Act.put, List.setIfInBounds_toArray, List.set_cons_zero, List.set_cons_succ, i64_w, i32_w]
      rfl
    refine take_ (i := 9) (N := some 54) (v := ?_) (a' := ?_) #[true, true, true, true, true, true, true, true, true, true, false, false, false, false, false, false] rfl rfl (take_ofW HT_.out HW_.out (by kernel_rfl)) (fun _ _ _ h => h) (Or.inl ⟨by rfl, ?_⟩) hHeld ?_ ?_
    rotate_left
    · rintro w' ⟨s0, s1, s2, s3⟩
      go_simp
      with_reducible rfl
    rotate_left
    · simp only [Act.put, List.setIfInBounds_toArray, List.set_cons_zero, List.set_cons_succ, i64_w, i32_w]
      rfl
    refine take_ (i := 11) (N := some 56) (v := ?_) (a' := ?_) #[true, true, true, true, true, true, true, true, true, true, false, true, false, false, false, false] rfl rfl (take_ofW HT_.out HW_.out (by kernel_rfl)) (fun _ _ _ h => h) (Or.inl ⟨by rfl, ?_⟩) hHeld ?_ ?_
    rotate_left
    · rintro w' ⟨s0, s1, s2, s3⟩
      go_simp
      with_reducible rfl
    rotate_left
    · simp only [Act.put, List.setIfInBounds_toArray, List.set_cons_zero, List.set_cons_succ, i64_w, i32_w]
      rfl
    refine take_ (i := 12) (N := some 57) (v := ?_) (a' := ?_) #[true, true, true, true, true, true, true, true, true, true, false, true, true, false, false, false] rfl rfl (take_ofW HT_.out HW_.out (by kernel_rfl)) (fun _ _ _ h => h) (Or.inl ⟨by rfl, ?_⟩) hHeld ?_ ?_
    rotate_left
    · rintro w' ⟨s0, s1, s2, s3⟩
      go_simp
      with_reducible rfl
    rotate_left
    · simp only [Act.put, List.setIfInBounds_toArray, List.set_cons_zero, List.set_cons_succ, i64_w, i32_w]
      rfl
    refine one_ (i := 10) (N := some 55) #[true, true, true, true, true, true, true, true, true, true, true, true, true, false, false, false] rfl rfl (one_of HT_.out (by kernel_rfl)) (by decide) (fun Kx_ hKx_ => ?_)
    refine goes_ Try.func36 (by kernel_rfl) rfl #[.agg #[.int .i64 x0, .slice A0 l0.length c0], .agg #[.int .i64 x1, .slice A1 l1.length c1]] (by rfl) rfl rfl (by (try simp only [List.map_toArray, List.map_cons, List.map_nil]); first | done | rfl) ?_
    refine (record_SameCommit.calls k5 x0 A0 c0 l0 x1 A1 c1 l1 v _ (H9.reads 1 rfl) hc0'.out (H9.reads 2 rfl) hc1'.out HK5.out).mono ?_
    rintro e w10 ⟨rfl, hb1⟩
    have H10 := H9.same hb1
    clear hb1
    refine ⟨_, rfl, ?_⟩
    refine hKx_.out _ _ ⟨(H10.cell 3 rfl 0 (v := .int .i64 x0) rfl), (H10.cell 3 rfl 1 (v := .slice A0 l0.length c0) rfl), (H10.cell 4 rfl 0 (v := .int .i64 x1) rfl), (H10.cell 4 rfl 1 (v := .slice A1 l1.length c1) rfl)⟩ (fun hHeld => ?_)
    clear hKx_ Kx_
    refine norm_ (a' := ?_) ?_ ?_
    rotate_left
    · show Act.put _ (some 55) _ = _
      simp only [Act.put, List.setIfInBounds_toArray, List.set_cons_zero, List.set_cons_succ, i64_w, i32_w]
      rfl
    refine one_ (i := 13) (N := some 58) #[true, true, true, true, true, true, true, true, true, true, true, true, true, true, false, false] rfl rfl (one_of HT_.out (by kernel_rfl)) (by decide) (fun Kx_ hKx_ => ?_)
    refine goes_ Try.func35 (by kernel_rfl) rfl #[.agg #[.int .i64 x0, .slice A0 l0.length c0], .agg #[.int .i64 x1, .slice A1 l1.length c1]] (by rfl) rfl rfl (by (try simp only [List.map_toArray, List.map_cons, List.map_nil]); first | done | rfl) ?_
    refine (cressetref03_SameCommit.calls k6 x0 A0 c0 l0 x1 A1 c1 l1 v _ (H10.reads 1 rfl) hc0'.out (H10.reads 2 rfl) hc1'.out HK6.out).mono ?_
    rintro e w11 ⟨rfl, hb1⟩
    have H11 := H10.same hb1
    clear hb1
    refine ⟨_, rfl, ?_⟩
    refine hKx_.out _ _ ⟨(H11.cell 3 rfl 0 (v := .int .i64 x0) rfl), (H11.cell 3 rfl 1 (v := .slice A0 l0.length c0) rfl), (H11.cell 4 rfl 0 (v := .int .i64 x1) rfl), (H11.cell 4 rfl 1 (v := .slice A1 l1.length c1) rfl)⟩ (fun hHeld => ?_)
    clear hKx_ Kx_
    refine norm_ (a' := ?_) ?_ ?_
    rotate_left
    · show Act.put _ (some 58) _ = _
      simp only [Act.put, List.setIfInBounds_toArray, List.set_cons_zero, List.set_cons_succ, i64_w, i32_w]
      rfl
    refine pure_ (i := 14) (N := some 59) (v := ?_) (a' := ?_) #[true, true, true, true, true, true, true, true, true, true, true, true, true, true, true, false] rfl rfl (any_of HT_.out (by kernel_rfl)) (fun _ _ _ h => h) (Or.inl ⟨by rfl, ?_⟩) ?_ ?_
    rotate_left
    · intro w'
      go_simp
      with_reducible rfl
    rotate_left
    · simp only [Act.put, List.setIfInBounds_toArray, List.set_cons_zero, List.set_cons_succ, i64_w, i32_w]
      rfl
    refine pure_ (i := 15) (N := some 60) (v := ?_) (a' := ?_) #[true, true, true, true, true, true, true, true, true, true, true, true, true, true, true, true] rfl rfl (any_of HT_.out (by kernel_rfl)) (fun _ _ _ h => h) (Or.inl ⟨by rfl, ?_⟩) ?_ ?_
    rotate_left
    · intro w'
      go_simp
      with_reducible rfl
    rotate_left
    · simp only [Act.put, List.setIfInBounds_toArray, List.set_cons_zero, List.set_cons_succ, i64_w, i32_w]
      rfl
    refine done_ (done_of HT_.out (by kernel_rfl)) ?_
    clear HT_ HW_ hHeld
    obtain ⟨i0, hi0, _, hsz, _⟩ := info_parts info5
    have hcut := cut_to (P := Try.prog) 42 5 .i64 Try.underlying42 hi0 A3 y0.length c3 (q : Int) (by omega) (by have := HQ.out; omega) (H11.row_C 5 rfl).2.1
    rw [Int.toNat_natCast] at hcut
    have hqz : (y0.length : Int) ≠ 0 := by have := HQ.out; omega
    have hmd : (wrap64 a2).tmod (y0.length : Int) = q := by
      rw [Cod.wr1 (x := a2) (by have := HA.out.1; omega) (by have := HA.out.2; omega), Int.tmod_eq_emod_of_nonneg HA.out.1]
      exact HM.out
    have hql : (y0.take q).length = q := by rw [List.length_take]; have := HQ.out; omega
    have HT7 := Aside0.mk (record_TakeCommit.calls k7 A3 c3 (y0.take q) 0 [] 10 w11 (Kd.C_take (H11.row_C 5 rfl).2.2 (by have := HQ.out; omega)) (by rw [hql]; have := HQ.out; have := (H11.row_C 5 rfl).2.1; omega) HK7.out)
    rw [hql] at HT7
    clear hql hi0
    go_wp2_with (first
      | (go_at_call 31; refine HT7.out.mono ?_; rintro e w12 ⟨v12, rfl, hR, hb12⟩; have H12' := H11.made 5 hb12 hR; obtain ⟨A5, c5, rfl⟩ := Kd.R_slice hR; clear hR hb12 H11 HT7; have H12 : Hp w w12 [(0, Asn.old w (fun _ => False)), (0, Asn.rd k33 A0 l0.length l0), (0, Asn.rd k33 A1 l1.length l1), (1, Asn.box g3 #[.int .i64 x0, .slice A0 l0.length c0] 24), (2, Asn.box g4 #[.int .i64 x1, .slice A1 l1.length c1] 24), (3, Asn.row U8 5 (.slice A3 y0.length c3) y0), (4, Asn.row U8 5 (.slice A4 y1.length c4) y1), (5, Asn.row k33 33 (.slice A5 0 c5) [])] := H12'; clear H12')
      | ((with_reducible refine gate_dst (N := 11) rfl ?_); refine Hp.at_box H12 6 ?hg (N := 11) ?hd (cs := #[.int .i64 0, .slice none 0 0]) (t := 24) ?hr ?_; (case hd => rfl); (case hg => rfl); (case hr => first | (go_simp; done) | (go_simp; rfl)); intro g11 vg11 H13'; clear H12; have H13z : Hp w vg11 [(0, Asn.old w (fun _ => False)), (0, Asn.rd k33 A0 l0.length l0), (0, Asn.rd k33 A1 l1.length l1), (1, Asn.box g3 #[.int .i64 x0, .slice A0 l0.length c0] 24), (2, Asn.box g4 #[.int .i64 x1, .slice A1 l1.length c1] 24), (3, Asn.row U8 5 (.slice A3 y0.length c3) y0), (4, Asn.row U8 5 (.slice A4 y1.length c4) y1), (5, Asn.row k33 33 (.slice A5 0 c5) []), (6, Asn.box g11 #[.int .i64 0, .slice none 0 0] 24)] := H13'; clear H13'; have q0 := H13z.cell 8 rfl 0 (v := .int .i64 0) rfl; have q1 := H13z.cell 8 rfl 1 (v := .slice none 0 0) rfl; have uq0 := H13z.unfrozen 8 rfl 0; have uq1 := H13z.unfrozen 8 rfl 1; have H13 : Hp w (sets g11 vg11 0 [.int .i64 0, .slice A5 0 c5]) [(0, Asn.old w (fun _ => False)), (0, Asn.rd k33 A0 l0.length l0), (0, Asn.rd k33 A1 l1.length l1), (1, Asn.box g3 #[.int .i64 x0, .slice A0 l0.length c0] 24), (2, Asn.box g4 #[.int .i64 x1, .slice A1 l1.length c1] 24), (3, Asn.row U8 5 (.slice A3 y0.length c3) y0), (4, Asn.row U8 5 (.slice A4 y1.length c4) y1), (5, Asn.row k33 33 (.slice A5 0 c5) []), (6, Asn.box g11 #[.int .i64 0, .slice A5 0 c5] 24)] := Hp.box_sets (i := 6) (p := 8) [.int .i64 0, .slice A5 0 c5] 0 _ _ _ H13z rfl rfl; simp only [sets] at H13)
      | (go_at_call 37; refine (bytes_Clone.calls A3 c3 y0 y0 _ (H13.row_C 5 rfl).2.2 (H13.row_C 5 rfl).2.1 (by unfold bytes_Clone.f; rw [if_pos (by have := HLE.out; omega)])).mono ?_; rintro e w14 ⟨v14, rfl, hR, hb14⟩; clear q0 q1 uq0 uq1; have H14' := H13.made 7 hb14 hR; obtain ⟨A7, c7, rfl⟩ := Kd.R_slice hR; clear hR hb14 H13 H13z; have H14 : Hp w w14 [(0, Asn.old w (fun _ => False)), (0, Asn.rd k33 A0 l0.length l0), (0, Asn.rd k33 A1 l1.length l1), (1, Asn.box g3 #[.int .i64 x0, .slice A0 l0.length c0] 24), (2, Asn.box g4 #[.int .i64 x1, .slice A1 l1.length c1] 24), (3, Asn.row U8 5 (.slice A3 y0.length c3) y0), (4, Asn.row U8 5 (.slice A4 y1.length c4) y1), (5, Asn.row k33 33 (.slice A5 0 c5) []), (6, Asn.box g11 #[.int .i64 0, .slice A5 0 c5] 24), (7, Asn.row U8 5 (.slice A7 y0.length c7) y0)] := H14'; clear H14')
      | ((with_reducible refine gate_builtin (b := .append) (xs := #[.tmp 74, .tmp 75]) rfl ?_); at_builtin; refine Hp.at_append U8 H14 9 rfl (.tmp 74) (.tmp 75) 42 5 (.int .u8 0) 1 rfl Try.underlying42 info5 rfl (by decide) (by omega) (.slice A7 y0.length c7) y0 rfl rfl (0 : Int) [.int .u8 0] ?hs ?hx (fun _ => rfl) (by have := HLE.out; omega) ?_; (case hs => rfl); (case hx => rfl); intro v15 w15 H15'; rw [HY.out] at H15'; obtain ⟨A8, c8, rfl⟩ := H15'.fact 9 rfl (fun _ h => Kd.R_slice h); have H15 : Hp w w15 [(0, Asn.old w (fun _ => False)), (0, Asn.rd k33 A0 l0.length l0), (0, Asn.rd k33 A1 l1.length l1), (1, Asn.box g3 #[.int .i64 x0, .slice A0 l0.length c0] 24), (2, Asn.box g4 #[.int .i64 x1, .slice A1 l1.length c1] 24), (3, Asn.row U8 5 (.slice A3 y0.length c3) y0), (4, Asn.row U8 5 (.slice A4 y1.length c4) y1), (5, Asn.row k33 33 (.slice A5 0 c5) []), (6, Asn.box g11 #[.int .i64 0, .slice A5 0 c5] 24), (7, Asn.row U8 5 (.slice A8 y2.length c8) y2)] := H15'; clear H14 H15')
      | (go_at_call 31; refine (record_TakeCommit.calls k8 A8 c8 y2 0 [] 13 _ (H15.row_C 9 rfl).2.2 (H15.row_C 9 rfl).2.1 HK8.out).mono ?_; rintro e w16 ⟨v16, rfl, hR, hb16⟩; have H16' := H15.made 8 hb16 hR; obtain ⟨A9, c9, rfl⟩ := Kd.R_slice hR; clear hR hb16 H15; have H16 : Hp w w16 [(0, Asn.old w (fun _ => False)), (0, Asn.rd k33 A0 l0.length l0), (0, Asn.rd k33 A1 l1.length l1), (1, Asn.box g3 #[.int .i64 x0, .slice A0 l0.length c0] 24), (2, Asn.box g4 #[.int .i64 x1, .slice A1 l1.length c1] 24), (3, Asn.row U8 5 (.slice A3 y0.length c3) y0), (4, Asn.row U8 5 (.slice A4 y1.length c4) y1), (5, Asn.row k33 33 (.slice A5 0 c5) []), (6, Asn.box g11 #[.int .i64 0, .slice A5 0 c5] 24), (7, Asn.row U8 5 (.slice A8 y2.length c8) y2), (8, Asn.row k33 33 (.slice A9 0 c9) [])] := H16'; clear H16')
      | ((with_reducible refine gate_dst (N := 13) rfl ?_); refine Hp.at_box H16 9 ?hg (N := 13) ?hd (cs := #[.int .i64 0, .slice none 0 0]) (t := 24) ?hr ?_; (case hd => rfl); (case hg => rfl); (case hr => first | (go_simp; done) | (go_simp; rfl)); intro g13 vg13 H17'; clear H16; have H17z : Hp w vg13 [(0, Asn.old w (fun _ => False)), (0, Asn.rd k33 A0 l0.length l0), (0, Asn.rd k33 A1 l1.length l1), (1, Asn.box g3 #[.int .i64 x0, .slice A0 l0.length c0] 24), (2, Asn.box g4 #[.int .i64 x1, .slice A1 l1.length c1] 24), (3, Asn.row U8 5 (.slice A3 y0.length c3) y0), (4, Asn.row U8 5 (.slice A4 y1.length c4) y1), (5, Asn.row k33 33 (.slice A5 0 c5) []), (6, Asn.box g11 #[.int .i64 0, .slice A5 0 c5] 24), (7, Asn.row U8 5 (.slice A8 y2.length c8) y2), (8, Asn.row k33 33 (.slice A9 0 c9) []), (9, Asn.box g13 #[.int .i64 0, .slice none 0 0] 24)] := H17'; clear H17'; have q0 := H17z.cell 11 rfl 0 (v := .int .i64 0) rfl; have q1 := H17z.cell 11 rfl 1 (v := .slice none 0 0) rfl; have uq0 := H17z.unfrozen 11 rfl 0; have uq1 := H17z.unfrozen 11 rfl 1; have H17 : Hp w (sets g13 vg13 0 [.int .i64 0, .slice A9 0 c9]) [(0, Asn.old w (fun _ => False)), (0, Asn.rd k33 A0 l0.length l0), (0, Asn.rd k33 A1 l1.length l1), (1, Asn.box g3 #[.int .i64 x0, .slice A0 l0.length c0] 24), (2, Asn.box g4 #[.int .i64 x1, .slice A1 l1.length c1] 24), (3, Asn.row U8 5 (.slice A3 y0.length c3) y0), (4, Asn.row U8 5 (.slice A4 y1.length c4) y1), (5, Asn.row k33 33 (.slice A5 0 c5) []), (6, Asn.box g11 #[.int .i64 0, .slice A5 0 c5] 24), (7, Asn.row U8 5 (.slice A8 y2.length c8) y2), (8, Asn.row k33 33 (.slice A9 0 c9) []), (9, Asn.box g13 #[.int .i64 0, .slice A9 0 c9] 24)] := Hp.box_sets (i := 9) (p := 11) [.int .i64 0, .slice A9 0 c9] 0 _ _ _ H17z rfl rfl; simp only [sets] at H17))
    go_ret
    exact ⟨rfl, H17.below 0 rfl (fun _ h => h)⟩
theorem RecordApart : cressetlaw03_RecordApart.Pure := by
  intro x0 A0 c0 l0 x1 A1 c1 l1 a2 w hr0 hc0 hr1 hc1 w00 w01 w10 w11 w2
  have ha : 0 ≤ a2 ∧ a2 ≤ 65535 := by
    simp [Lit.wf, IntKind.min, IntKind.max, IntKind.bits, IntKind.signed] at w2
    omega
  exact apart_go x0 A0 c0 l0 x1 A1 c1 l1 a2 w hr0 hc0 hr1 hc1 (i64_of w00) (i64_of w10) (by have := w01.2.1; omega) ha.1 ha.2

end Go.Proofs.Ytkcdmoghnoodmaa.Ap
namespace Go.Proofs.Ytkcdmoghnoodmaa.Pure
open Go.RowKit Go.Proofs.Ytkcdmoghnoodmaa.B

theorem RecordApart : cressetlaw03_RecordApart.Pure := Ap.RecordApart
end Go.Proofs.Ytkcdmoghnoodmaa.Pure

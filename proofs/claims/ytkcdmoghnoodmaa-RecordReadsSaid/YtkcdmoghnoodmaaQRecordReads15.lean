/-
Of the row RecordReads: printed walks and plain laws, merged (wip/claim2.py).
-/
import Derived.Test.YtkcdmoghnoodmaaQRecordReads5
import Derived.Test.YtkcdmoghnoodmaaQRecordReads6
import Derived.Test.YtkcdmoghnoodmaaQRecordReads7
import Derived.Test.YtkcdmoghnoodmaaQRecordReads8
import Derived.Test.YtkcdmoghnoodmaaQRecordReads9
import Derived.Test.YtkcdmoghnoodmaaQRecordReads14
namespace Go.Proofs.Ytkcdmoghnoodmaa.Lib
open Go.RowKit Go.Proofs.Ytkcdmoghnoodmaa.B Go.Proofs.YtkcdmoghnoodmaaW.PrintWords Go.Proofs.YtkcdmoghnoodmaaW.PrintLast
set_option linter.unusedVariables false
set_option linter.unusedSimpArgs false

theorem wr1 {x : Int} (h0 : -9223372036854775808 ≤ x) (h : x ≤ 9223372036854775807) : wrap64 x = x := by
  unfold wrap64; omega
theorem rd33 (l : List S33) (n : Nat) (h : n < l.length) : rd_T33 l (n : Int) = l[n] := by
  unfold rd_T33
  simp [List.getD_eq_getElem?_getD, List.getElem?_eq_getElem h]
theorem rd74 (l : List S74) (n : Nat) (h : n < l.length) : rd_T74 l (n : Int) = l[n] := by
  unfold rd_T74
  simp [List.getD_eq_getElem?_getD, List.getElem?_eq_getElem h]
theorem rdI (l : List Int) (n : Nat) (h : n < l.length) : rd l (n : Int) = l[n] := by
  unfold rd
  simp [List.getD_eq_getElem?_getD, List.getElem?_eq_getElem h]
def keyE (s : ByteArray) : Int := if s.toList = [] then 30 else if (s.size : Int) > 64 then 30 else 0
def valE (s : ByteArray) : Int := if (s.size : Int) > 256 then 31 else 0
def fieldE (b : Bool) : Int := if b = true then 0 else 32
theorem key_eq (s : ByteArray) : record_Key.f s = some (keyE s) := by unfold record_Key.f keyE; split <;> (try split) <;> rfl
theorem keyR_eq (s : ByteArray) : cressetref03_Key.f s = some (keyE s) := by unfold cressetref03_Key.f keyE; split <;> (try split) <;> rfl
theorem val_eq (s : ByteArray) : record_Value.f s = some (valE s) := by unfold record_Value.f valE; split <;> rfl
theorem valR_eq (s : ByteArray) : cressetref03_Value.f s = some (valE s) := by unfold cressetref03_Value.f valE; split <;> rfl
theorem field_eq (b : Bool) : record_field.f b = some (fieldE b) := by unfold record_field.f fieldE; split <;> rfl
def fst : List Int → Int
  | [] => 0
  | a :: l => if a = 0 then fst l else a
theorem first_loop (l : List Int) (hl : l.length ≤ 9223372036854775000) : ∀ (d n : Nat), n + d = l.length → Ev (fun k => record_first.l0 k l (l.length : Int) (n : Int)) (fst (l.drop n))
  | 0, n, h => by
    rw [List.drop_of_length_le (by omega)]
    refine Ev.step (f := fun _ => some 0) (fun k => ?_) (Ev.now _)
    simp only [record_first.l0]
    rw [if_neg (by omega)]
  | d + 1, n, h => by
    have hn : n < l.length := by omega
    have e : wrap64 ((n : Int) + 1) = ((n + 1 : Nat) : Int) := by rw [wr1 (by omega) (by omega)]; omega
    have ih := first_loop l hl d (n + 1) (by omega)
    rw [List.drop_eq_getElem_cons hn, fst]
    refine Ev.step (fun k => by simp only [record_first.l0]; rw [if_pos (by omega), if_pos (by omega), if_pos (by omega), rdI l n hn]) ?_
    by_cases h1 : l[n] = 0
    · simp only [if_pos h1, e]; exact ih
    · simp only [if_neg h1]; exact Ev.now _
theorem first_ev (l : List Int) (hl : l.length ≤ 9223372036854775000) : Ev (fun k => record_first.f k l) (fst l) := first_loop l hl l.length 0 (by omega)
def wrE (x : S33) : Int := fst [keyE x.f0, valE x.f1, if x.f2 = true then fieldE (x.f1.toList == []) else 0]
theorem checkWrite_ev (x : S33) : Ev (fun k => record_CheckWrite.f k x.f0 x.f1 x.f2) (wrE x) := by
  unfold record_CheckWrite.f wrE
  rw [key_eq, val_eq]
  simp only [Option.bind_some, field_eq]
  cases x.f2 with
  | true => simp only [if_true]; exact Ev.bind (first_ev _ (by simp)) (Ev.now _)
  | false => simp only [Bool.false_eq_true, if_false]; exact Ev.bind (first_ev _ (by simp)) (Ev.now _)
theorem checkWriteR_eq (x : S33) : cressetref03_CheckWrite.f x.f0 x.f1 x.f2 = some (wrE x) := by
  unfold cressetref03_CheckWrite.f wrE
  rw [keyR_eq, valR_eq]
  simp only [Option.bind_some, fst]
  by_cases h1 : keyE x.f0 = 0
  · simp only [if_pos h1]
    by_cases h2 : valE x.f1 = 0
    · simp only [if_pos h2]
      cases x.f2 with
      | true =>
        simp only [if_true]
        by_cases h3 : x.f1.toList = []
        · simp [h3, fieldE]
        · have h4 : (x.f1.toList == []) = false := by cases h : x.f1.toList with
            | nil => exact absurd h h3
            | cons _ _ => rfl
          simp [h3, h4, fieldE]
      | false => simp
    · simp only [if_neg h2]
  · simp only [if_neg h1]

abbrev bl := Op.bytesLess
def g33 (l : List S33) (n : Nat) : S33 := l.getD n z33
theorem g33_eq (l : List S33) (n : Nat) (h : n < l.length) : g33 l n = l[n] := by
  unfold g33
  simp [List.getD_eq_getElem?_getD, List.getElem?_eq_getElem h]
theorem fst_two (a : Int) (b : Bool) : fst [a, fieldE b] = if a = 0 then (if b = true then 0 else 32) else a := by
  simp only [fst]
  split
  · cases b <;> rfl
  · rfl
def cmE (l : List S33) : Nat → Nat → Int
  | 0, _ => 0
  | d + 1, n => if wrE (g33 l n) = 0 then (if n = 0 ∨ bl (g33 l (n - 1)).f0.toList (g33 l n).f0.toList = true then cmE l d (n + 1) else 32) else wrE (g33 l n)
theorem commit_loop (a : Int) (l : List S33) (hl : l.length ≤ 9223372036854775000) : ∀ (d n : Nat), n + d = l.length → Ev (fun k => record_CheckCommit.l0 k l (l.length : Int) (n : Int) a l) (cmE l d n)
  | 0, n, h => by
    refine Ev.step (f := fun _ => some 0) (fun k => ?_) (Ev.now _)
    simp only [record_CheckCommit.l0]
    rw [if_neg (by omega)]
  | d + 1, n, h => by
    have hn : n < l.length := by omega
    have e : wrap64 ((n : Int) + 1) = ((n + 1 : Nat) : Int) := by rw [wr1 (by omega) (by omega)]; omega
    have ih := commit_loop a l hl d (n + 1) (by omega)
    unfold cmE
    rw [g33_eq l n hn]
    refine Ev.step (fun k => by simp only [record_CheckCommit.l0]; rw [if_pos (by omega), if_pos (by omega), if_pos (by omega), rd33 l n hn]) ?_
    refine Ev.bind (checkWrite_ev l[n]) ?_
    have hmid : ∀ b : Bool, Ev (fun k => (record_first.f k [wrE l[n], fieldE b]).bind fun t => record_CheckCommit.j2 k t l (l.length : Int) (n : Int) a l) (if wrE l[n] = 0 then (if b = true then cmE l d (n + 1) else 32) else wrE l[n]) := by
      intro b
      refine Ev.bind (first_ev _ (by simp)) ?_
      rw [fst_two]
      refine Ev.step (fun k => by simp only [record_CheckCommit.j2, e]; rfl) ?_
      by_cases h1 : wrE l[n] = 0
      · simp only [if_pos h1]
        cases b with
        | true => simp only [if_true]; exact ih
        | false => simp only [Bool.false_eq_true, if_false, if_neg (show ¬ (32 : Int) = 0 by decide)]; exact Ev.now _
      · simp only [if_neg h1]
        exact Ev.now _
    by_cases h0 : n = 0
    · subst h0
      simp only [if_pos (show ((0 : Nat) : Int) = 0 by rfl), field_eq, Option.bind_some, e, true_or, if_true]
      have := hmid true
      simpa only [if_true] using this
    · obtain ⟨m, rfl⟩ : ∃ m, n = m + 1 := ⟨n - 1, by omega⟩
      have hm : m < l.length := by omega
      have e2 : wrap64 (((m + 1 : Nat) : Int) - 1) = (m : Int) := by rw [wr1 (by omega) (by omega)]; omega
      simp only [if_neg (show ¬ ((m + 1 : Nat) : Int) = 0 by omega), e2, if_pos (show (0 : Int) ≤ m by omega), if_pos (show (m : Int) < l.length by omega), rd33 l m hm, Nat.add_sub_cancel, g33_eq l m hm, e, field_eq, Option.bind_some, h0, false_or]
      exact hmid _
theorem commitR_loop (a : Int) (l : List S33) (hl : l.length ≤ 9223372036854775000) : ∀ (d n : Nat), n + d = l.length → Ev (fun k => cressetref03_CheckCommit.l0 k (n : Int) a l) (cmE l d n)
  | 0, n, h => by
    refine Ev.step (f := fun _ => some 0) (fun k => ?_) (Ev.now _)
    simp only [cressetref03_CheckCommit.l0]
    rw [if_neg (by omega)]
  | d + 1, n, h => by
    have hn : n < l.length := by omega
    have e : wrap64 ((n : Int) + 1) = ((n + 1 : Nat) : Int) := by rw [wr1 (by omega) (by omega)]; omega
    have ih := commitR_loop a l hl d (n + 1) (by omega)
    unfold cmE
    rw [g33_eq l n hn]
    refine Ev.step (fun k => by simp only [cressetref03_CheckCommit.l0]; rw [if_pos (by omega), if_pos (by omega), rd33 l n hn, checkWriteR_eq]) ?_
    simp only [Option.bind_some]
    by_cases h1 : wrE l[n] = 0
    · simp only [if_pos h1]
      by_cases h0 : n = 0
      · subst h0
        simp only [if_neg (show ¬ ((0 : Nat) : Int) > 0 by omega), e, true_or, if_true]
        exact ih
      · obtain ⟨m, rfl⟩ : ∃ m, n = m + 1 := ⟨n - 1, by omega⟩
        have hm : m < l.length := by omega
        have e2 : wrap64 (((m + 1 : Nat) : Int) - 1) = (m : Int) := by rw [wr1 (by omega) (by omega)]; omega
        simp only [if_pos (show ((m + 1 : Nat) : Int) > 0 by omega), e2, if_pos (show (0 : Int) ≤ m by omega), if_pos (show (m : Int) < l.length by omega), rd33 l m hm, Nat.add_sub_cancel, g33_eq l m hm, e, h0, false_or]
        by_cases h2 : Op.bytesLess l[m].f0.toList l[m + 1].f0.toList = true
        · simp only [if_pos h2]; exact ih
        · simp only [if_neg h2]; exact Ev.now _
    · simp only [if_neg h1]
      exact Ev.now _
def tsE (a : Int) : Bool := decide (a ≥ 1) && decide (a ≤ 1099511627776)
theorem stamp_eq (a : Int) : record_stamp.f a 1 = some (tsE a) := by
  unfold record_stamp.f tsE
  by_cases h : a ≥ 1
  · rw [if_pos h, decide_eq_true h, Bool.true_and]
  · rw [if_neg h, decide_eq_false h, Bool.false_and]
theorem stampR_eq (a : Int) : cressetref03_ts.f a = some (tsE a) := by
  unfold cressetref03_ts.f tsE
  by_cases h : a ≥ 1
  · rw [if_pos h, decide_eq_true h, Bool.true_and]
  · rw [if_neg h, decide_eq_false h, Bool.false_and]
def commitE (a : Int) (l : List S33) : Int := if tsE a = true ∧ l.length ≠ 0 ∧ l.length ≤ 64 then cmE l l.length 0 else 32
theorem checkCommit_ev (a : Int) (l : List S33) : Ev (fun k => record_CheckCommit.f k a l) (commitE a l) := by
  unfold record_CheckCommit.f commitE
  rw [stamp_eq]
  simp only [Option.bind_some]
  have hbad : Ev (fun k => record_CheckCommit.j0 k true a l) 32 := Ev.step (f := fun _ => some 32) (fun k => by simp only [record_CheckCommit.j0, if_true]) (Ev.now _)
  by_cases h1 : tsE a = true
  · simp only [if_pos h1]
    by_cases h2 : l.length = 0
    · simp only [if_pos (show (l.length : Int) = 0 by omega)]
      rw [if_neg (fun h => h.2.1 h2)]
      exact hbad
    · simp only [if_neg (show ¬ (l.length : Int) = 0 by omega)]
      by_cases h3 : l.length ≤ 64
      · rw [if_pos ⟨h1, h2, h3⟩, decide_eq_false (show ¬ (l.length : Int) > 64 by omega)]
        refine Ev.step (f := fun k => record_CheckCommit.l0 k l (l.length : Int) ((0 : Nat) : Int) a l) (fun k => by simp only [record_CheckCommit.j0, Bool.false_eq_true, if_false]; rfl) ?_
        exact commit_loop a l (by omega) l.length 0 (by omega)
      · rw [if_neg (fun h => h3 h.2.2), decide_eq_true (show (l.length : Int) > 64 by omega)]
        exact hbad
  · simp only [if_neg h1]
    rw [if_neg (fun h => h1 h.1)]
    exact hbad
theorem checkCommitR_ev (a : Int) (l : List S33) : Ev (fun k => cressetref03_CheckCommit.f k a l) (commitE a l) := by
  unfold cressetref03_CheckCommit.f commitE
  rw [stampR_eq]
  simp only [Option.bind_some]
  have hbad : Ev (fun k => cressetref03_CheckCommit.j0 k true a l) 32 := Ev.step (f := fun _ => some 32) (fun k => by simp only [cressetref03_CheckCommit.j0, if_true]) (Ev.now _)
  by_cases h1 : tsE a = true
  · simp only [if_pos h1]
    by_cases h2 : l.length = 0
    · simp only [if_pos (show (l.length : Int) < 1 by omega)]
      rw [if_neg (fun h => h.2.1 h2)]
      exact hbad
    · simp only [if_neg (show ¬ (l.length : Int) < 1 by omega)]
      by_cases h3 : l.length ≤ 64
      · rw [if_pos ⟨h1, h2, h3⟩, decide_eq_false (show ¬ (l.length : Int) > 64 by omega)]
        refine Ev.step (f := fun k => cressetref03_CheckCommit.l0 k ((0 : Nat) : Int) a l) (fun k => by simp only [cressetref03_CheckCommit.j0, Bool.false_eq_true, if_false]; rfl) ?_
        exact commitR_loop a l (by omega) l.length 0 (by omega)
      · rw [if_neg (fun h => h3 h.2.2), decide_eq_true (show (l.length : Int) > 64 by omega)]
        exact hbad
  · simp only [if_neg h1]
    rw [if_neg (fun h => h1 h.1)]
    exact hbad

def g74 (l : List S74) (n : Nat) : S74 := l.getD n z74
theorem g74_eq (l : List S74) (n : Nat) (h : n < l.length) : g74 l n = l[n] := by
  unfold g74
  simp [List.getD_eq_getElem?_getD, List.getElem?_eq_getElem h]
theorem fst_three (a b : Int) (c : Bool) : fst [a, b, fieldE c] = if a = 0 then (if b = 0 then (if c = true then 0 else 32) else b) else a := by
  simp only [fst]
  split
  · split
    · cases c <;> rfl
    · rfl
  · rfl
def chE (l : List S74) : Nat → Nat → Int
  | 0, _ => 0
  | d + 1, n => if keyE (g74 l n).f0 = 0 then (if valE (g74 l n).f1 = 0 then (if (tsE (g74 l n).f2 && (decide (n = 0) || bl (g74 l (n - 1)).f0.toList (g74 l n).f0.toList)) = true then chE l d (n + 1) else 32) else valE (g74 l n).f1) else keyE (g74 l n).f0
theorem chunk_loop (a : Int) (b : Bool) (l : List S74) (hl : l.length ≤ 9223372036854775000) : ∀ (d n : Nat), n + d = l.length → Ev (fun k => record_CheckChunk.l0 k l (l.length : Int) (n : Int) a l b) (chE l d n)
  | 0, n, h => by
    refine Ev.step (f := fun _ => some 0) (fun k => ?_) (Ev.now _)
    simp only [record_CheckChunk.l0]
    rw [if_neg (by omega)]
  | d + 1, n, h => by
    have hn : n < l.length := by omega
    have e : wrap64 ((n : Int) + 1) = ((n + 1 : Nat) : Int) := by rw [wr1 (by omega) (by omega)]; omega
    have ih := chunk_loop a b l hl d (n + 1) (by omega)
    unfold chE
    rw [g74_eq l n hn]
    refine Ev.step (fun k => by simp only [record_CheckChunk.l0]; rw [if_pos (by omega), if_pos (by omega), if_pos (by omega), rd74 l n hn, key_eq, val_eq, stamp_eq]) ?_
    simp only [Option.bind_some]
    have hmid : ∀ c : Bool, Ev (fun k => (record_first.f k [keyE l[n].f0, valE l[n].f1, fieldE c]).bind fun t => record_CheckChunk.j2 k t l (l.length : Int) (n : Int) a l b) (if keyE l[n].f0 = 0 then (if valE l[n].f1 = 0 then (if c = true then chE l d (n + 1) else 32) else valE l[n].f1) else keyE l[n].f0) := by
      intro c
      refine Ev.bind (first_ev _ (by simp)) ?_
      rw [fst_three]
      refine Ev.step (fun k => by simp only [record_CheckChunk.j2, e]; rfl) ?_
      by_cases h1 : keyE l[n].f0 = 0
      · simp only [if_pos h1]
        by_cases h2 : valE l[n].f1 = 0
        · simp only [if_pos h2]
          cases c with
          | true => simp only [if_true]; exact ih
          | false => simp only [Bool.false_eq_true, if_false, if_neg (show ¬ (32 : Int) = 0 by decide)]; exact Ev.now _
        · simp only [if_neg h2]; exact Ev.now _
      · simp only [if_neg h1]
        exact Ev.now _
    cases ht : tsE l[n].f2 with
    | false =>
      simp only [Bool.false_eq_true, if_false, field_eq, Option.bind_some, e, Bool.false_and]
      have := hmid false
      simpa only [Bool.false_eq_true, if_false] using this
    | true =>
      simp only [if_true, Bool.true_and]
      by_cases h0 : n = 0
      · subst h0
        simp only [if_pos (show ((0 : Nat) : Int) = 0 by rfl), field_eq, Option.bind_some, e, decide_true, Bool.true_or]
        exact hmid true
      · obtain ⟨m, rfl⟩ : ∃ m, n = m + 1 := ⟨n - 1, by omega⟩
        have hm : m < l.length := by omega
        have e2 : wrap64 (((m + 1 : Nat) : Int) - 1) = (m : Int) := by rw [wr1 (by omega) (by omega)]; omega
        simp only [if_neg (show ¬ ((m + 1 : Nat) : Int) = 0 by omega), e2, if_pos (show (0 : Int) ≤ m by omega), if_pos (show (m : Int) < l.length by omega), rd74 l m hm, Nat.add_sub_cancel, g74_eq l m hm, e, field_eq, Option.bind_some, decide_eq_false h0, Bool.false_or]
        exact hmid _
theorem chunkR_loop (a : Int) (b : Bool) (l : List S74) (hl : l.length ≤ 9223372036854775000) : ∀ (d n : Nat), n + d = l.length → Ev (fun k => cressetref03_CheckChunk.l0 k (n : Int) a l b) (chE l d n)
  | 0, n, h => by
    refine Ev.step (f := fun _ => some 0) (fun k => ?_) (Ev.now _)
    simp only [cressetref03_CheckChunk.l0]
    rw [if_neg (by omega)]
  | d + 1, n, h => by
    have hn : n < l.length := by omega
    have e : wrap64 ((n : Int) + 1) = ((n + 1 : Nat) : Int) := by rw [wr1 (by omega) (by omega)]; omega
    have ih := chunkR_loop a b l hl d (n + 1) (by omega)
    unfold chE
    rw [g74_eq l n hn]
    refine Ev.step (fun k => by simp only [cressetref03_CheckChunk.l0]; rw [if_pos (by omega), if_pos (by omega), rd74 l n hn, keyR_eq, valR_eq, stampR_eq]) ?_
    simp only [Option.bind_some]
    have hj : ∀ c : Bool, Ev (fun k => cressetref03_CheckChunk.j2 k (n : Int) c a l b) (if c = true then 32 else chE l d (n + 1)) := by
      intro c
      refine Ev.step (fun k => by simp only [cressetref03_CheckChunk.j2, e]; rfl) ?_
      cases c with
      | true => simp only [if_true]; exact Ev.now _
      | false => simp only [Bool.false_eq_true, if_false]; exact ih
    by_cases h1 : keyE l[n].f0 = 0
    · simp only [if_pos h1]
      by_cases h2 : valE l[n].f1 = 0
      · simp only [if_pos h2]
        cases ht : tsE l[n].f2 with
        | false => simp only [Bool.false_eq_true, if_false, Bool.false_and]; simpa only [if_true] using hj true
        | true =>
          simp only [if_true, Bool.true_and]
          by_cases h0 : n = 0
          · subst h0
            simp only [if_neg (show ¬ ((0 : Nat) : Int) > 0 by omega), decide_true, Bool.true_or, if_true]
            simpa only [Bool.false_eq_true, if_false] using hj false
          · obtain ⟨m, rfl⟩ : ∃ m, n = m + 1 := ⟨n - 1, by omega⟩
            have hm : m < l.length := by omega
            have e2 : wrap64 (((m + 1 : Nat) : Int) - 1) = (m : Int) := by rw [wr1 (by omega) (by omega)]; omega
            simp only [if_pos (show ((m + 1 : Nat) : Int) > 0 by omega), e2, if_pos (show (0 : Int) ≤ m by omega), if_pos (show (m : Int) < l.length by omega), rd74 l m hm, Nat.add_sub_cancel, g74_eq l m hm, decide_eq_false h0, Bool.false_or]
            have h4 := hj (!(Op.bytesLess l[m].f0.toList l[m + 1].f0.toList))
            cases h3 : Op.bytesLess l[m].f0.toList l[m + 1].f0.toList with
            | true => rw [h3] at h4; simpa only [Bool.not_true, Bool.false_eq_true, if_false, if_true, h3] using h4
            | false => rw [h3] at h4; simpa only [Bool.not_false, Bool.false_eq_true, if_false, if_true, h3] using h4
      · simp only [if_neg h2]; exact Ev.now _
    · simp only [if_neg h1]; exact Ev.now _
def chunkE (a : Int) (l : List S74) : Int := if 0 ≤ a ∧ a < 4096 ∧ l.length ≤ 16 then chE l l.length 0 else 32
theorem checkChunk_ev (a : Int) (l : List S74) (b : Bool) : Ev (fun k => record_CheckChunk.f k a l b) (chunkE a l) := by
  unfold record_CheckChunk.f chunkE
  have hbad : Ev (fun k => record_CheckChunk.j0 k true a l b) 32 := Ev.step (f := fun _ => some 32) (fun k => by simp only [record_CheckChunk.j0, if_true]) (Ev.now _)
  by_cases h1 : a < 0
  · simp only [if_pos h1]; rw [if_neg (by omega)]; exact hbad
  · simp only [if_neg h1]
    by_cases h2 : a ≥ 4096
    · simp only [if_pos h2]; rw [if_neg (by omega)]; exact hbad
    · simp only [if_neg h2]
      by_cases h3 : l.length ≤ 16
      · rw [if_pos (by omega), decide_eq_false (show ¬ (l.length : Int) > 16 by omega)]
        exact Ev.step (f := fun k => record_CheckChunk.l0 k l (l.length : Int) ((0 : Nat) : Int) a l b) (fun k => by simp only [record_CheckChunk.j0, Bool.false_eq_true, if_false]; rfl) (chunk_loop a b l (by omega) l.length 0 (by omega))
      · rw [if_neg (by omega), decide_eq_true (show (l.length : Int) > 16 by omega)]
        exact hbad
theorem checkChunkR_ev (a : Int) (l : List S74) (b : Bool) : Ev (fun k => cressetref03_CheckChunk.f k a l b) (chunkE a l) := by
  unfold cressetref03_CheckChunk.f chunkE
  have hbad : Ev (fun k => cressetref03_CheckChunk.j0 k true a l b) 32 := Ev.step (f := fun _ => some 32) (fun k => by simp only [cressetref03_CheckChunk.j0, if_true]) (Ev.now _)
  by_cases h1 : a < 0
  · simp only [if_pos h1]; rw [if_neg (by omega)]; exact hbad
  · simp only [if_neg h1]
    by_cases h2 : a ≥ 4096
    · simp only [if_pos h2]; rw [if_neg (by omega)]; exact hbad
    · simp only [if_neg h2]
      by_cases h3 : l.length ≤ 16
      · rw [if_pos (by omega), decide_eq_false (show ¬ (l.length : Int) > 16 by omega)]
        exact Ev.step (f := fun k => cressetref03_CheckChunk.l0 k ((0 : Nat) : Int) a l b) (fun k => by simp only [cressetref03_CheckChunk.j0, Bool.false_eq_true, if_false]; rfl) (chunkR_loop a b l (by omega) l.length 0 (by omega))
      · rw [if_neg (by omega), decide_eq_true (show (l.length : Int) > 16 by omega)]
        exact hbad
def ntE (a : Int) : Bool := decide (a ≥ 0) && decide (a ≤ 1099511627776)
theorem stamp0_eq (a : Int) : record_stamp.f a 0 = some (ntE a) := by
  unfold record_stamp.f ntE
  by_cases h : a ≥ 0
  · rw [if_pos h, decide_eq_true h, Bool.true_and]
  · rw [if_neg h, decide_eq_false h, Bool.false_and]
theorem nought_eq (a : Int) : cressetref03_nought.f a = some (ntE a) := by
  unfold cressetref03_nought.f ntE
  by_cases h : a ≥ 0
  · rw [if_pos h, decide_eq_true h, Bool.true_and]
  · rw [if_neg h, decide_eq_false h, Bool.false_and]
def masterE (a b c d e f g h : Int) : Int := if tsE a = true ∧ (b = 0 ∨ b = 1) ∧ 1 ≤ c ∧ c ≤ 4096 ∧ ntE d = true ∧ ntE e = true ∧ 0 ≤ f ∧ f < 512 ∧ ntE g = true ∧ ntE h = true then 0 else 32
theorem stampB_ts (n : Int) : stampB n 1 = tsE n := by
  have h1 := stampB_eq n 1
  rw [stamp_eq] at h1
  exact (Option.some.inj h1).symm
theorem stampB_nt (n : Int) : stampB n 0 = ntE n := by
  have h1 := stampB_eq n 0
  rw [stamp0_eq] at h1
  exact (Option.some.inj h1).symm
theorem checkMaster_eq (a b c d e f g h : Int) : record_CheckMaster.f a b c d e f g h = some (masterE a b c d e f g h) := by
  unfold record_CheckMaster.f masterE
  simp only [stampB_ts, stampB_nt]
  cases tsE a <;> cases ntE d <;> cases ntE e <;> cases ntE g <;> cases ntE h <;> simp <;> (repeat' split) <;> first | rfl | omega | (simp; omega) | simp_all
theorem checkMasterR_ev (a b c d e f g h : Int) : Ev (fun k => cressetref03_CheckMaster.f k a b c d e f g h) (masterE a b c d e f g h) := by
  have hj : ∀ x : Bool, Ev (fun k => cressetref03_CheckMaster.j0 k x a b c d e f g h) (if x = false ∧ ntE e = true ∧ 0 ≤ f ∧ f < 512 ∧ ntE g = true ∧ ntE h = true then 0 else 32) := by
    intro x
    refine Ev.step (f := fun _ => some (if x = false ∧ ntE e = true ∧ 0 ≤ f ∧ f < 512 ∧ ntE g = true ∧ ntE h = true then 0 else 32)) (fun k => ?_) (Ev.now _)
    simp only [cressetref03_CheckMaster.j0, nought_eq, Option.bind_some]
    cases x <;> cases ntE e <;> cases ntE g <;> cases ntE h <;> simp <;> (repeat' split) <;> first | rfl | omega | (simp; omega) | simp_all
  unfold cressetref03_CheckMaster.f masterE
  simp only [stampR_eq, nought_eq, Option.bind_some]
  have hbad := hj true
  rw [if_neg (by simp)] at hbad
  by_cases h1 : tsE a = true
  · simp only [if_pos h1]
    by_cases h2 : b < 0
    · simp only [if_pos h2]; rw [if_neg (by omega)]; exact hbad
    · simp only [if_neg h2]
      by_cases h3 : b > 1
      · simp only [if_pos h3]; rw [if_neg (by omega)]; exact hbad
      · simp only [if_neg h3]
        by_cases h4 : c < 1
        · simp only [if_pos h4]; rw [if_neg (by omega)]; exact hbad
        · simp only [if_neg h4]
          by_cases h5 : c > 4096
          · simp only [if_pos h5]; rw [if_neg (by omega)]; exact hbad
          · simp only [if_neg h5]
            have := hj (!ntE d)
            have e : ((!ntE d) = false ∧ ntE e = true ∧ 0 ≤ f ∧ f < 512 ∧ ntE g = true ∧ ntE h = true) ↔ (tsE a = true ∧ (b = 0 ∨ b = 1) ∧ 1 ≤ c ∧ c ≤ 4096 ∧ ntE d = true ∧ ntE e = true ∧ 0 ≤ f ∧ f < 512 ∧ ntE g = true ∧ ntE h = true) := by
              rw [Bool.not_eq_false']
              constructor
              · rintro ⟨x1, x2, x3, x4, x5, x6⟩; exact ⟨h1, by omega, by omega, by omega, x1, x2, x3, x4, x5, x6⟩
              · rintro ⟨_, _, _, _, x1, x2, x3, x4, x5, x6⟩; exact ⟨x1, x2, x3, x4, x5, x6⟩
            simp only [e] at this
            exact this
  · simp only [if_neg h1]; rw [if_neg (fun h => h1 h.1)]; exact hbad
end Go.Proofs.Ytkcdmoghnoodmaa.Lib

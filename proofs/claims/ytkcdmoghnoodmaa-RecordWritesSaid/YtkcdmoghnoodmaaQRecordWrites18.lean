/-
Of the row RecordWrites: printed walks and plain laws, merged (wip/claim2.py).
-/
import Derived.Test.YtkcdmoghnoodmaaQRecordWrites8
import Derived.Test.YtkcdmoghnoodmaaQRecordWrites12
import Derived.Test.YtkcdmoghnoodmaaQRecordWrites13
import Derived.Test.YtkcdmoghnoodmaaQRecordWrites15
import Derived.Test.YtkcdmoghnoodmaaQRecordWrites16
import Derived.Test.YtkcdmoghnoodmaaQRecordWrites17
namespace Go.Proofs.Ytkcdmoghnoodmaa.Wr
open Go.RowKit Go.Proofs.Ytkcdmoghnoodmaa.B Go.Proofs.YtkcdmoghnoodmaaW.PrintWords Go.Proofs.YtkcdmoghnoodmaaW.PrintLast Go.Proofs.Ytkcdmoghnoodmaa.Lib
open Go.Proofs.Ytkcdmoghnoodmaa.Cod (I i64 i64_of kw kw_le I_length put_ev puttext_ev putflag_ev refI_ev bytesOf_bytes I_bytes eq_ev)
set_option linter.unusedVariables false
set_option linter.unusedSimpArgs false
def tB (s : ByteArray) : List Int := I s.size ++ bytesOf s
def fB (b : Bool) : List Int := I (if b then 1 else 0)
def wB (x : S33) : List Int := tB x.f0 ++ fB x.f2 ++ tB x.f1
def pB (x : S74) : List Int := tB x.f0 ++ tB x.f1 ++ I x.f2
def cB (a : Int) (l : List S33) : List Int := I a ++ I l.length ++ l.flatMap wB
def kB (a : Int) (l : List S74) (b : Bool) : List Int := I a ++ fB b ++ I l.length ++ l.flatMap pB
def mB (l : List Int) : List Int := l.flatMap I
theorem I_len9 {n : Int} (h : i64 n) : (I n).length ≤ 9 := by
  rw [I_length]; have := kw_le h; omega
theorem i64_nat {m : Nat} (h : m ≤ 1000000) : i64 (m : Int) := ⟨by omega, by omega⟩
theorem i64_flag (b : Bool) : i64 (if b then 1 else 0) := by cases b <;> exact ⟨by decide, by decide⟩
theorem tB_len {s : ByteArray} (h : s.size ≤ 1000) : (tB s).length ≤ 1009 := by
  unfold tB
  rw [List.length_append, bytesOf_length]
  have := I_len9 (i64_nat (m := s.size) (by omega))
  omega
theorem fB_len (b : Bool) : (fB b).length ≤ 9 := I_len9 (i64_flag b)
theorem wB_len {x : S33} (h0 : x.f0.size ≤ 1000) (h1 : x.f1.size ≤ 1000) : (wB x).length ≤ 2100 := by
  unfold wB
  rw [List.length_append, List.length_append]
  have := tB_len h0; have := tB_len h1; have := fB_len x.f2
  omega
theorem pB_len {x : S74} (h0 : x.f0.size ≤ 1000) (h1 : x.f1.size ≤ 1000) (h2 : i64 x.f2) : (pB x).length ≤ 2100 := by
  unfold pB
  rw [List.length_append, List.length_append]
  have := tB_len h0; have := tB_len h1; have := I_len9 h2
  omega
theorem writePut_ev (x : S33) (h0 : x.f0.size ≤ 1000) (h1 : x.f1.size ≤ 1000) (xs : List Int) (hx : xs.length ≤ 1000000) : Ev (fun k => record_write_put.f k x.f0 x.f1 x.f2 xs) (xs ++ wB x) := by
  unfold record_write_put.f
  have a0 := tB_len h0; have a1 := tB_len h1; have a2 := fB_len x.f2
  refine Ev.bind (puttext_ev x.f0 xs (by omega)) ?_
  refine Ev.bind (putflag_ev x.f2 _ (by rw [List.append_assoc, List.length_append]; show xs.length + (tB x.f0).length ≤ _; omega)) ?_
  refine Ev.bind (puttext_ev x.f1 _ (by rw [List.append_assoc, List.append_assoc, List.length_append, List.length_append, List.length_append]; have : (I (x.f0.size : Int)).length + (bytesOf x.f0).length ≤ 1009 := by rw [← List.length_append]; exact a0
                                        show xs.length + ((I (x.f0.size : Int)).length + ((bytesOf x.f0).length + (fB x.f2).length)) + x.f1.size ≤ _; omega)) ?_
  refine Ev.congr (f := fun _ => some _) (fun k => ?_) (Ev.now _)
  simp [wB, tB, fB, List.append_assoc]
theorem refNum_ev {n : Int} (h : i64 n) (xs : List Int) (hx : xs.length ≤ 10000000) : Ev (fun k => cressetref03_num.f k xs n) (xs ++ I n) := by
  unfold cressetref03_num.f
  refine Ev.bind (refI_ev h) ?_
  rw [if_pos (by have := I_len9 h; omega)]
  exact Ev.now _
theorem refFlag_ev (b : Bool) (xs : List Int) (hx : xs.length ≤ 10000000) : Ev (fun k => cressetref03_flag.f k xs b) (xs ++ fB b) := by
  unfold cressetref03_flag.f fB
  cases b with
  | true => simp only [if_true]; exact Ev.bind (refNum_ev ⟨by decide, by decide⟩ xs hx) (Ev.now _)
  | false => simp only [Bool.false_eq_true, if_false]; exact Ev.bind (refNum_ev ⟨by decide, by decide⟩ xs hx) (Ev.now _)
theorem refText_ev (s : ByteArray) (hs : s.size ≤ 1000) (xs : List Int) (hx : xs.length ≤ 10000000) : Ev (fun k => cressetref03_text.f k xs s) (xs ++ tB s) := by
  unfold cressetref03_text.f
  simp only [if_pos (show s.size < 140737488355328 by omega)]
  have h9 := I_len9 (i64_nat (m := s.size) (by omega))
  have hb : Ev (fun k => cressetref01_Bytes.f k (bytesOf s)) (tB s) := by
    unfold cressetref01_Bytes.f
    rw [bytesOf_length]
    refine Ev.bind (refI_ev (i64_nat (by omega))) ?_
    rw [if_pos (by omega)]
    exact Ev.now _
  refine Ev.bind hb ?_
  rw [if_pos (by have := tB_len hs; omega)]
  exact Ev.now _
theorem refWrite_ev (x : S33) (h0 : x.f0.size ≤ 1000) (h1 : x.f1.size ≤ 1000) : Ev (fun k => cressetref03_WriteForm.f k x.f0 x.f1 x.f2) (wB x) := by
  unfold cressetref03_WriteForm.f
  have a0 := tB_len h0; have a1 := tB_len h1; have a2 := fB_len x.f2
  refine Ev.bind (refText_ev x.f0 h0 [] (by simp)) ?_
  refine Ev.bind (refFlag_ev x.f2 _ (by simp only [List.nil_append]; omega)) ?_
  refine Ev.bind (refText_ev x.f1 h1 _ (by simp only [List.nil_append, List.length_append]; omega)) ?_
  simp only [List.nil_append]
  exact Ev.now _
theorem commitPut_loop (l : List S33) (hl : l.length ≤ 100) (hv : ∀ x ∈ l, x.f0.size ≤ 1000 ∧ x.f1.size ≤ 1000) : ∀ (d n : Nat) (xs : List Int), n + d = l.length → xs.length ≤ 1000 + 2100 * n → Ev (fun k => record_commit_put.l0 k xs l (l.length : Int) (n : Int)) (xs ++ (l.drop n).flatMap wB)
  | 0, n, xs, h, hx => by
    rw [List.drop_of_length_le (by omega), List.flatMap_nil, List.append_nil]
    refine Ev.step (f := fun _ => some xs) (fun k => ?_) (Ev.now _)
    simp only [record_commit_put.l0]
    rw [if_neg (by omega)]
  | d + 1, n, xs, h, hx => by
    have hn : n < l.length := by omega
    have e : wrap64 ((n : Int) + 1) = ((n + 1 : Nat) : Int) := by rw [wr1 (by omega) (by omega)]; omega
    have hm := hv _ (List.getElem_mem hn)
    have hw := wB_len hm.1 hm.2
    have ih := commitPut_loop l hl hv d (n + 1) (xs ++ wB l[n]) (by omega) (by rw [List.length_append]; omega)
    rw [List.drop_eq_getElem_cons hn, List.flatMap_cons, ← List.append_assoc]
    refine Ev.step (fun k => by simp only [record_commit_put.l0]; rw [if_pos (by omega), if_pos (by omega), if_pos (by omega), rd33 l n hn]) ?_
    refine Ev.bind (writePut_ev l[n] hm.1 hm.2 xs (by omega)) ?_
    simp only [e]
    exact ih
theorem refCommit_loop (a : Int) (l : List S33) (hl : l.length ≤ 100) (hv : ∀ x ∈ l, x.f0.size ≤ 1000 ∧ x.f1.size ≤ 1000) : ∀ (d n : Nat) (xs : List Int), n + d = l.length → xs.length ≤ 1000 + 2100 * n → Ev (fun k => cressetref03_Commit.l0 k xs (n : Int) a l) (xs ++ (l.drop n).flatMap wB, 0)
  | 0, n, xs, h, hx => by
    rw [List.drop_of_length_le (by omega), List.flatMap_nil, List.append_nil]
    refine Ev.step (f := fun _ => some (xs, 0)) (fun k => ?_) (Ev.now _)
    simp only [cressetref03_Commit.l0]
    rw [if_neg (by omega)]
  | d + 1, n, xs, h, hx => by
    have hn : n < l.length := by omega
    have e : wrap64 ((n : Int) + 1) = ((n + 1 : Nat) : Int) := by rw [wr1 (by omega) (by omega)]; omega
    have hm := hv _ (List.getElem_mem hn)
    have hw := wB_len hm.1 hm.2
    have ih := refCommit_loop a l hl hv d (n + 1) (xs ++ wB l[n]) (by omega) (by rw [List.length_append]; omega)
    rw [List.drop_eq_getElem_cons hn, List.flatMap_cons, ← List.append_assoc]
    refine Ev.step (fun k => by simp only [cressetref03_Commit.l0]; rw [if_pos (by omega), if_pos (by omega), rd33 l n hn]) ?_
    refine Ev.bind (refWrite_ev l[n] hm.1 hm.2) ?_
    simp only [if_pos (show xs.length + (wB l[n]).length < 140737488355328 by omega), e]
    exact ih
theorem wr_sizes {x : S33} (h : wrE x = 0) : x.f0.size ≤ 1000 ∧ x.f1.size ≤ 1000 := by
  unfold wrE at h
  simp only [fst] at h
  by_cases h1 : keyE x.f0 = 0
  · rw [if_pos h1] at h
    by_cases h2 : valE x.f1 = 0
    · unfold keyE at h1
      unfold valE at h2
      constructor
      · split at h1
        · cases h1
        · split at h1
          · cases h1
          · omega
      · split at h2
        · cases h2
        · omega
    · rw [if_neg h2] at h; exact absurd h h2
  · rw [if_neg h1] at h; exact absurd h h1
theorem cm_valid (l : List S33) : ∀ (d n : Nat), n + d = l.length → cmE l d n = 0 → ∀ x ∈ l.drop n, wrE x = 0
  | 0, n, h, _ => by rw [List.drop_of_length_le (by omega)]; intro x hx; cases hx
  | d + 1, n, h, hc => by
    have hn : n < l.length := by omega
    unfold cmE at hc
    rw [g33_eq l n hn] at hc
    by_cases h1 : wrE l[n] = 0
    · rw [if_pos h1] at hc
      split at hc
      · have ih := cm_valid l d (n + 1) (by omega) hc
        rw [List.drop_eq_getElem_cons hn]
        intro x hx
        rcases List.mem_cons.1 hx with rfl | hx
        · exact h1
        · exact ih x hx
      · cases hc
    · rw [if_neg h1] at hc; exact absurd hc h1
theorem commit_valid {a : Int} {l : List S33} (h : commitE a l = 0) : l.length ≤ 64 ∧ l.length ≠ 0 ∧ ∀ x ∈ l, wrE x = 0 := by
  unfold commitE at h
  split at h
  · rename_i hh
    exact ⟨hh.2.2, hh.2.1, by have := cm_valid l l.length 0 (by omega) h; simpa using this⟩
  · cases h
def commitR (a : Int) (l : List S33) : List Int × Int := if commitE a l = 0 then (cB a l, 0) else ([], commitE a l)
theorem recCommit_ev (a : Int) (l : List S33) (ha : i64 a) : Ev (fun k => record_Commit.f k a l) (commitR a l) := by
  unfold record_Commit.f record_bytes_commit.f record_commit_check.f commitR
  by_cases h : commitE a l = 0
  · obtain ⟨hl, _, hv⟩ := commit_valid h
    rw [if_pos h]
    refine Ev.bind (a := (cB a l, 0)) ?_ (Ev.now _)
    refine Ev.bind (a := (0 : Int)) (Ev.bind (checkCommit_ev a l) (by rw [h]; exact Ev.now _)) ?_
    simp only [if_true]
    refine Ev.bind (a := cB a l) ?_ (Ev.now _)
    unfold record_commit_put.f
    have h9 := I_len9 ha
    have h8 := I_len9 (i64_nat (m := l.length) (by omega))
    refine Ev.bind (put_ev ha [] (by simp)) ?_
    refine Ev.bind (put_ev (i64_nat (m := l.length) (by omega)) _ (by simp only [List.nil_append]; omega)) ?_
    simp only [List.nil_append]
    have := commitPut_loop l (by omega) (fun x hx => wr_sizes (hv x hx)) l.length 0 (I a ++ I l.length) (by omega) (by rw [List.length_append]; omega)
    exact this
  · rw [if_neg h]
    refine Ev.bind (a := ([], commitE a l)) ?_ (Ev.now _)
    refine Ev.bind (Ev.bind (checkCommit_ev a l) (Ev.now _)) ?_
    simp only [if_neg h]
    exact Ev.now _
theorem refCommit_ev (a : Int) (l : List S33) (ha : i64 a) : Ev (fun k => cressetref03_Commit.f k a l) (commitR a l) := by
  unfold cressetref03_Commit.f commitR
  refine Ev.bind (checkCommitR_ev a l) ?_
  by_cases h : commitE a l = 0
  · obtain ⟨hl, _, hv⟩ := commit_valid h
    simp only [if_pos h]
    have h9 := I_len9 ha
    have h8 := I_len9 (i64_nat (m := l.length) (by omega))
    refine Ev.bind (refNum_ev ha [] (by simp)) ?_
    refine Ev.bind (refNum_ev (i64_nat (m := l.length) (by omega)) _ (by simp only [List.nil_append]; omega)) ?_
    simp only [List.nil_append]
    have := refCommit_loop a l (by omega) (fun x hx => wr_sizes (hv x hx)) l.length 0 (I a ++ I l.length) (by omega) (by rw [List.length_append]; omega)
    exact this
  · simp only [if_neg h]
    exact Ev.now _
theorem chunkPut_loop (l : List S74) (hl : l.length ≤ 100) (hv : ∀ x ∈ l, (x.f0.size ≤ 1000 ∧ x.f1.size ≤ 1000) ∧ i64 x.f2) : ∀ (d n : Nat) (xs : List Int), n + d = l.length → xs.length ≤ 1000 + 2100 * n → Ev (fun k => record_chunk_put.l0 k xs l (l.length : Int) (n : Int)) (xs ++ (l.drop n).flatMap pB)
  | 0, n, xs, h, hx => by
    rw [List.drop_of_length_le (by omega), List.flatMap_nil, List.append_nil]
    refine Ev.step (f := fun _ => some xs) (fun k => ?_) (Ev.now _)
    simp only [record_chunk_put.l0]
    rw [if_neg (by omega)]
  | d + 1, n, xs, h, hx => by
    have hn : n < l.length := by omega
    have e : wrap64 ((n : Int) + 1) = ((n + 1 : Nat) : Int) := by rw [wr1 (by omega) (by omega)]; omega
    have hm := hv _ (List.getElem_mem hn)
    have hw := pB_len hm.1.1 hm.1.2 hm.2
    have a0 := tB_len hm.1.1
    have a1 := tB_len hm.1.2
    have ih := chunkPut_loop l hl hv d (n + 1) (xs ++ pB l[n]) (by omega) (by rw [List.length_append]; omega)
    rw [List.drop_eq_getElem_cons hn, List.flatMap_cons, ← List.append_assoc]
    refine Ev.step (fun k => by simp only [record_chunk_put.l0]; rw [if_pos (by omega), if_pos (by omega), if_pos (by omega), rd74 l n hn]) ?_
    have p1 := puttext_ev l[n].f0 xs (by have := hm.1.1; omega)
    rw [List.append_assoc] at p1
    refine Ev.bind p1 ?_
    have p2 := puttext_ev l[n].f1 (xs ++ tB l[n].f0) (by have := hm.1.2; rw [List.length_append]; omega)
    rw [List.append_assoc] at p2
    refine Ev.bind p2 ?_
    refine Ev.bind (put_ev hm.2 (xs ++ tB l[n].f0 ++ tB l[n].f1) (by rw [List.length_append, List.length_append]; omega)) ?_
    simp only [e]
    have e3 : xs ++ tB l[n].f0 ++ tB l[n].f1 ++ I l[n].f2 = xs ++ pB l[n] := by simp [pB, List.append_assoc]
    rw [e3]
    exact ih
theorem refChunk_loop (a : Int) (b : Bool) (l : List S74) (hl : l.length ≤ 100) (hv : ∀ x ∈ l, (x.f0.size ≤ 1000 ∧ x.f1.size ≤ 1000) ∧ i64 x.f2) : ∀ (d n : Nat) (xs : List Int), n + d = l.length → xs.length ≤ 1000 + 2100 * n → Ev (fun k => cressetref03_Chunk.l0 k xs (n : Int) a l b) (xs ++ (l.drop n).flatMap pB, 0)
  | 0, n, xs, h, hx => by
    rw [List.drop_of_length_le (by omega), List.flatMap_nil, List.append_nil]
    refine Ev.step (f := fun _ => some (xs, 0)) (fun k => ?_) (Ev.now _)
    simp only [cressetref03_Chunk.l0]
    rw [if_neg (by omega)]
  | d + 1, n, xs, h, hx => by
    have hn : n < l.length := by omega
    have e : wrap64 ((n : Int) + 1) = ((n + 1 : Nat) : Int) := by rw [wr1 (by omega) (by omega)]; omega
    have hm := hv _ (List.getElem_mem hn)
    have hw := pB_len hm.1.1 hm.1.2 hm.2
    have a0 := tB_len hm.1.1
    have a1 := tB_len hm.1.2
    have ih := refChunk_loop a b l hl hv d (n + 1) (xs ++ pB l[n]) (by omega) (by rw [List.length_append]; omega)
    rw [List.drop_eq_getElem_cons hn, List.flatMap_cons, ← List.append_assoc]
    refine Ev.step (fun k => by simp only [cressetref03_Chunk.l0]; rw [if_pos (by omega), if_pos (by omega), rd74 l n hn]) ?_
    refine Ev.bind (refText_ev l[n].f0 hm.1.1 xs (by omega)) ?_
    refine Ev.bind (refText_ev l[n].f1 hm.1.2 _ (by rw [List.length_append]; omega)) ?_
    refine Ev.bind (refNum_ev hm.2 _ (by rw [List.length_append, List.length_append]; omega)) ?_
    simp only [e]
    have e3 : xs ++ tB l[n].f0 ++ tB l[n].f1 ++ I l[n].f2 = xs ++ pB l[n] := by simp [pB, List.append_assoc]
    rw [e3]
    exact ih
theorem ch_valid (l : List S74) : ∀ (d n : Nat), n + d = l.length → chE l d n = 0 → ∀ x ∈ l.drop n, x.f0.size ≤ 1000 ∧ x.f1.size ≤ 1000
  | 0, n, h, _ => by rw [List.drop_of_length_le (by omega)]; intro x hx; cases hx
  | d + 1, n, h, hc => by
    have hn : n < l.length := by omega
    unfold chE at hc
    rw [g74_eq l n hn] at hc
    by_cases h1 : keyE l[n].f0 = 0
    · rw [if_pos h1] at hc
      by_cases h2 : valE l[n].f1 = 0
      · rw [if_pos h2] at hc
        split at hc
        · have ih := ch_valid l d (n + 1) (by omega) hc
          rw [List.drop_eq_getElem_cons hn]
          intro x hx
          rcases List.mem_cons.1 hx with rfl | hx
          · unfold keyE at h1
            unfold valE at h2
            constructor
            · split at h1
              · cases h1
              · split at h1
                · cases h1
                · omega
            · split at h2
              · cases h2
              · omega
          · exact ih x hx
        · cases hc
      · rw [if_neg h2] at hc; exact absurd hc h2
    · rw [if_neg h1] at hc; exact absurd hc h1
theorem chunk_valid {a : Int} {l : List S74} (h : chunkE a l = 0) : l.length ≤ 16 ∧ ∀ x ∈ l, x.f0.size ≤ 1000 ∧ x.f1.size ≤ 1000 := by
  unfold chunkE at h
  split at h
  · rename_i hh
    exact ⟨hh.2.2, by have := ch_valid l l.length 0 (by omega) h; simpa using this⟩
  · cases h
def chunkR (a : Int) (l : List S74) (b : Bool) : List Int × Int := if chunkE a l = 0 then (kB a l b, 0) else ([], chunkE a l)
theorem recChunk_ev (a : Int) (l : List S74) (b : Bool) (ha : i64 a) (hi : ∀ x ∈ l, i64 x.f2) : Ev (fun k => record_Chunk.f k a l b) (chunkR a l b) := by
  unfold record_Chunk.f record_bytes_chunk.f record_chunk_check.f chunkR
  by_cases h : chunkE a l = 0
  · obtain ⟨hl, hv⟩ := chunk_valid h
    rw [if_pos h]
    refine Ev.bind (a := (kB a l b, 0)) ?_ (Ev.now _)
    refine Ev.bind (a := (0 : Int)) (Ev.bind (checkChunk_ev a l b) (by rw [h]; exact Ev.now _)) ?_
    simp only [if_true]
    refine Ev.bind (a := kB a l b) ?_ (Ev.now _)
    unfold record_chunk_put.f
    have h9 := I_len9 ha
    have h8 := I_len9 (i64_nat (m := l.length) (by omega))
    have h7 := fB_len b
    refine Ev.bind (put_ev ha [] (by simp)) ?_
    refine Ev.bind (putflag_ev b _ (by simp only [List.nil_append]; omega)) ?_
    refine Ev.bind (put_ev (i64_nat (m := l.length) (by omega)) (I a ++ fB b) (by rw [List.length_append]; omega)) ?_
    have := chunkPut_loop l (by omega) (fun x hx => ⟨hv x hx, hi x hx⟩) l.length 0 (I a ++ fB b ++ I l.length) (by omega) (by rw [List.length_append, List.length_append]; omega)
    exact this
  · rw [if_neg h]
    refine Ev.bind (a := ([], chunkE a l)) ?_ (Ev.now _)
    refine Ev.bind (Ev.bind (checkChunk_ev a l b) (Ev.now _)) ?_
    simp only [if_neg h]
    exact Ev.now _
theorem refChunk_ev (a : Int) (l : List S74) (b : Bool) (ha : i64 a) (hi : ∀ x ∈ l, i64 x.f2) : Ev (fun k => cressetref03_Chunk.f k a l b) (chunkR a l b) := by
  unfold cressetref03_Chunk.f chunkR
  refine Ev.bind (checkChunkR_ev a l b) ?_
  by_cases h : chunkE a l = 0
  · obtain ⟨hl, hv⟩ := chunk_valid h
    simp only [if_pos h]
    have h9 := I_len9 ha
    have h8 := I_len9 (i64_nat (m := l.length) (by omega))
    have h7 := fB_len b
    refine Ev.bind (refNum_ev ha [] (by simp)) ?_
    refine Ev.bind (refFlag_ev b _ (by simp only [List.nil_append]; omega)) ?_
    refine Ev.bind (refNum_ev (i64_nat (m := l.length) (by omega)) _ (by simp only [List.nil_append, List.length_append]; omega)) ?_
    simp only [List.nil_append]
    have := refChunk_loop a b l (by omega) (fun x hx => ⟨hv x hx, hi x hx⟩) l.length 0 (I a ++ fB b ++ I l.length) (by omega) (by rw [List.length_append, List.length_append]; omega)
    exact this
  · simp only [if_neg h]
    exact Ev.now _
theorem masterPut_ev : ∀ (ns xs : List Int), (∀ n ∈ ns, i64 n) → ns.length ≤ 100 → xs.length + 9 * ns.length ≤ 10000 → Ev (fun k => record_master_put.l k ns xs) (xs ++ mB ns)
  | [], xs, _, _, _ => by simp only [record_master_put.l, mB, List.flatMap_nil, List.append_nil]; exact Ev.now _
  | n :: ns, xs, hi, hl, hx => by
    simp only [record_master_put.l]
    have h9 := I_len9 (hi n (List.mem_cons_self ..))
    simp only [List.length_cons] at hl hx
    refine Ev.bind (put_ev (hi n (List.mem_cons_self ..)) xs (by omega)) ?_
    have ih := masterPut_ev ns (xs ++ I n) (fun m hm => hi m (List.mem_cons_of_mem _ hm)) (by omega) (by rw [List.length_append]; omega)
    rw [mB, List.flatMap_cons, ← List.append_assoc]
    exact ih
def masterR (a b c d e f g h : Int) : List Int × Int := if masterE a b c d e f g h = 0 then (mB [a, b, c, d, e, f, g, h], 0) else ([], masterE a b c d e f g h)
theorem recMaster_ev (a b c d e f g h : Int) (hi : ∀ n ∈ [a, b, c, d, e, f, g, h], i64 n) : Ev (fun k => record_Master.f k a b c d e f g h) (masterR a b c d e f g h) := by
  unfold record_Master.f record_bytes_master.f record_master_check.f masterR
  simp only [checkMaster_eq, Option.bind_some]
  by_cases hm : masterE a b c d e f g h = 0
  · simp only [if_pos hm]
    refine Ev.bind (a := (mB [a, b, c, d, e, f, g, h], 0)) (Ev.bind ?_ (Ev.now _)) (Ev.now _)
    unfold record_master_put.f
    exact masterPut_ev [a, b, c, d, e, f, g, h] [] hi (by simp) (by simp)
  · simp only [if_neg hm, Option.bind_some]
    exact Ev.now _
theorem refMaster_ev (a b c d e f g h : Int) (hi : ∀ n ∈ [a, b, c, d, e, f, g, h], i64 n) : Ev (fun k => cressetref03_Master.f k a b c d e f g h) (masterR a b c d e f g h) := by
  unfold cressetref03_Master.f masterR
  refine Ev.bind (checkMasterR_ev a b c d e f g h) ?_
  by_cases hm : masterE a b c d e f g h = 0
  · simp only [if_pos hm]
    have ia := hi a (by simp); have ib := hi b (by simp); have ic := hi c (by simp); have id_ := hi d (by simp); have ie := hi e (by simp); have if_ := hi f (by simp); have ig := hi g (by simp); have ih := hi h (by simp)
    have la := I_len9 ia; have lb := I_len9 ib; have lc := I_len9 ic; have ld := I_len9 id_; have le := I_len9 ie; have lf := I_len9 if_; have lg := I_len9 ig
    refine Ev.bind (refNum_ev ia [] (by simp)) ?_
    simp only [List.nil_append]
    refine Ev.bind (refNum_ev ib _ (by omega)) ?_
    refine Ev.bind (refNum_ev ic _ (by simp only [List.length_append]; omega)) ?_
    refine Ev.bind (refNum_ev id_ _ (by simp only [List.length_append]; omega)) ?_
    refine Ev.bind (refNum_ev ie _ (by simp only [List.length_append]; omega)) ?_
    refine Ev.bind (refNum_ev if_ _ (by simp only [List.length_append]; omega)) ?_
    refine Ev.bind (refNum_ev ig _ (by simp only [List.length_append]; omega)) ?_
    refine Ev.bind (refNum_ev ih _ (by simp only [List.length_append]; omega)) ?_
    refine Ev.congr (f := fun _ => some _) (fun k => ?_) (Ev.now _)
    simp [mB, List.flatMap_cons, List.append_assoc]
  · simp only [if_neg hm]
    exact Ev.now _
end Go.Proofs.Ytkcdmoghnoodmaa.Wr

namespace Go.Proofs.Ytkcdmoghnoodmaa.Pure
open Go.RowKit Go.Proofs.Ytkcdmoghnoodmaa.B Go.Proofs.YtkcdmoghnoodmaaW.PrintWords Go.Proofs.YtkcdmoghnoodmaaW.PrintLast Go.Proofs.Ytkcdmoghnoodmaa.Lib Go.Proofs.Ytkcdmoghnoodmaa.Wr
open Go.Proofs.Ytkcdmoghnoodmaa.Cod (i64_of eq_ev)
theorem RecordWrites : cressetlaw03_RecordWrites.Pure := by
  intro a l b m c n0 n1 n2 n3 n4 n5 n6 n7 ha _ hb hm h0 h1 h2 h3 h4 h5 h6 h7
  refine Ev.rounds (r := true) ?_
  unfold cressetlaw03_RecordWrites.f
  have hi : ∀ n ∈ [n0, n1, n2, n3, n4, n5, n6, n7], Go.Proofs.Ytkcdmoghnoodmaa.Cod.i64 n := by
    intro n hn
    simp only [List.mem_cons, List.not_mem_nil, or_false] at hn
    rcases hn with rfl | rfl | rfl | rfl | rfl | rfl | rfl | rfl <;> (apply i64_of; assumption)
  have hj : ∀ x ∈ m, Go.Proofs.Ytkcdmoghnoodmaa.Cod.i64 x.f2 := fun x hx => i64_of (hm.2.2 x hx).2.2
  refine Ev.bind (recCommit_ev a l (i64_of ha)) ?_
  refine Ev.bind (refCommit_ev a l (i64_of ha)) ?_
  refine Ev.bind (recChunk_ev b m c (i64_of hb) hj) ?_
  refine Ev.bind (refChunk_ev b m c (i64_of hb) hj) ?_
  refine Ev.bind (recMaster_ev n0 n1 n2 n3 n4 n5 n6 n7 hi) ?_
  refine Ev.bind (refMaster_ev n0 n1 n2 n3 n4 n5 n6 n7 hi) ?_
  refine Ev.bind live_ev ?_
  simp only [if_true]
  refine Ev.bind (eq_ev _) ?_
  simp only [if_true]
  refine Ev.bind (eq_ev _) ?_
  simp only [if_true]
  refine Ev.bind (eq_ev _) ?_
  exact Ev.now _
end Go.Proofs.Ytkcdmoghnoodmaa.Pure

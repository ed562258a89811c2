/-
Of the row RecordBack: printed walks and plain laws, merged (wip/claim2.py).
-/
import Derived.Test.YtkcdmoghnoodmaaQRecordBack3
import Derived.Test.YtkcdmoghnoodmaaQRecordBack5
import Derived.Test.YtkcdmoghnoodmaaQRecordBack6
import Derived.Test.YtkcdmoghnoodmaaQRecordBack7
import Derived.Test.YtkcdmoghnoodmaaQRecordBack8
import Derived.Test.YtkcdmoghnoodmaaQRecordBack10
import Derived.Test.YtkcdmoghnoodmaaQRecordBack12
import Derived.Test.YtkcdmoghnoodmaaQRecordBack13
import Derived.Test.YtkcdmoghnoodmaaQRecordBack14
import Derived.Test.YtkcdmoghnoodmaaQRecordBack15
import Derived.Test.YtkcdmoghnoodmaaQRecordBack16
namespace Go.Proofs.Ytkcdmoghnoodmaa.Wr
open Go.RowKit Go.Proofs.Ytkcdmoghnoodmaa.B Go.Proofs.YtkcdmoghnoodmaaW.PrintWords Go.Proofs.YtkcdmoghnoodmaaW.PrintLast Go.Proofs.Ytkcdmoghnoodmaa.Lib
open Go.Proofs.Ytkcdmoghnoodmaa.Cod (I i64 i64_of kw kw_le I_length put_ev puttext_ev putflag_ev refI_ev bytesOf_bytes I_bytes eq_ev)
set_option linter.unusedVariables false
set_option linter.unusedSimpArgs false
def tB (s : ByteArray) : List Int := I s.size ++ bytesOf s
def fB (b : Bool) : List Int := I (if b then 1 else 0)
def wB (x : S33) : List Int := tB x.f0 ++ fB x.f2 ++ tB x.f1
def pB (x : S74) : List Int := tB x.f0 ++ tB x.f1 ++ I x.f2
def cB (a : Int) (l : List S33) : List Int := I a ++ I l.length ++ l.flatMap wB
def kB (a : Int) (l : List S74) (b : Bool) : List Int := I a ++ fB b ++ I l.length ++ l.flatMap pB
def mB (l : List Int) : List Int := l.flatMap I
theorem I_len9 {n : Int} (h : i64 n) : (I n).length ≤ 9 := by
  rw [I_length]; have := kw_le h; omega
theorem i64_nat {m : Nat} (h : m ≤ 1000000) : i64 (m : Int) := ⟨by omega, by omega⟩
theorem i64_flag (b : Bool) : i64 (if b then 1 else 0) := by cases b <;> exact ⟨by decide, by decide⟩
theorem tB_len {s : ByteArray} (h : s.size ≤ 1000) : (tB s).length ≤ 1009 := by
  unfold tB
  rw [List.length_append, bytesOf_length]
  have := I_len9 (i64_nat (m := s.size) (by omega))
  omega
theorem fB_len (b : Bool) : (fB b).length ≤ 9 := I_len9 (i64_flag b)
theorem wB_len {x : S33} (h0 : x.f0.size ≤ 1000) (h1 : x.f1.size ≤ 1000) : (wB x).length ≤ 2100 := by
  unfold wB
  rw [List.length_append, List.length_append]
  have := tB_len h0; have := tB_len h1; have := fB_len x.f2
  omega
theorem pB_len {x : S74} (h0 : x.f0.size ≤ 1000) (h1 : x.f1.size ≤ 1000) (h2 : i64 x.f2) : (pB x).length ≤ 2100 := by
  unfold pB
  rw [List.length_append, List.length_append]
  have := tB_len h0; have := tB_len h1; have := I_len9 h2
  omega
theorem writePut_ev (x : S33) (h0 : x.f0.size ≤ 1000) (h1 : x.f1.size ≤ 1000) (xs : List Int) (hx : xs.length ≤ 1000000) : Ev (fun k => record_write_put.f k x.f0 x.f1 x.f2 xs) (xs ++ wB x) := by
  unfold record_write_put.f
  have a0 := tB_len h0; have a1 := tB_len h1; have a2 := fB_len x.f2
  refine Ev.bind (puttext_ev x.f0 xs (by omega)) ?_
  refine Ev.bind (putflag_ev x.f2 _ (by rw [List.append_assoc, List.length_append]; show xs.length + (tB x.f0).length ≤ _; omega)) ?_
  refine Ev.bind (puttext_ev x.f1 _ (by rw [List.append_assoc, List.append_assoc, List.length_append, List.length_append, List.length_append]; have : (I (x.f0.size : Int)).length + (bytesOf x.f0).length ≤ 1009 := by rw [← List.length_append]; exact a0
                                        show xs.length + ((I (x.f0.size : Int)).length + ((bytesOf x.f0).length + (fB x.f2).length)) + x.f1.size ≤ _; omega)) ?_
  refine Ev.congr (f := fun _ => some _) (fun k => ?_) (Ev.now _)
  simp [wB, tB, fB, List.append_assoc]
theorem commitPut_loop (l : List S33) (hl : l.length ≤ 100) (hv : ∀ x ∈ l, x.f0.size ≤ 1000 ∧ x.f1.size ≤ 1000) : ∀ (d n : Nat) (xs : List Int), n + d = l.length → xs.length ≤ 1000 + 2100 * n → Ev (fun k => record_commit_put.l0 k xs l (l.length : Int) (n : Int)) (xs ++ (l.drop n).flatMap wB)
  | 0, n, xs, h, hx => by
    rw [List.drop_of_length_le (by omega), List.flatMap_nil, List.append_nil]
    refine Ev.step (f := fun _ => some xs) (fun k => ?_) (Ev.now _)
    simp only [record_commit_put.l0]
    rw [if_neg (by omega)]
  | d + 1, n, xs, h, hx => by
    have hn : n < l.length := by omega
    have e : wrap64 ((n : Int) + 1) = ((n + 1 : Nat) : Int) := by rw [wr1 (by omega) (by omega)]; omega
    have hm := hv _ (List.getElem_mem hn)
    have hw := wB_len hm.1 hm.2
    have ih := commitPut_loop l hl hv d (n + 1) (xs ++ wB l[n]) (by omega) (by rw [List.length_append]; omega)
    rw [List.drop_eq_getElem_cons hn, List.flatMap_cons, ← List.append_assoc]
    refine Ev.step (fun k => by simp only [record_commit_put.l0]; rw [if_pos (by omega), if_pos (by omega), if_pos (by omega), rd33 l n hn]) ?_
    refine Ev.bind (writePut_ev l[n] hm.1 hm.2 xs (by omega)) ?_
    simp only [e]
    exact ih
theorem wr_sizes {x : S33} (h : wrE x = 0) : x.f0.size ≤ 1000 ∧ x.f1.size ≤ 1000 := by
  unfold wrE at h
  simp only [fst] at h
  by_cases h1 : keyE x.f0 = 0
  · rw [if_pos h1] at h
    by_cases h2 : valE x.f1 = 0
    · unfold keyE at h1
      unfold valE at h2
      constructor
      · split at h1
        · cases h1
        · split at h1
          · cases h1
          · omega
      · split at h2
        · cases h2
        · omega
    · rw [if_neg h2] at h; exact absurd h h2
  · rw [if_neg h1] at h; exact absurd h h1
theorem cm_valid (l : List S33) : ∀ (d n : Nat), n + d = l.length → cmE l d n = 0 → ∀ x ∈ l.drop n, wrE x = 0
  | 0, n, h, _ => by rw [List.drop_of_length_le (by omega)]; intro x hx; cases hx
  | d + 1, n, h, hc => by
    have hn : n < l.length := by omega
    unfold cmE at hc
    rw [g33_eq l n hn] at hc
    by_cases h1 : wrE l[n] = 0
    · rw [if_pos h1] at hc
      split at hc
      · have ih := cm_valid l d (n + 1) (by omega) hc
        rw [List.drop_eq_getElem_cons hn]
        intro x hx
        rcases List.mem_cons.1 hx with rfl | hx
        · exact h1
        · exact ih x hx
      · cases hc
    · rw [if_neg h1] at hc; exact absurd hc h1
theorem commit_valid {a : Int} {l : List S33} (h : commitE a l = 0) : l.length ≤ 64 ∧ l.length ≠ 0 ∧ ∀ x ∈ l, wrE x = 0 := by
  unfold commitE at h
  split at h
  · rename_i hh
    exact ⟨hh.2.2, hh.2.1, by have := cm_valid l l.length 0 (by omega) h; simpa using this⟩
  · cases h
def commitR (a : Int) (l : List S33) : List Int × Int := if commitE a l = 0 then (cB a l, 0) else ([], commitE a l)
theorem recCommit_ev (a : Int) (l : List S33) (ha : i64 a) : Ev (fun k => record_Commit.f k a l) (commitR a l) := by
  unfold record_Commit.f record_bytes_commit.f record_commit_check.f commitR
  by_cases h : commitE a l = 0
  · obtain ⟨hl, _, hv⟩ := commit_valid h
    rw [if_pos h]
    refine Ev.bind (a := (cB a l, 0)) ?_ (Ev.now _)
    refine Ev.bind (a := (0 : Int)) (Ev.bind (checkCommit_ev a l) (by rw [h]; exact Ev.now _)) ?_
    simp only [if_true]
    refine Ev.bind (a := cB a l) ?_ (Ev.now _)
    unfold record_commit_put.f
    have h9 := I_len9 ha
    have h8 := I_len9 (i64_nat (m := l.length) (by omega))
    refine Ev.bind (put_ev ha [] (by simp)) ?_
    refine Ev.bind (put_ev (i64_nat (m := l.length) (by omega)) _ (by simp only [List.nil_append]; omega)) ?_
    simp only [List.nil_append]
    have := commitPut_loop l (by omega) (fun x hx => wr_sizes (hv x hx)) l.length 0 (I a ++ I l.length) (by omega) (by rw [List.length_append]; omega)
    exact this
  · rw [if_neg h]
    refine Ev.bind (a := ([], commitE a l)) ?_ (Ev.now _)
    refine Ev.bind (Ev.bind (checkCommit_ev a l) (Ev.now _)) ?_
    simp only [if_neg h]
    exact Ev.now _
theorem chunkPut_loop (l : List S74) (hl : l.length ≤ 100) (hv : ∀ x ∈ l, (x.f0.size ≤ 1000 ∧ x.f1.size ≤ 1000) ∧ i64 x.f2) : ∀ (d n : Nat) (xs : List Int), n + d = l.length → xs.length ≤ 1000 + 2100 * n → Ev (fun k => record_chunk_put.l0 k xs l (l.length : Int) (n : Int)) (xs ++ (l.drop n).flatMap pB)
  | 0, n, xs, h, hx => by
    rw [List.drop_of_length_le (by omega), List.flatMap_nil, List.append_nil]
    refine Ev.step (f := fun _ => some xs) (fun k => ?_) (Ev.now _)
    simp only [record_chunk_put.l0]
    rw [if_neg (by omega)]
  | d + 1, n, xs, h, hx => by
    have hn : n < l.length := by omega
    have e : wrap64 ((n : Int) + 1) = ((n + 1 : Nat) : Int) := by rw [wr1 (by omega) (by omega)]; omega
    have hm := hv _ (List.getElem_mem hn)
    have hw := pB_len hm.1.1 hm.1.2 hm.2
    have a0 := tB_len hm.1.1
    have a1 := tB_len hm.1.2
    have ih := chunkPut_loop l hl hv d (n + 1) (xs ++ pB l[n]) (by omega) (by rw [List.length_append]; omega)
    rw [List.drop_eq_getElem_cons hn, List.flatMap_cons, ← List.append_assoc]
    refine Ev.step (fun k => by simp only [record_chunk_put.l0]; rw [if_pos (by omega), if_pos (by omega), if_pos (by omega), rd74 l n hn]) ?_
    have p1 := puttext_ev l[n].f0 xs (by have := hm.1.1; omega)
    rw [List.append_assoc] at p1
    refine Ev.bind p1 ?_
    have p2 := puttext_ev l[n].f1 (xs ++ tB l[n].f0) (by have := hm.1.2; rw [List.length_append]; omega)
    rw [List.append_assoc] at p2
    refine Ev.bind p2 ?_
    refine Ev.bind (put_ev hm.2 (xs ++ tB l[n].f0 ++ tB l[n].f1) (by rw [List.length_append, List.length_append]; omega)) ?_
    simp only [e]
    have e3 : xs ++ tB l[n].f0 ++ tB l[n].f1 ++ I l[n].f2 = xs ++ pB l[n] := by simp [pB, List.append_assoc]
    rw [e3]
    exact ih
theorem ch_valid (l : List S74) : ∀ (d n : Nat), n + d = l.length → chE l d n = 0 → ∀ x ∈ l.drop n, x.f0.size ≤ 1000 ∧ x.f1.size ≤ 1000
  | 0, n, h, _ => by rw [List.drop_of_length_le (by omega)]; intro x hx; cases hx
  | d + 1, n, h, hc => by
    have hn : n < l.length := by omega
    unfold chE at hc
    rw [g74_eq l n hn] at hc
    by_cases h1 : keyE l[n].f0 = 0
    · rw [if_pos h1] at hc
      by_cases h2 : valE l[n].f1 = 0
      · rw [if_pos h2] at hc
        split at hc
        · have ih := ch_valid l d (n + 1) (by omega) hc
          rw [List.drop_eq_getElem_cons hn]
          intro x hx
          rcases List.mem_cons.1 hx with rfl | hx
          · unfold keyE at h1
            unfold valE at h2
            constructor
            · split at h1
              · cases h1
              · split at h1
                · cases h1
                · omega
            · split at h2
              · cases h2
              · omega
          · exact ih x hx
        · cases hc
      · rw [if_neg h2] at hc; exact absurd hc h2
    · rw [if_neg h1] at hc; exact absurd hc h1
theorem chunk_valid {a : Int} {l : List S74} (h : chunkE a l = 0) : l.length ≤ 16 ∧ ∀ x ∈ l, x.f0.size ≤ 1000 ∧ x.f1.size ≤ 1000 := by
  unfold chunkE at h
  split at h
  · rename_i hh
    exact ⟨hh.2.2, by have := ch_valid l l.length 0 (by omega) h; simpa using this⟩
  · cases h
def chunkR (a : Int) (l : List S74) (b : Bool) : List Int × Int := if chunkE a l = 0 then (kB a l b, 0) else ([], chunkE a l)
theorem recChunk_ev (a : Int) (l : List S74) (b : Bool) (ha : i64 a) (hi : ∀ x ∈ l, i64 x.f2) : Ev (fun k => record_Chunk.f k a l b) (chunkR a l b) := by
  unfold record_Chunk.f record_bytes_chunk.f record_chunk_check.f chunkR
  by_cases h : chunkE a l = 0
  · obtain ⟨hl, hv⟩ := chunk_valid h
    rw [if_pos h]
    refine Ev.bind (a := (kB a l b, 0)) ?_ (Ev.now _)
    refine Ev.bind (a := (0 : Int)) (Ev.bind (checkChunk_ev a l b) (by rw [h]; exact Ev.now _)) ?_
    simp only [if_true]
    refine Ev.bind (a := kB a l b) ?_ (Ev.now _)
    unfold record_chunk_put.f
    have h9 := I_len9 ha
    have h8 := I_len9 (i64_nat (m := l.length) (by omega))
    have h7 := fB_len b
    refine Ev.bind (put_ev ha [] (by simp)) ?_
    refine Ev.bind (putflag_ev b _ (by simp only [List.nil_append]; omega)) ?_
    refine Ev.bind (put_ev (i64_nat (m := l.length) (by omega)) (I a ++ fB b) (by rw [List.length_append]; omega)) ?_
    have := chunkPut_loop l (by omega) (fun x hx => ⟨hv x hx, hi x hx⟩) l.length 0 (I a ++ fB b ++ I l.length) (by omega) (by rw [List.length_append, List.length_append]; omega)
    exact this
  · rw [if_neg h]
    refine Ev.bind (a := ([], chunkE a l)) ?_ (Ev.now _)
    refine Ev.bind (Ev.bind (checkChunk_ev a l b) (Ev.now _)) ?_
    simp only [if_neg h]
    exact Ev.now _
theorem masterPut_ev : ∀ (ns xs : List Int), (∀ n ∈ ns, i64 n) → ns.length ≤ 100 → xs.length + 9 * ns.length ≤ 10000 → Ev (fun k => record_master_put.l k ns xs) (xs ++ mB ns)
  | [], xs, _, _, _ => by simp only [record_master_put.l, mB, List.flatMap_nil, List.append_nil]; exact Ev.now _
  | n :: ns, xs, hi, hl, hx => by
    simp only [record_master_put.l]
    have h9 := I_len9 (hi n (List.mem_cons_self ..))
    simp only [List.length_cons] at hl hx
    refine Ev.bind (put_ev (hi n (List.mem_cons_self ..)) xs (by omega)) ?_
    have ih := masterPut_ev ns (xs ++ I n) (fun m hm => hi m (List.mem_cons_of_mem _ hm)) (by omega) (by rw [List.length_append]; omega)
    rw [mB, List.flatMap_cons, ← List.append_assoc]
    exact ih
def masterR (a b c d e f g h : Int) : List Int × Int := if masterE a b c d e f g h = 0 then (mB [a, b, c, d, e, f, g, h], 0) else ([], masterE a b c d e f g h)
theorem recMaster_ev (a b c d e f g h : Int) (hi : ∀ n ∈ [a, b, c, d, e, f, g, h], i64 n) : Ev (fun k => record_Master.f k a b c d e f g h) (masterR a b c d e f g h) := by
  unfold record_Master.f record_bytes_master.f record_master_check.f masterR
  simp only [checkMaster_eq, Option.bind_some]
  by_cases hm : masterE a b c d e f g h = 0
  · simp only [if_pos hm]
    refine Ev.bind (a := (mB [a, b, c, d, e, f, g, h], 0)) (Ev.bind ?_ (Ev.now _)) (Ev.now _)
    unfold record_master_put.f
    exact masterPut_ev [a, b, c, d, e, f, g, h] [] hi (by simp) (by simp)
  · simp only [if_neg hm, Option.bind_some]
    exact Ev.now _
end Go.Proofs.Ytkcdmoghnoodmaa.Wr

namespace Go.Proofs.Ytkcdmoghnoodmaa.Rd
open Go.RowKit Go.Proofs.Ytkcdmoghnoodmaa.B Go.Proofs.YtkcdmoghnoodmaaW.PrintWords Go.Proofs.YtkcdmoghnoodmaaW.PrintLast Go.Proofs.Ytkcdmoghnoodmaa.Lib Go.Proofs.Ytkcdmoghnoodmaa.Wr
open Go.Proofs.Ytkcdmoghnoodmaa.Cod (I i64 i64_of kw kw_le I_length Bytes P T F P_ok P_I T_str F_I P_err int_ev text_ev flag_ev bytes_str str_bytes)
set_option linter.unusedVariables false
set_option linter.unusedSimpArgs false
def dr (b : List Int) (a : Int) : List Int := b.drop a.toNat
def In (b : List Int) (a : Int) : Prop := 0 ≤ a ∧ a ≤ (b.length : Int)
theorem dr_len {b : List Int} {a : Int} (h : In b a) : ((dr b a).length : Int) = b.length - a := by
  unfold dr; rw [List.length_drop]; have := h.1; have := h.2; omega
theorem dr_bytes {b : List Int} (h : Bytes b) (a : Int) : Bytes (dr b a) := h.drop _
theorem take_dr {b : List Int} {a s : Int} (h : 0 ≤ a) (hs : 0 ≤ s) : b.take (a + s).toNat = b.take a.toNat ++ (dr b a).take s.toNat := by
  rw [show (a + s).toNat = a.toNat + s.toNat by omega, List.take_add]; rfl
theorem dr_dr {b : List Int} {a s : Int} (h : 0 ≤ a) (hs : 0 ≤ s) : dr b (a + s) = (dr b a).drop s.toNat := by
  unfold dr
  rw [List.drop_drop]
  congr 1
  omega
theorem str_size (l : List Int) : (strOfNums l).size = l.length := by
  unfold strOfNums
  simp [ByteArray.size]
theorem T_ok {l : List Int} (hl : Bytes l) {s : ByteArray} {k : Int} (h : T l = (s, k, 0)) : 0 ≤ k ∧ k ≤ l.length ∧ tB s = l.take k.toNat := by
  unfold T at h
  generalize hP : P l = p at h
  obtain ⟨n, q, e⟩ := p
  simp only at h
  by_cases c : e = 0
  · subst c
    rw [if_pos rfl] at h
    obtain ⟨hn, hq, hle, hI⟩ := P_ok hl hP
    by_cases c1 : n < 0
    · rw [if_pos c1] at h; simp at h
    · rw [if_neg c1] at h
      by_cases c2 : n > (l.length : Int) - q
      · rw [if_pos c2] at h; simp at h
      · rw [if_neg c2] at h
        simp only [Prod.mk.injEq, and_true] at h
        obtain ⟨rfl, rfl⟩ := h
        refine ⟨by omega, by omega, ?_⟩
        have hsz : (strOfNums ((l.take (q + n).toNat).drop q.toNat)).size = n.toNat := by
          rw [str_size, List.length_drop, List.length_take]
          omega
        unfold tB
        rw [hsz, show ((n.toNat : Nat) : Int) = n by omega, hI, bytes_str ((hl.take _).drop _), show q.toNat = 1 + kw n by omega]
        have e2 : l.take (1 + kw n) = (l.take (q + n).toNat).take (1 + kw n) := by rw [List.take_take]; congr 1; omega
        rw [e2, List.take_append_drop]
  · rw [if_neg c] at h
    simp only [Prod.mk.injEq] at h
    exact absurd h.2.2 c
theorem F_ok {l : List Int} (hl : Bytes l) {b : Bool} {k : Int} (h : F l = (b, k, 0)) : 0 ≤ k ∧ k ≤ l.length ∧ fB b = l.take k.toNat := by
  unfold F at h
  generalize hP : P l = p at h
  obtain ⟨n, q, e⟩ := p
  simp only at h
  by_cases c : e = 0
  · subst c
    rw [if_pos rfl] at h
    obtain ⟨hn, hq, hle, hI⟩ := P_ok hl hP
    by_cases c1 : n = 0 ∨ n = 1
    · rw [if_pos c1] at h
      simp only [Prod.mk.injEq, and_true] at h
      obtain ⟨rfl, rfl⟩ := h
      refine ⟨by omega, by omega, ?_⟩
      unfold fB
      rw [show q.toNat = 1 + kw n by omega, ← hI]
      rcases c1 with rfl | rfl <;> rfl
    · rw [if_neg c1] at h; simp at h
  · rw [if_neg c] at h
    simp only [Prod.mk.injEq] at h
    exact absurd h.2.2 c
def RN (b : List Int) (a e : Int) : Int × Int × Int := if e = 0 then (if (P (dr b a)).2.2 = 0 then ((P (dr b a)).1, a + (P (dr b a)).2.1, 0) else (0, a, (P (dr b a)).2.2)) else (0, a, e)
def RT (b : List Int) (a e : Int) : ByteArray × Int × Int := if e = 0 then (if (T (dr b a)).2.2 = 0 then ((T (dr b a)).1, a + (T (dr b a)).2.1, 0) else (⟨#[]⟩, a, (T (dr b a)).2.2)) else (⟨#[]⟩, a, e)
def RF (b : List Int) (a e : Int) : Bool × Int × Int := if e = 0 then (if (F (dr b a)).2.2 = 0 then ((F (dr b a)).1, a + (F (dr b a)).2.1, 0) else (false, a, (F (dr b a)).2.2)) else (false, a, e)
section
variable {b : List Int} (hb : Bytes b) (hl : b.length ≤ 140737488351232)
include hb
theorem RN_ok {a e n a' : Int} (ha : In b a) (h : RN b a e = (n, a', 0)) : e = 0 ∧ In b a' ∧ i64 n ∧ b.take a'.toNat = b.take a.toNat ++ I n := by
  unfold RN at h
  by_cases he : e = 0
  · rw [if_pos he] at h
    generalize hP : P (dr b a) = p at h
    obtain ⟨m, q, c⟩ := p
    simp only at h
    by_cases hc : c = 0
    · subst hc
      rw [if_pos rfl] at h
      simp only [Prod.mk.injEq, and_true] at h
      obtain ⟨rfl, rfl⟩ := h
      obtain ⟨hn, hq, hle, hI⟩ := P_ok (dr_bytes hb a) hP
      have hd := dr_len ha
      refine ⟨he, ⟨by have := ha.1; omega, by omega⟩, hn, ?_⟩
      rw [take_dr ha.1 (by omega), show q.toNat = 1 + kw m by omega, hI]
    · rw [if_neg hc] at h
      simp only [Prod.mk.injEq] at h
      exact absurd h.2.2 hc
  · rw [if_neg he] at h
    simp only [Prod.mk.injEq] at h
    exact absurd h.2.2 he
theorem RT_ok {a e a' : Int} {s : ByteArray} (ha : In b a) (h : RT b a e = (s, a', 0)) : e = 0 ∧ In b a' ∧ b.take a'.toNat = b.take a.toNat ++ tB s := by
  unfold RT at h
  by_cases he : e = 0
  · rw [if_pos he] at h
    generalize hP : T (dr b a) = p at h
    obtain ⟨m, q, c⟩ := p
    simp only at h
    by_cases hc : c = 0
    · subst hc
      rw [if_pos rfl] at h
      simp only [Prod.mk.injEq, and_true] at h
      obtain ⟨rfl, rfl⟩ := h
      obtain ⟨hq, hle, hI⟩ := T_ok (dr_bytes hb a) hP
      have hd := dr_len ha
      refine ⟨he, ⟨by have := ha.1; omega, by omega⟩, ?_⟩
      rw [take_dr ha.1 hq, hI]
    · rw [if_neg hc] at h
      simp only [Prod.mk.injEq] at h
      exact absurd h.2.2 hc
  · rw [if_neg he] at h
    simp only [Prod.mk.injEq] at h
    exact absurd h.2.2 he
theorem RF_ok {a e a' : Int} {s : Bool} (ha : In b a) (h : RF b a e = (s, a', 0)) : e = 0 ∧ In b a' ∧ b.take a'.toNat = b.take a.toNat ++ fB s := by
  unfold RF at h
  by_cases he : e = 0
  · rw [if_pos he] at h
    generalize hP : F (dr b a) = p at h
    obtain ⟨m, q, c⟩ := p
    simp only at h
    by_cases hc : c = 0
    · subst hc
      rw [if_pos rfl] at h
      simp only [Prod.mk.injEq, and_true] at h
      obtain ⟨rfl, rfl⟩ := h
      obtain ⟨hq, hle, hI⟩ := F_ok (dr_bytes hb a) hP
      have hd := dr_len ha
      refine ⟨he, ⟨by have := ha.1; omega, by omega⟩, ?_⟩
      rw [take_dr ha.1 hq, hI]
    · rw [if_neg hc] at h
      simp only [Prod.mk.injEq] at h
      exact absurd h.2.2 hc
  · rw [if_neg he] at h
    simp only [Prod.mk.injEq] at h
    exact absurd h.2.2 he
theorem RN_in {a e : Int} (ha : In b a) : In b (RN b a e).2.1 := by
  generalize h : RN b a e = r
  obtain ⟨n, a', c⟩ := r
  by_cases hc : c = 0
  · subst hc; exact (RN_ok hb ha h).2.1
  · have : a' = a := by
      unfold RN at h
      by_cases he : e = 0
      · rw [if_pos he] at h
        split at h
        · simp only [Prod.mk.injEq] at h; exact absurd h.2.2.symm hc
        · simp only [Prod.mk.injEq] at h; exact h.2.1.symm
      · rw [if_neg he] at h; simp only [Prod.mk.injEq] at h; exact h.2.1.symm
    subst this; exact ha
theorem RT_in {a e : Int} (ha : In b a) : In b (RT b a e).2.1 := by
  generalize h : RT b a e = r
  obtain ⟨n, a', c⟩ := r
  by_cases hc : c = 0
  · subst hc; exact (RT_ok hb ha h).2.1
  · have : a' = a := by
      unfold RT at h
      by_cases he : e = 0
      · rw [if_pos he] at h
        split at h
        · simp only [Prod.mk.injEq] at h; exact absurd h.2.2.symm hc
        · simp only [Prod.mk.injEq] at h; exact h.2.1.symm
      · rw [if_neg he] at h; simp only [Prod.mk.injEq] at h; exact h.2.1.symm
    subst this; exact ha
theorem RF_in {a e : Int} (ha : In b a) : In b (RF b a e).2.1 := by
  generalize h : RF b a e = r
  obtain ⟨n, a', c⟩ := r
  by_cases hc : c = 0
  · subst hc; exact (RF_ok hb ha h).2.1
  · have : a' = a := by
      unfold RF at h
      by_cases he : e = 0
      · rw [if_pos he] at h
        split at h
        · simp only [Prod.mk.injEq] at h; exact absurd h.2.2.symm hc
        · simp only [Prod.mk.injEq] at h; exact h.2.1.symm
      · rw [if_neg he] at h; simp only [Prod.mk.injEq] at h; exact h.2.1.symm
    subst this; exact ha
include hl
theorem num_ev {a e : Int} (ha : In b a) : Ev (fun k => record_reader_num.f k b a e) (RN b a e) := by
  unfold record_reader_num.f
  refine Ev.bind (a := RN b a e) ?_ (Ev.now _)
  unfold record_next_int64.f RN
  by_cases he : e = 0
  · subst he
    simp only [if_true, if_pos ha.1, if_pos ha.2]
    have hd := dr_len ha
    refine Ev.bind (int_ev (dr b a) (dr_bytes hb a) (by have := ha.1; omega)) ?_
    generalize hP : P (dr b a) = p
    obtain ⟨m, q, c⟩ := p
    simp only
    by_cases hc : c = 0
    · subst hc
      obtain ⟨_, hq, hle, _⟩ := P_ok (dr_bytes hb a) hP
      simp only [if_true]
      rw [wr1 (by have := ha.1; omega) (by have := ha.2; omega)]
      exact Ev.now _
    · simp only [if_neg hc]; exact Ev.now _
  · simp only [if_neg he]; exact Ev.now _
theorem txt_ev {a e : Int} (ha : In b a) : Ev (fun k => record_reader_text.f k b a e) (RT b a e) := by
  unfold record_reader_text.f
  refine Ev.bind (a := RT b a e) ?_ (Ev.now _)
  unfold record_next_string.f RT
  by_cases he : e = 0
  · subst he
    simp only [if_true, if_pos ha.1, if_pos ha.2]
    have hd := dr_len ha
    refine Ev.bind (text_ev (dr b a) (dr_bytes hb a) (by have := ha.1; omega)) ?_
    generalize hP : T (dr b a) = p
    obtain ⟨m, q, c⟩ := p
    simp only
    by_cases hc : c = 0
    · subst hc
      obtain ⟨hq, hle, _⟩ := T_ok (dr_bytes hb a) hP
      simp only [if_true]
      rw [wr1 (by have := ha.1; omega) (by have := ha.2; omega)]
      exact Ev.now _
    · simp only [if_neg hc]; exact Ev.now _
  · simp only [if_neg he]; exact Ev.now _
theorem flg_ev {a e : Int} (ha : In b a) : Ev (fun k => record_reader_flag.f k b a e) (RF b a e) := by
  unfold record_reader_flag.f
  refine Ev.bind (a := RF b a e) ?_ (Ev.now _)
  unfold record_next_bool.f RF
  by_cases he : e = 0
  · subst he
    simp only [if_true, if_pos ha.1, if_pos ha.2]
    have hd := dr_len ha
    refine Ev.bind (flag_ev (dr b a) (dr_bytes hb a) (by have := ha.1; omega)) ?_
    generalize hP : F (dr b a) = p
    obtain ⟨m, q, c⟩ := p
    simp only
    by_cases hc : c = 0
    · subst hc
      obtain ⟨hq, hle, _⟩ := F_ok (dr_bytes hb a) hP
      simp only [if_true]
      rw [wr1 (by have := ha.1; omega) (by have := ha.2; omega)]
      exact Ev.now _
    · simp only [if_neg hc]; exact Ev.now _
  · simp only [if_neg he]; exact Ev.now _
end
def RM (b : List Int) (a e most : Int) : Int × Int × Int :=
  if (RN b a e).2.2 = 0 then (if (RN b a e).1 < 0 ∨ (RN b a e).1 > most then (0, (RN b a e).2.1, 32) else ((RN b a e).1, (RN b a e).2.1, 0)) else (0, (RN b a e).2.1, (RN b a e).2.2)
def RW (b : List Int) (a e : Int) : S33 × Int × Int :=
  let x := RT b a e; let y := RF b x.2.1 x.2.2; let z := RT b y.2.1 y.2.2
  (⟨x.1, z.1, y.1⟩, z.2.1, if z.2.2 = 0 then wrE ⟨x.1, z.1, y.1⟩ else z.2.2)
def RP (b : List Int) (a e : Int) : S74 × Int × Int :=
  let x := RT b a e; let y := RT b x.2.1 x.2.2; let z := RN b y.2.1 y.2.2
  (⟨x.1, y.1, z.1⟩, z.2.1, z.2.2)
section
variable {b : List Int} (hb : Bytes b) (hl : b.length ≤ 140737488351232)
include hb hl
theorem many_ev {a e most : Int} (ha : In b a) : Ev (fun k => record_reader_many.f k b a e most) (RM b a e most) := by
  unfold record_reader_many.f RM
  refine Ev.bind (num_ev hb hl ha) ?_
  generalize RN b a e = r
  obtain ⟨n, a', c⟩ := r
  simp only
  have hj : ∀ (x : Bool), Ev (fun k => record_reader_many.j0 k n x b a' c) (if x = true then (0, a', 32) else if c = 0 then (n, a', c) else (0, a', c)) := by
    intro x
    refine Ev.step (fun k => by simp only [record_reader_many.j0]; rfl) ?_
    cases x with
    | true => simp only [if_true, if_neg (show ¬ (32 : Int) = 0 by decide)]; exact Ev.now _
    | false =>
      simp only [Bool.false_eq_true, if_false]
      by_cases hc : c = 0
      · simp only [if_pos hc]; exact Ev.now _
      · simp only [if_neg hc]; exact Ev.now _
  by_cases hc : c = 0
  · simp only [if_pos hc]
    by_cases h1 : n < 0
    · simp only [if_pos h1]
      rw [if_pos (.inl h1)]
      simpa only [if_true] using hj true
    · simp only [if_neg h1]
      have h2 := hj (decide (n > most))
      by_cases h3 : n > most
      · rw [decide_eq_true h3] at h2 ⊢
        rw [if_pos (.inr h3)]
        simpa only [if_true] using h2
      · rw [decide_eq_false h3] at h2 ⊢
        rw [if_neg (by omega)]
        subst hc
        simpa only [Bool.false_eq_true, if_false, if_true] using h2
  · simp only [if_neg hc]
    have h2 := hj false
    simpa only [Bool.false_eq_true, if_false, if_neg hc] using h2
theorem write_ev {a e : Int} (ha : In b a) : Ev (fun k => record_reader_write.f k b a e) ((RW b a e).1.f0, (RW b a e).1.f1, (RW b a e).1.f2, (RW b a e).2.1, (RW b a e).2.2) := by
  unfold record_reader_write.f RW
  refine Ev.bind (txt_ev hb hl ha) ?_
  have h1 := RT_in hb (e := e) ha
  refine Ev.bind (flg_ev hb hl h1) ?_
  have h2 := RF_in hb (e := (RT b a e).2.2) h1
  refine Ev.bind (txt_ev hb hl h2) ?_
  dsimp only
  generalize RT b (RF b (RT b a e).2.1 (RT b a e).2.2).2.1 (RF b (RT b a e).2.1 (RT b a e).2.2).2.2 = z
  by_cases hz : z.2.2 = 0
  · simp only [if_pos hz]
    exact Ev.bind (checkWrite_ev ⟨(RT b a e).1, z.1, (RF b (RT b a e).2.1 (RT b a e).2.2).1⟩) (Ev.now _)
  · simp only [if_neg hz]; exact Ev.now _
omit hl
theorem RM_in {a e most : Int} (ha : In b a) : In b (RM b a e most).2.1 := by
  have h := RN_in hb (e := e) ha
  unfold RM
  split
  · split <;> exact h
  · exact h
theorem RW_in {a e : Int} (ha : In b a) : In b (RW b a e).2.1 := RT_in hb (RF_in hb (RT_in hb ha))
theorem RP_in {a e : Int} (ha : In b a) : In b (RP b a e).2.1 := RN_in hb (RT_in hb (RT_in hb ha))
end
def At (b : List Int) (a : Int) (post : List Int) : Prop := In b a ∧ dr b a = post
theorem At.step {b : List Int} {a : Int} {x post : List Int} (h : At b a (x ++ post)) : At b (a + x.length) post := by
  obtain ⟨hi, hd⟩ := h
  have hn := dr_len hi
  rw [hd, List.length_append] at hn
  refine ⟨⟨by have := hi.1; omega, by omega⟩, ?_⟩
  rw [dr_dr hi.1 (by omega), hd]
  simp
theorem RN_at {b : List Int} {a n : Int} {post : List Int} (hn : i64 n) (h : At b a (I n ++ post)) : RN b a 0 = (n, a + (I n).length, 0) := by
  unfold RN
  rw [h.2, P_I hn, if_pos rfl, if_pos rfl, I_length]
  simp
theorem RT_at {b : List Int} {a : Int} {s : ByteArray} {post : List Int} (hs : s.size ≤ 1000) (h : At b a (tB s ++ post)) : RT b a 0 = (s, a + (tB s).length, 0) := by
  unfold RT
  rw [h.2, tB, List.append_assoc, T_str s (i64_nat (by omega)), if_pos rfl, if_pos rfl, List.length_append, I_length, bytesOf_length]
  simp
theorem RF_at {b : List Int} {a : Int} {x : Bool} {post : List Int} (h : At b a (fB x ++ post)) : RF b a 0 = (x, a + (fB x).length, 0) := by
  unfold RF
  rw [h.2, fB, F_I, if_pos rfl, if_pos rfl]
  cases x <;> rfl
theorem RW_at {b : List Int} {a : Int} {x : S33} {post : List Int} (hx : wrE x = 0) (h : At b a (wB x ++ post)) : RW b a 0 = (x, a + (wB x).length, 0) ∧ At b (a + (wB x).length) post := by
  have hz := wr_sizes hx
  have h0 := h
  unfold wB at h
  rw [List.append_assoc, List.append_assoc] at h
  have h1 := RT_at hz.1 h
  have h2 := h.step
  have h3 := RF_at h2
  have h4 := h2.step
  have h5 := RT_at hz.2 h4
  have h6 := h4.step
  unfold RW
  simp only [h1, h3, h5, if_true]
  refine ⟨?_, h0.step⟩
  rw [show (⟨x.f0, x.f1, x.f2⟩ : S33) = x from rfl, hx]
  have : (wB x).length = (tB x.f0).length + (fB x.f2).length + (tB x.f1).length := by unfold wB; rw [List.length_append, List.length_append]
  rw [this]
  simp only [Prod.mk.injEq, true_and, and_true]
  omega
theorem RP_at {b : List Int} {a : Int} {x : S74} {post : List Int} (hz : x.f0.size ≤ 1000 ∧ x.f1.size ≤ 1000) (hi : i64 x.f2) (h : At b a (pB x ++ post)) : RP b a 0 = (x, a + (pB x).length, 0) ∧ At b (a + (pB x).length) post := by
  have h0 := h
  unfold pB at h
  rw [List.append_assoc, List.append_assoc] at h
  have h1 := RT_at hz.1 h
  have h2 := h.step
  have h3 := RT_at hz.2 h2
  have h4 := h2.step
  have h5 := RN_at hi h4
  unfold RP
  simp only [h1, h3, h5]
  refine ⟨?_, h0.step⟩
  have : (pB x).length = (tB x.f0).length + (tB x.f1).length + (I x.f2).length := by unfold pB; rw [List.length_append, List.length_append]
  rw [this]
  simp only [Prod.mk.injEq, true_and, and_true]
  omega
theorem RM_at {b : List Int} {a : Int} {n : Nat} {most : Int} {post : List Int} (hn : (n : Int) ≤ most) (hm : most ≤ 1000) (h : At b a (I n ++ post)) : RM b a 0 most = ((n : Int), a + (I n).length, 0) := by
  unfold RM
  rw [RN_at (i64_nat (by omega)) h, if_pos rfl, if_neg (by omega)]
end Go.Proofs.Ytkcdmoghnoodmaa.Rd

namespace Go.Proofs.Ytkcdmoghnoodmaa.Rd
open Go.RowKit Go.Proofs.Ytkcdmoghnoodmaa.B Go.Proofs.YtkcdmoghnoodmaaW.PrintWords Go.Proofs.YtkcdmoghnoodmaaW.PrintLast Go.Proofs.Ytkcdmoghnoodmaa.Lib Go.Proofs.Ytkcdmoghnoodmaa.Wr
open Go.Proofs.Ytkcdmoghnoodmaa.Cod (I i64 i64_of kw kw_le I_length Bytes P T F P_ok P_I)
set_option linter.unusedVariables false
set_option linter.unusedSimpArgs false
def WS (b : List Int) : Nat → Int → Int → List S33 → List S33 × Int × Int
  | 0, a, e, l => (l, a, e)
  | n + 1, a, e, l => WS b n (RW b a e).2.1 (RW b a e).2.2 (l ++ [(RW b a e).1])
def PS (b : List Int) : Nat → Int → Int → List S74 → List S74 × Int × Int
  | 0, a, e, l => (l, a, e)
  | n + 1, a, e, l => PS b n (RP b a e).2.1 (RP b a e).2.2 (l ++ [(RP b a e).1])
def endE (b : List Int) (a e c : Int) : Int := if e = 0 then (if a < (b.length : Int) then 13 else c) else e
def TC (b : List Int) : Int × List S33 × Int :=
  let x := RN b 0 0; let y := RM b x.2.1 x.2.2 64; let z := WS b y.1.toNat y.2.1 y.2.2 []
  let e := endE b z.2.1 z.2.2 (commitE x.1 z.1); if e = 0 then (x.1, z.1, 0) else (0, [], e)
def TK (b : List Int) : Int × List S74 × Bool × Int :=
  let x := RN b 0 0; let f := RF b x.2.1 x.2.2; let y := RM b f.2.1 f.2.2 16; let z := PS b y.1.toNat y.2.1 y.2.2 []
  let e := endE b z.2.1 z.2.2 (chunkE x.1 z.1); if e = 0 then (x.1, z.1, f.1, 0) else (0, [], false, e)
def RS (b : List Int) : Nat → Int → Int → List Int × Int × Int
  | 0, a, e => ([], a, e)
  | n + 1, a, e => let x := RN b a e; let r := RS b n x.2.1 x.2.2; (x.1 :: r.1, r.2.1, r.2.2)
section
variable {b : List Int} (hb : Bytes b) (hl : b.length ≤ 140737488351232)
include hb hl
theorem takeCommit_loop (n ts : Int) (hn : 0 ≤ n) (hn2 : n ≤ 1000) : ∀ (d m : Nat) (a e : Int) (l : List S33), ((m + d : Nat) : Int) = n → l.length ≤ m → In b a →
    Ev (fun k => record_TakeCommit.l0 k n (m : Int) b a e ts l) (if endE b (WS b d a e l).2.1 (WS b d a e l).2.2 (commitE ts (WS b d a e l).1) = 0 then (ts, (WS b d a e l).1, 0) else (0, [], endE b (WS b d a e l).2.1 (WS b d a e l).2.2 (commitE ts (WS b d a e l).1)))
  | 0, m, a, e, l, h, hm, ha => by
    refine Ev.step (fun k => by simp only [record_TakeCommit.l0]; rw [if_neg (by omega)]) ?_
    change Ev _ (if endE b a e (commitE ts l) = 0 then (ts, l, 0) else (0, [], endE b a e (commitE ts l)))
    refine Ev.bind (a := (endE b a e (commitE ts l), a, endE b a e (commitE ts l))) ?_ ?_
    · unfold record_reader_ends_commit.f endE
      by_cases he : e = 0
      · simp only [if_pos he]
        by_cases h1 : a < (b.length : Int)
        · simp only [if_pos h1, if_neg (show ¬ (13 : Int) = 0 by decide)]; exact Ev.now _
        · simp only [if_neg h1]
          exact Ev.bind (by unfold record_commit_check.f; exact Ev.bind (checkCommit_ev ts l) (Ev.now _)) (Ev.now _)
      · simp only [if_neg he]; exact Ev.now _
    · by_cases h0 : endE b a e (commitE ts l) = 0
      · simp only [if_pos h0]; exact Ev.now _
      · simp only [if_neg h0]; exact Ev.now _
  | d + 1, m, a, e, l, h, hm, ha => by
    have e1 : wrap64 ((m : Int) + 1) = ((m + 1 : Nat) : Int) := by rw [wr1 (by omega) (by omega)]; omega
    have ih := takeCommit_loop n ts hn hn2 d (m + 1) (RW b a e).2.1 (RW b a e).2.2 (l ++ [(RW b a e).1]) (by omega) (by simp; omega) (RW_in hb ha)
    refine Ev.step (fun k => by simp only [record_TakeCommit.l0]; rw [if_pos (by omega)]) ?_
    refine Ev.bind (write_ev hb hl ha) ?_
    simp only [if_pos (show l.length < 3518437208883 by omega), e1]
    exact ih
theorem takeCommit_ev : Ev (fun k => record_TakeCommit.f k b) (TC b) := by
  unfold record_TakeCommit.f record_reader_mk.f TC
  have h0 : In b 0 := ⟨Int.le_refl _, by omega⟩
  simp only [Option.bind_some]
  refine Ev.bind (num_ev hb hl h0) ?_
  have h1 := RN_in hb (e := 0) h0
  refine Ev.bind (many_ev hb hl h1) ?_
  have h2 := RM_in hb (e := (RN b 0 0).2.2) (most := 64) h1
  have hr : 0 ≤ (RM b (RN b 0 0).2.1 (RN b 0 0).2.2 64).1 ∧ (RM b (RN b 0 0).2.1 (RN b 0 0).2.2 64).1 ≤ 64 := by
    unfold RM
    split
    · split
      · constructor <;> (dsimp only; omega)
      · omega
    · constructor <;> (dsimp only; omega)
  exact takeCommit_loop hb hl _ _ hr.1 (by omega) _ 0 _ _ [] (by omega) (by simp) h2
theorem takeChunk_loop (n ts : Int) (fl : Bool) (hn : 0 ≤ n) (hn2 : n ≤ 1000) : ∀ (d m : Nat) (a e : Int) (l : List S74), ((m + d : Nat) : Int) = n → l.length ≤ m → In b a →
    Ev (fun k => record_TakeChunk.l0 k n (m : Int) b a e ts l fl) (if endE b (PS b d a e l).2.1 (PS b d a e l).2.2 (chunkE ts (PS b d a e l).1) = 0 then (ts, (PS b d a e l).1, fl, 0) else (0, [], false, endE b (PS b d a e l).2.1 (PS b d a e l).2.2 (chunkE ts (PS b d a e l).1)))
  | 0, m, a, e, l, h, hm, ha => by
    refine Ev.step (fun k => by simp only [record_TakeChunk.l0]; rw [if_neg (by omega)]) ?_
    change Ev _ (if endE b a e (chunkE ts l) = 0 then (ts, l, fl, 0) else (0, [], false, endE b a e (chunkE ts l)))
    refine Ev.bind (a := (endE b a e (chunkE ts l), a, endE b a e (chunkE ts l))) ?_ ?_
    · unfold record_reader_ends_chunk.f endE
      by_cases he : e = 0
      · simp only [if_pos he]
        by_cases h1 : a < (b.length : Int)
        · simp only [if_pos h1, if_neg (show ¬ (13 : Int) = 0 by decide)]; exact Ev.now _
        · simp only [if_neg h1]
          exact Ev.bind (by unfold record_chunk_check.f; exact Ev.bind (checkChunk_ev ts l fl) (Ev.now _)) (Ev.now _)
      · simp only [if_neg he]; exact Ev.now _
    · by_cases h0 : endE b a e (chunkE ts l) = 0
      · simp only [if_pos h0]; exact Ev.now _
      · simp only [if_neg h0]; exact Ev.now _
  | d + 1, m, a, e, l, h, hm, ha => by
    have e1 : wrap64 ((m : Int) + 1) = ((m + 1 : Nat) : Int) := by rw [wr1 (by omega) (by omega)]; omega
    have ih := takeChunk_loop n ts fl hn hn2 d (m + 1) (RP b a e).2.1 (RP b a e).2.2 (l ++ [(RP b a e).1]) (by omega) (by simp; omega) (RP_in hb ha)
    refine Ev.step (fun k => by simp only [record_TakeChunk.l0]; rw [if_pos (by omega)]) ?_
    refine Ev.bind (txt_ev hb hl ha) ?_
    refine Ev.bind (txt_ev hb hl (RT_in hb ha)) ?_
    refine Ev.bind (num_ev hb hl (RT_in hb (RT_in hb ha))) ?_
    simp only [if_pos (show l.length < 3518437208883 by omega), e1]
    exact ih
theorem takeChunk_ev : Ev (fun k => record_TakeChunk.f k b) (TK b) := by
  unfold record_TakeChunk.f record_reader_mk.f TK
  have h0 : In b 0 := ⟨Int.le_refl _, by omega⟩
  simp only [Option.bind_some]
  refine Ev.bind (num_ev hb hl h0) ?_
  have h1 := RN_in hb (e := 0) h0
  refine Ev.bind (flg_ev hb hl h1) ?_
  have h1b := RF_in hb (e := (RN b 0 0).2.2) h1
  refine Ev.bind (many_ev hb hl h1b) ?_
  have h2 := RM_in hb (e := (RF b (RN b 0 0).2.1 (RN b 0 0).2.2).2.2) (most := 16) h1b
  have hr : 0 ≤ (RM b (RF b (RN b 0 0).2.1 (RN b 0 0).2.2).2.1 (RF b (RN b 0 0).2.1 (RN b 0 0).2.2).2.2 16).1 ∧ (RM b (RF b (RN b 0 0).2.1 (RN b 0 0).2.2).2.1 (RF b (RN b 0 0).2.1 (RN b 0 0).2.2).2.2 16).1 ≤ 16 := by
    unfold RM
    split
    · split
      · constructor <;> (dsimp only; omega)
      · omega
    · constructor <;> (dsimp only; omega)
  exact takeChunk_loop hb hl _ _ _ hr.1 (by omega) _ 0 _ _ [] (by omega) (by simp) h2
def TM (b : List Int) : List Int × Int :=
  let r := RS b 8 0 0; let e := endE b r.2.1 r.2.2 (masterE (r.1.getD 0 0) (r.1.getD 1 0) (r.1.getD 2 0) (r.1.getD 3 0) (r.1.getD 4 0) (r.1.getD 5 0) (r.1.getD 6 0) (r.1.getD 7 0)); if e = 0 then (r.1, 0) else ([0, 0, 0, 0, 0, 0, 0, 0], e)
theorem takeMaster_ev : Ev (fun k => record_TakeMaster.f k b) ((TM b).1.getD 0 0, (TM b).1.getD 1 0, (TM b).1.getD 2 0, (TM b).1.getD 3 0, (TM b).1.getD 4 0, (TM b).1.getD 5 0, (TM b).1.getD 6 0, (TM b).1.getD 7 0, (TM b).2) := by
  unfold record_TakeMaster.f record_reader_mk.f TM
  have h0 : In b 0 := ⟨Int.le_refl _, by omega⟩
  simp only [Option.bind_some]
  refine Ev.bind (num_ev hb hl h0) ?_
  have h1 := RN_in hb (e := 0) h0
  refine Ev.bind (num_ev hb hl h1) ?_
  have h2 := RN_in hb (e := (RN b 0 0).2.2) h1
  refine Ev.bind (num_ev hb hl h2) ?_
  simp only [RS]
  obtain ⟨x0, e0⟩ : ∃ x, RN b 0 0 = x := ⟨_, rfl⟩
  rw [e0] at h1 h2
  simp only [e0]
  obtain ⟨x1, e1⟩ : ∃ x, RN b x0.2.1 x0.2.2 = x := ⟨_, rfl⟩
  rw [e1] at h2
  simp only [e1]
  have h3 := RN_in hb (e := x1.2.2) h2
  obtain ⟨x2, e2⟩ : ∃ x, RN b x1.2.1 x1.2.2 = x := ⟨_, rfl⟩
  rw [e2] at h3
  simp only [e2]
  refine Ev.bind (num_ev hb hl h3) ?_
  have h4 := RN_in hb (e := x2.2.2) h3
  obtain ⟨x3, e3⟩ : ∃ x, RN b x2.2.1 x2.2.2 = x := ⟨_, rfl⟩
  rw [e3] at h4
  simp only [e3]
  refine Ev.bind (num_ev hb hl h4) ?_
  have h5 := RN_in hb (e := x3.2.2) h4
  obtain ⟨x4, e4⟩ : ∃ x, RN b x3.2.1 x3.2.2 = x := ⟨_, rfl⟩
  rw [e4] at h5
  simp only [e4]
  refine Ev.bind (num_ev hb hl h5) ?_
  have h6 := RN_in hb (e := x4.2.2) h5
  obtain ⟨x5, e5⟩ : ∃ x, RN b x4.2.1 x4.2.2 = x := ⟨_, rfl⟩
  rw [e5] at h6
  simp only [e5]
  refine Ev.bind (num_ev hb hl h6) ?_
  have h7 := RN_in hb (e := x5.2.2) h6
  obtain ⟨x6, e6⟩ : ∃ x, RN b x5.2.1 x5.2.2 = x := ⟨_, rfl⟩
  rw [e6] at h7
  simp only [e6]
  refine Ev.bind (num_ev hb hl h7) ?_
  have h8 := RN_in hb (e := x6.2.2) h7
  obtain ⟨x7, e7⟩ : ∃ x, RN b x6.2.1 x6.2.2 = x := ⟨_, rfl⟩
  rw [e7] at h8
  simp only [e7]
  generalize hE : endE b x7.2.1 x7.2.2 (masterE x0.1 x1.1 x2.1 x3.1 x4.1 x5.1 x6.1 x7.1) = E
  have hends : record_reader_ends_master.f b x7.2.1 x7.2.2 x0.1 x1.1 x2.1 x3.1 x4.1 x5.1 x6.1 x7.1 = some (E, x7.2.1, E) := by
    rw [← hE]
    unfold record_reader_ends_master.f endE record_master_check.f
    simp only [checkMaster_eq, Option.bind_some]
    by_cases he : x7.2.2 = 0
    · simp only [if_pos he]
      by_cases h1 : x7.2.1 < (b.length : Int)
      · simp only [if_pos h1]; rfl
      · simp only [if_neg h1]
    · simp only [if_neg he]
  simp only [hends, Option.bind_some, List.getD_cons_zero, List.getD_cons_succ]
  rw [hE]
  by_cases hz : E = 0
  · subst hz; simp only [if_true]; exact Ev.now _
  · simp only [if_neg hz]; exact Ev.now _
end
theorem WS_at {b : List Int} : ∀ (r : List S33) (a : Int) (l : List S33) (post : List Int), (∀ x ∈ r, wrE x = 0) → At b a (r.flatMap wB ++ post) → ∃ a', WS b r.length a 0 l = (l ++ r, a', 0) ∧ At b a' post
  | [], a, l, post, _, h => ⟨a, by simp [WS], by simpa using h⟩
  | x :: r, a, l, post, hv, h => by
    rw [List.flatMap_cons, List.append_assoc] at h
    obtain ⟨h1, h2⟩ := RW_at (hv x (List.mem_cons_self ..)) h
    obtain ⟨a', h3, h4⟩ := WS_at r _ (l ++ [x]) post (fun y hy => hv y (List.mem_cons_of_mem _ hy)) h2
    refine ⟨a', ?_, h4⟩
    simp only [List.length_cons, WS, h1]
    rw [h3]
    simp
theorem PS_at {b : List Int} : ∀ (r : List S74) (a : Int) (l : List S74) (post : List Int), (∀ x ∈ r, (x.f0.size ≤ 1000 ∧ x.f1.size ≤ 1000) ∧ i64 x.f2) → At b a (r.flatMap pB ++ post) → ∃ a', PS b r.length a 0 l = (l ++ r, a', 0) ∧ At b a' post
  | [], a, l, post, _, h => ⟨a, by simp [PS], by simpa using h⟩
  | x :: r, a, l, post, hv, h => by
    rw [List.flatMap_cons, List.append_assoc] at h
    have hx := hv x (List.mem_cons_self ..)
    obtain ⟨h1, h2⟩ := RP_at hx.1 hx.2 h
    obtain ⟨a', h3, h4⟩ := PS_at r _ (l ++ [x]) post (fun y hy => hv y (List.mem_cons_of_mem _ hy)) h2
    refine ⟨a', ?_, h4⟩
    simp only [List.length_cons, PS, h1]
    rw [h3]
    simp
theorem At.start (b : List Int) : At b 0 b := ⟨⟨Int.le_refl _, by omega⟩, rfl⟩
theorem At.stop {b : List Int} {a : Int} (h : At b a []) : ¬ a < (b.length : Int) := by
  have := dr_len h.1
  rw [h.2] at this
  simp at this
  omega
theorem TC_at {a : Int} {l : List S33} (ha : i64 a) (h : commitE a l = 0) : TC (cB a l) = (a, l, 0) := by
  obtain ⟨hl, _, hv⟩ := commit_valid h
  have h0 := At.start (cB a l)
  generalize hbb : cB a l = b at h0 ⊢
  have h1 : At b 0 (I a ++ (I l.length ++ (l.flatMap wB ++ []))) := by
    refine ⟨h0.1, h0.2.trans ?_⟩
    rw [← hbb]
    unfold cB
    simp [List.append_assoc]
  unfold TC
  rw [RN_at ha h1]
  dsimp only
  rw [RM_at (n := l.length) (by omega) (by omega) h1.step]
  dsimp only
  obtain ⟨a', h2, h3⟩ := WS_at l _ [] [] hv h1.step.step
  rw [show (l.length : Int).toNat = l.length by omega, h2]
  dsimp only
  unfold endE
  rw [if_pos rfl, if_neg h3.stop, List.nil_append, h, if_pos rfl]
theorem TK_at {a : Int} {l : List S74} {fl : Bool} (ha : i64 a) (hi : ∀ x ∈ l, i64 x.f2) (h : chunkE a l = 0) : TK (kB a l fl) = (a, l, fl, 0) := by
  obtain ⟨hl, hv⟩ := chunk_valid h
  have h0 := At.start (kB a l fl)
  generalize hbb : kB a l fl = b at h0 ⊢
  have h1 : At b 0 (I a ++ (fB fl ++ (I l.length ++ (l.flatMap pB ++ [])))) := by
    refine ⟨h0.1, h0.2.trans ?_⟩
    rw [← hbb]
    unfold kB
    simp [List.append_assoc]
  unfold TK
  rw [RN_at ha h1]
  dsimp only
  rw [RF_at h1.step]
  dsimp only
  rw [RM_at (n := l.length) (by omega) (by omega) h1.step.step]
  dsimp only
  obtain ⟨a', h2, h3⟩ := PS_at l _ [] [] (fun x hx => ⟨hv x hx, hi x hx⟩) h1.step.step.step
  rw [show (l.length : Int).toNat = l.length by omega, h2]
  dsimp only
  unfold endE
  rw [if_pos rfl, if_neg h3.stop, List.nil_append, h, if_pos rfl]
theorem RS_at {b : List Int} : ∀ (r : List Int) (a : Int) (post : List Int), (∀ n ∈ r, i64 n) → At b a (mB r ++ post) → ∃ a', RS b r.length a 0 = (r, a', 0) ∧ At b a' post
  | [], a, post, _, h => ⟨a, rfl, by simpa [mB] using h⟩
  | x :: r, a, post, hv, h => by
    rw [mB, List.flatMap_cons, List.append_assoc] at h
    have h1 := RN_at (hv x (List.mem_cons_self ..)) h
    obtain ⟨a', h3, h4⟩ := RS_at r _ post (fun y hy => hv y (List.mem_cons_of_mem _ hy)) h.step
    refine ⟨a', ?_, h4⟩
    simp only [List.length_cons, RS, h1]
    rw [h3]
theorem TM_at {a b1 c d e f g i : Int} (hi : ∀ n ∈ [a, b1, c, d, e, f, g, i], i64 n) (h : masterE a b1 c d e f g i = 0) : TM (mB [a, b1, c, d, e, f, g, i]) = ([a, b1, c, d, e, f, g, i], 0) := by
  have h0 := At.start (mB [a, b1, c, d, e, f, g, i])
  generalize hbb : mB [a, b1, c, d, e, f, g, i] = b at h0 ⊢
  have h1 : At b 0 (mB [a, b1, c, d, e, f, g, i] ++ []) := ⟨h0.1, h0.2.trans (by rw [hbb]; simp)⟩
  obtain ⟨a', h2, h3⟩ := RS_at _ _ _ hi h1
  unfold TM
  rw [show (8 : Nat) = [a, b1, c, d, e, f, g, i].length from rfl, h2]
  dsimp only
  unfold endE
  rw [if_pos rfl, if_neg h3.stop]
  simp only [List.getD_cons_zero, List.getD_cons_succ]
  rw [h, if_pos rfl]
end Go.Proofs.Ytkcdmoghnoodmaa.Rd

namespace Go.Proofs.Ytkcdmoghnoodmaa.Rd
open Go.RowKit Go.Proofs.Ytkcdmoghnoodmaa.B Go.Proofs.YtkcdmoghnoodmaaW.PrintWords Go.Proofs.YtkcdmoghnoodmaaW.PrintLast Go.Proofs.Ytkcdmoghnoodmaa.Lib Go.Proofs.Ytkcdmoghnoodmaa.Wr
open Go.Proofs.Ytkcdmoghnoodmaa.Cod (I i64 i64_of kw kw_le I_length Bytes I_bytes bytesOf_bytes)
set_option linter.unusedVariables false
set_option linter.unusedSimpArgs false
theorem sameW_loop (l : List S33) (hl : l.length ≤ 9223372036854775000) : ∀ (d n : Nat), n + d = l.length → Ev (fun k => api_Write.l0 k l l (l.length : Int) (n : Int)) true
  | 0, n, h => by
    refine Ev.step (f := fun _ => some true) (fun k => ?_) (Ev.now _)
    simp only [api_Write.l0]
    rw [if_neg (by omega)]
  | d + 1, n, h => by
    have e : wrap64 ((n : Int) + 1) = ((n + 1 : Nat) : Int) := by rw [wr1 (by omega) (by omega)]; omega
    have ih := sameW_loop l hl d (n + 1) (by omega)
    refine Ev.step (f := fun k => api_Write.l0 k l l (l.length : Int) ((n + 1 : Nat) : Int)) (fun k => ?_) ih
    simp only [api_Write.l0]
    rw [if_pos (by omega), if_pos (by omega), if_pos (by omega), if_pos (by omega), if_neg (by simp), e]
theorem sameP_loop (l : List S74) (hl : l.length ≤ 9223372036854775000) : ∀ (d n : Nat), n + d = l.length → Ev (fun k => api_Stamped.l0 k l l (l.length : Int) (n : Int)) true
  | 0, n, h => by
    refine Ev.step (f := fun _ => some true) (fun k => ?_) (Ev.now _)
    simp only [api_Stamped.l0]
    rw [if_neg (by omega)]
  | d + 1, n, h => by
    have e : wrap64 ((n : Int) + 1) = ((n + 1 : Nat) : Int) := by rw [wr1 (by omega) (by omega)]; omega
    have ih := sameP_loop l hl d (n + 1) (by omega)
    refine Ev.step (f := fun k => api_Stamped.l0 k l l (l.length : Int) ((n + 1 : Nat) : Int)) (fun k => ?_) ih
    simp only [api_Stamped.l0]
    rw [if_pos (by omega), if_pos (by omega), if_pos (by omega), if_pos (by omega), if_neg (by simp), e]
theorem sameCommit_self (a : Int) (l : List S33) (hl : l.length ≤ 9223372036854775000) : Ev (fun k => record_SameCommit.f k a l a l) true := by
  unfold record_SameCommit.f api_Write.f
  simp only [if_true]
  exact Ev.bind (sameW_loop l hl l.length 0 (by omega)) (Ev.now _)
theorem sameChunk_self (a : Int) (l : List S74) (b : Bool) (hl : l.length ≤ 9223372036854775000) : Ev (fun k => record_SameChunk.f k a l b a l b) true := by
  unfold record_SameChunk.f api_Stamped.f
  simp only [if_true, beq_self_eq_true]
  exact Ev.bind (sameP_loop l hl l.length 0 (by omega)) (Ev.now _)
theorem Bytes_app {x y : List Int} (hx : Bytes x) (hy : Bytes y) : Bytes (x ++ y) := fun z hz => (List.mem_append.1 hz).elim (hx z) (hy z)
theorem Bytes_flat {α : Type} {f : α → List Int} {l : List α} (h : ∀ x ∈ l, Bytes (f x)) : Bytes (l.flatMap f) := fun z hz => by
  obtain ⟨x, hx, hz⟩ := List.mem_flatMap.1 hz
  exact h x hx z hz
theorem len_flat {α : Type} {f : α → List Int} {c : Nat} : ∀ {l : List α}, (∀ x ∈ l, (f x).length ≤ c) → (l.flatMap f).length ≤ l.length * c
  | [], _ => by simp
  | x :: l, h => by
    rw [List.flatMap_cons, List.length_append, List.length_cons, Nat.succ_mul]
    have := h x (List.mem_cons_self ..)
    have := len_flat (fun y hy => h y (List.mem_cons_of_mem x hy))
    omega
theorem tB_bytes {s : ByteArray} (h : s.size ≤ 1000) : Bytes (tB s) := Bytes_app (I_bytes (i64_nat (by omega))) (bytesOf_bytes s)
theorem fB_bytes (b : Bool) : Bytes (fB b) := I_bytes (i64_flag b)
theorem cB_bytes {a : Int} {l : List S33} (ha : i64 a) (h : commitE a l = 0) : Bytes (cB a l) ∧ (cB a l).length ≤ 1000000 := by
  obtain ⟨hl, _, hv⟩ := commit_valid h
  refine ⟨Bytes_app (Bytes_app (I_bytes ha) (I_bytes (i64_nat (by omega)))) (Bytes_flat (fun x hx => ?_)), ?_⟩
  · have := wr_sizes (hv x hx)
    exact Bytes_app (Bytes_app (tB_bytes this.1) (fB_bytes _)) (tB_bytes this.2)
  · have h1 := len_flat (f := wB) (c := 2100) (l := l) (fun x hx => by have := wr_sizes (hv x hx); exact wB_len this.1 this.2)
    have h2 := I_len9 ha
    have h3 := I_len9 (i64_nat (m := l.length) (by omega))
    unfold cB
    rw [List.length_append, List.length_append]
    omega
theorem kB_bytes {a : Int} {l : List S74} {b : Bool} (ha : i64 a) (hi : ∀ x ∈ l, i64 x.f2) (h : chunkE a l = 0) : Bytes (kB a l b) ∧ (kB a l b).length ≤ 1000000 := by
  obtain ⟨hl, hv⟩ := chunk_valid h
  refine ⟨Bytes_app (Bytes_app (Bytes_app (I_bytes ha) (fB_bytes _)) (I_bytes (i64_nat (by omega)))) (Bytes_flat (fun x hx => ?_)), ?_⟩
  · have := hv x hx
    exact Bytes_app (Bytes_app (tB_bytes this.1) (tB_bytes this.2)) (I_bytes (hi x hx))
  · have h1 := len_flat (f := pB) (c := 2100) (l := l) (fun x hx => by have := hv x hx; exact pB_len this.1 this.2 (hi x hx))
    have h2 := I_len9 ha
    have h3 := I_len9 (i64_nat (m := l.length) (by omega))
    have h4 := fB_len b
    unfold kB
    rw [List.length_append, List.length_append, List.length_append]
    omega
theorem mB_bytes {l : List Int} (hi : ∀ n ∈ l, i64 n) (hl : l.length ≤ 100) : Bytes (mB l) ∧ (mB l).length ≤ 1000000 :=
  ⟨Bytes_flat (fun x hx => I_bytes (hi x hx)), by have := len_flat (f := I) (c := 9) (l := l) (fun x hx => I_len9 (hi x hx)); unfold mB; omega⟩
end Go.Proofs.Ytkcdmoghnoodmaa.Rd

namespace Go.Proofs.Ytkcdmoghnoodmaa.Pure
open Go.RowKit Go.Proofs.Ytkcdmoghnoodmaa.B Go.Proofs.YtkcdmoghnoodmaaW.PrintWords Go.Proofs.YtkcdmoghnoodmaaW.PrintLast Go.Proofs.Ytkcdmoghnoodmaa.Lib Go.Proofs.Ytkcdmoghnoodmaa.Wr Go.Proofs.Ytkcdmoghnoodmaa.Rd
open Go.Proofs.Ytkcdmoghnoodmaa.Cod (i64_of eq_ev Bytes)
theorem RecordBack : cressetlaw03_RecordBack.Pure := by
  intro a l b m c n0 n1 n2 n3 n4 n5 n6 n7 ha hl hb hm h0 h1 h2 h3 h4 h5 h6 h7
  have hi : ∀ n ∈ [n0, n1, n2, n3, n4, n5, n6, n7], Go.Proofs.Ytkcdmoghnoodmaa.Cod.i64 n := by
    intro n hn
    simp only [List.mem_cons, List.not_mem_nil, or_false] at hn
    rcases hn with rfl | rfl | rfl | rfl | rfl | rfl | rfl | rfl <;> (apply i64_of; assumption)
  have hj : ∀ x ∈ m, Go.Proofs.Ytkcdmoghnoodmaa.Cod.i64 x.f2 := fun x hx => i64_of (hm.2.2 x hx).2.2
  have hj1 : Ev (fun k => cressetlaw03_RecordBack.j1 k n0 n1 n2 n3 n4 n5 n6 n7) true := by
    refine Ev.step (fun k => by simp only [cressetlaw03_RecordBack.j1]; rfl) ?_
    refine Ev.bind (recMaster_ev n0 n1 n2 n3 n4 n5 n6 n7 hi) ?_
    unfold masterR
    by_cases h : masterE n0 n1 n2 n3 n4 n5 n6 n7 = 0
    · simp only [if_pos h, if_true]
      obtain ⟨k1, k2⟩ := mB_bytes hi (by simp)
      refine Ev.bind (takeMaster_ev k1 (by omega)) ?_
      rw [TM_at hi h]
      simp only [List.getD_cons_zero, List.getD_cons_succ, if_true, beq_self_eq_true, Bool.and_self]
      exact Ev.now _
    · simp only [if_neg h]
      refine Ev.bind (checkMasterR_ev n0 n1 n2 n3 n4 n5 n6 n7) ?_
      simp only [beq_self_eq_true]
      exact Ev.now _
  have hj0 : Ev (fun k => cressetlaw03_RecordBack.j0 k b m c n0 n1 n2 n3 n4 n5 n6 n7) true := by
    refine Ev.step (fun k => by simp only [cressetlaw03_RecordBack.j0]; rfl) ?_
    refine Ev.bind (recChunk_ev b m c (i64_of hb) hj) ?_
    unfold chunkR
    by_cases h : chunkE b m = 0
    · simp only [if_pos h, if_true]
      obtain ⟨k1, k2⟩ := kB_bytes (b := c) (i64_of hb) hj h
      refine Ev.bind (takeChunk_ev k1 (by omega)) ?_
      rw [TK_at (i64_of hb) hj h]
      simp only [if_true]
      refine Ev.bind (sameChunk_self b m c (by have := hm.2.1; omega)) ?_
      simp only [if_true]
      exact hj1
    · simp only [if_neg h]
      refine Ev.bind (checkChunkR_ev b m c) ?_
      simp only [if_true]
      exact hj1
  refine Ev.rounds (r := true) ?_
  unfold cressetlaw03_RecordBack.f
  refine Ev.bind live_ev ?_
  simp only [if_true]
  refine Ev.bind (recCommit_ev a l (i64_of ha)) ?_
  unfold commitR
  by_cases h : commitE a l = 0
  · simp only [if_pos h, if_true]
    obtain ⟨k1, k2⟩ := cB_bytes (i64_of ha) h
    refine Ev.bind (takeCommit_ev k1 (by omega)) ?_
    rw [TC_at (i64_of ha) h]
    simp only [if_true]
    refine Ev.bind (sameCommit_self a l (by have := hl.2.1; omega)) ?_
    simp only [if_true]
    exact hj0
  · simp only [if_neg h]
    refine Ev.bind (checkCommitR_ev a l) ?_
    simp only [if_true]
    exact hj0
end Go.Proofs.Ytkcdmoghnoodmaa.Pure

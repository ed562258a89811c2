/-
Of the row RecordApart: printed walks and plain laws, merged (wip/claim2.py).
-/
import Derived.Test.YtkcdmoghnoodmaaQRecordApart3
import Derived.Test.YtkcdmoghnoodmaaQRecordApart4
import Derived.Test.YtkcdmoghnoodmaaQRecordApart5
import Derived.Test.YtkcdmoghnoodmaaQRecordApart6
import Derived.Test.YtkcdmoghnoodmaaQRecordApart10
import Derived.Test.YtkcdmoghnoodmaaQRecordApart11
import Derived.Handy
namespace Go.Proofs.Ytkcdmoghnoodmaa.Wr
open Go.RowKit Go.Proofs.Ytkcdmoghnoodmaa.B Go.Proofs.YtkcdmoghnoodmaaW.PrintWords Go.Proofs.YtkcdmoghnoodmaaW.PrintLast Go.Proofs.Ytkcdmoghnoodmaa.Lib
open Go.Proofs.Ytkcdmoghnoodmaa.Cod (I i64 i64_of kw kw_le I_length put_ev puttext_ev putflag_ev refI_ev bytesOf_bytes I_bytes eq_ev)
set_option linter.unusedVariables false
set_option linter.unusedSimpArgs false

def tB (s : ByteArray) : List Int := I s.size ++ bytesOf s
def fB (b : Bool) : List Int := I (if b then 1 else 0)
def wB (x : S33) : List Int := tB x.f0 ++ fB x.f2 ++ tB x.f1
def cB (a : Int) (l : List S33) : List Int := I a ++ I l.length ++ l.flatMap wB
theorem I_len9 {n : Int} (h : i64 n) : (I n).length ≤ 9 := by
  rw [I_length]; have := kw_le h; omega
theorem i64_nat {m : Nat} (h : m ≤ 1000000) : i64 (m : Int) := ⟨by omega, by omega⟩
theorem i64_flag (b : Bool) : i64 (if b then 1 else 0) := by cases b <;> exact ⟨by decide, by decide⟩
theorem tB_len {s : ByteArray} (h : s.size ≤ 1000) : (tB s).length ≤ 1009 := by
  unfold tB
  rw [List.length_append, bytesOf_length]
  have := I_len9 (i64_nat (m := s.size) (by omega))
  omega
theorem fB_len (b : Bool) : (fB b).length ≤ 9 := I_len9 (i64_flag b)
theorem wB_len {x : S33} (h0 : x.f0.size ≤ 1000) (h1 : x.f1.size ≤ 1000) : (wB x).length ≤ 2100 := by
  unfold wB
  rw [List.length_append, List.length_append]
  have := tB_len h0; have := tB_len h1; have := fB_len x.f2
  omega
theorem writePut_ev (x : S33) (h0 : x.f0.size ≤ 1000) (h1 : x.f1.size ≤ 1000) (xs : List Int) (hx : xs.length ≤ 1000000) : Ev (fun k => record_write_put.f k x.f0 x.f1 x.f2 xs) (xs ++ wB x) := by
  unfold record_write_put.f
  have a0 := tB_len h0; have a1 := tB_len h1; have a2 := fB_len x.f2
  refine Ev.bind (puttext_ev x.f0 xs (by omega)) ?_
  refine Ev.bind (putflag_ev x.f2 _ (by rw [List.append_assoc, List.length_append]; show xs.length + (tB x.f0).length ≤ _; omega)) ?_
  refine Ev.bind (puttext_ev x.f1 _ (by rw [List.append_assoc, List.append_assoc, List.length_append, List.length_append, List.length_append]; have : (I (x.f0.size : Int)).length + (bytesOf x.f0).length ≤ 1009 := by rw [← List.length_append]; exact a0
                                        show xs.length + ((I (x.f0.size : Int)).length + ((bytesOf x.f0).length + (fB x.f2).length)) + x.f1.size ≤ _; omega)) ?_
  refine Ev.congr (f := fun _ => some _) (fun k => ?_) (Ev.now _)
  simp [wB, tB, fB, List.append_assoc]
theorem commitPut_loop (l : List S33) (hl : l.length ≤ 100) (hv : ∀ x ∈ l, x.f0.size ≤ 1000 ∧ x.f1.size ≤ 1000) : ∀ (d n : Nat) (xs : List Int), n + d = l.length → xs.length ≤ 1000 + 2100 * n → Ev (fun k => record_commit_put.l0 k xs l (l.length : Int) (n : Int)) (xs ++ (l.drop n).flatMap wB)
  | 0, n, xs, h, hx => by
    rw [List.drop_of_length_le (by omega), List.flatMap_nil, List.append_nil]
    refine Ev.step (f := fun _ => some xs) (fun k => ?_) (Ev.now _)
    simp only [record_commit_put.l0]
    rw [if_neg (by omega)]
  | d + 1, n, xs, h, hx => by
    have hn : n < l.length := by omega
    have e : wrap64 ((n : Int) + 1) = ((n + 1 : Nat) : Int) := by rw [wr1 (by omega) (by omega)]; omega
    have hm := hv _ (List.getElem_mem hn)
    have hw := wB_len hm.1 hm.2
    have ih := commitPut_loop l hl hv d (n + 1) (xs ++ wB l[n]) (by omega) (by rw [List.length_append]; omega)
    rw [List.drop_eq_getElem_cons hn, List.flatMap_cons, ← List.append_assoc]
    refine Ev.step (fun k => by simp only [record_commit_put.l0]; rw [if_pos (by omega), if_pos (by omega), if_pos (by omega), rd33 l n hn]) ?_
    refine Ev.bind (writePut_ev l[n] hm.1 hm.2 xs (by omega)) ?_
    simp only [e]
    exact ih
theorem wr_sizes {x : S33} (h : wrE x = 0) : x.f0.size ≤ 1000 ∧ x.f1.size ≤ 1000 := by
  unfold wrE at h
  simp only [fst] at h
  by_cases h1 : keyE x.f0 = 0
  · rw [if_pos h1] at h
    by_cases h2 : valE x.f1 = 0
    · unfold keyE at h1
      unfold valE at h2
      constructor
      · split at h1
        · cases h1
        · split at h1
          · cases h1
          · omega
      · split at h2
        · cases h2
        · omega
    · rw [if_neg h2] at h; exact absurd h h2
  · rw [if_neg h1] at h; exact absurd h h1
theorem cm_valid (l : List S33) : ∀ (d n : Nat), n + d = l.length → cmE l d n = 0 → ∀ x ∈ l.drop n, wrE x = 0
  | 0, n, h, _ => by rw [List.drop_of_length_le (by omega)]; intro x hx; cases hx
  | d + 1, n, h, hc => by
    have hn : n < l.length := by omega
    unfold cmE at hc
    rw [g33_eq l n hn] at hc
    by_cases h1 : wrE l[n] = 0
    · rw [if_pos h1] at hc
      split at hc
      · have ih := cm_valid l d (n + 1) (by omega) hc
        rw [List.drop_eq_getElem_cons hn]
        intro x hx
        rcases List.mem_cons.1 hx with rfl | hx
        · exact h1
        · exact ih x hx
      · cases hc
    · rw [if_neg h1] at hc; exact absurd hc h1
theorem commit_valid {a : Int} {l : List S33} (h : commitE a l = 0) : l.length ≤ 64 ∧ l.length ≠ 0 ∧ ∀ x ∈ l, wrE x = 0 := by
  unfold commitE at h
  split at h
  · rename_i hh
    exact ⟨hh.2.2, hh.2.1, by have := cm_valid l l.length 0 (by omega) h; simpa using this⟩
  · cases h
def commitR (a : Int) (l : List S33) : List Int × Int := if commitE a l = 0 then (cB a l, 0) else ([], commitE a l)
theorem recCommit_ev (a : Int) (l : List S33) (ha : i64 a) : Ev (fun k => record_Commit.f k a l) (commitR a l) := by
  unfold record_Commit.f record_bytes_commit.f record_commit_check.f commitR
  by_cases h : commitE a l = 0
  · obtain ⟨hl, _, hv⟩ := commit_valid h
    rw [if_pos h]
    refine Ev.bind (a := (cB a l, 0)) ?_ (Ev.now _)
    refine Ev.bind (a := (0 : Int)) (Ev.bind (checkCommit_ev a l) (by rw [h]; exact Ev.now _)) ?_
    simp only [if_true]
    refine Ev.bind (a := cB a l) ?_ (Ev.now _)
    unfold record_commit_put.f
    have h9 := I_len9 ha
    have h8 := I_len9 (i64_nat (m := l.length) (by omega))
    refine Ev.bind (put_ev ha [] (by simp)) ?_
    refine Ev.bind (put_ev (i64_nat (m := l.length) (by omega)) _ (by simp only [List.nil_append]; omega)) ?_
    simp only [List.nil_append]
    have := commitPut_loop l (by omega) (fun x hx => wr_sizes (hv x hx)) l.length 0 (I a ++ I l.length) (by omega) (by rw [List.length_append]; omega)
    exact this
  · rw [if_neg h]
    refine Ev.bind (a := ([], commitE a l)) ?_ (Ev.now _)
    refine Ev.bind (Ev.bind (checkCommit_ev a l) (Ev.now _)) ?_
    simp only [if_neg h]
    exact Ev.now _
end Go.Proofs.Ytkcdmoghnoodmaa.Wr
namespace Go.Proofs.Ytkcdmoghnoodmaa.Rd
open Go.RowKit Go.Proofs.Ytkcdmoghnoodmaa.B Go.Proofs.YtkcdmoghnoodmaaW.PrintWords Go.Proofs.YtkcdmoghnoodmaaW.PrintLast Go.Proofs.Ytkcdmoghnoodmaa.Lib Go.Proofs.Ytkcdmoghnoodmaa.Wr
open Go.Proofs.Ytkcdmoghnoodmaa.Cod (I i64 i64_of kw kw_le I_length Bytes P T F P_ok P_I T_str F_I P_err int_ev text_ev flag_ev bytes_str str_bytes)
set_option linter.unusedVariables false
set_option linter.unusedSimpArgs false

def dr (b : List Int) (a : Int) : List Int := b.drop a.toNat
def In (b : List Int) (a : Int) : Prop := 0 ≤ a ∧ a ≤ (b.length : Int)
theorem dr_len {b : List Int} {a : Int} (h : In b a) : ((dr b a).length : Int) = b.length - a := by
  unfold dr; rw [List.length_drop]; have := h.1; have := h.2; omega
theorem dr_bytes {b : List Int} (h : Bytes b) (a : Int) : Bytes (dr b a) := h.drop _
theorem take_dr {b : List Int} {a s : Int} (h : 0 ≤ a) (hs : 0 ≤ s) : b.take (a + s).toNat = b.take a.toNat ++ (dr b a).take s.toNat := by
  rw [show (a + s).toNat = a.toNat + s.toNat by omega, List.take_add]; rfl
theorem dr_dr {b : List Int} {a s : Int} (h : 0 ≤ a) (hs : 0 ≤ s) : dr b (a + s) = (dr b a).drop s.toNat := by
  unfold dr
  rw [List.drop_drop]
  congr 1
  omega
theorem str_size (l : List Int) : (strOfNums l).size = l.length := by
  unfold strOfNums
  simp [ByteArray.size]
theorem T_ok {l : List Int} (hl : Bytes l) {s : ByteArray} {k : Int} (h : T l = (s, k, 0)) : 0 ≤ k ∧ k ≤ l.length ∧ tB s = l.take k.toNat := by
  unfold T at h
  generalize hP : P l = p at h
  obtain ⟨n, q, e⟩ := p
  simp only at h
  by_cases c : e = 0
  · subst c
    rw [if_pos rfl] at h
    obtain ⟨hn, hq, hle, hI⟩ := P_ok hl hP
    by_cases c1 : n < 0
    · rw [if_pos c1] at h; simp at h
    · rw [if_neg c1] at h
      by_cases c2 : n > (l.length : Int) - q
      · rw [if_pos c2] at h; simp at h
      · rw [if_neg c2] at h
        simp only [Prod.mk.injEq, and_true] at h
        obtain ⟨rfl, rfl⟩ := h
        refine ⟨by omega, by omega, ?_⟩
        have hsz : (strOfNums ((l.take (q + n).toNat).drop q.toNat)).size = n.toNat := by
          rw [str_size, List.length_drop, List.length_take]
          omega
        unfold tB
        rw [hsz, show ((n.toNat : Nat) : Int) = n by omega, hI, bytes_str ((hl.take _).drop _), show q.toNat = 1 + kw n by omega]
        have e2 : l.take (1 + kw n) = (l.take (q + n).toNat).take (1 + kw n) := by rw [List.take_take]; congr 1; omega
        rw [e2, List.take_append_drop]
  · rw [if_neg c] at h
    simp only [Prod.mk.injEq] at h
    exact absurd h.2.2 c
theorem F_ok {l : List Int} (hl : Bytes l) {b : Bool} {k : Int} (h : F l = (b, k, 0)) : 0 ≤ k ∧ k ≤ l.length ∧ fB b = l.take k.toNat := by
  unfold F at h
  generalize hP : P l = p at h
  obtain ⟨n, q, e⟩ := p
  simp only at h
  by_cases c : e = 0
  · subst c
    rw [if_pos rfl] at h
    obtain ⟨hn, hq, hle, hI⟩ := P_ok hl hP
    by_cases c1 : n = 0 ∨ n = 1
    · rw [if_pos c1] at h
      simp only [Prod.mk.injEq, and_true] at h
      obtain ⟨rfl, rfl⟩ := h
      refine ⟨by omega, by omega, ?_⟩
      unfold fB
      rw [show q.toNat = 1 + kw n by omega, ← hI]
      rcases c1 with rfl | rfl <;> rfl
    · rw [if_neg c1] at h; simp at h
  · rw [if_neg c] at h
    simp only [Prod.mk.injEq] at h
    exact absurd h.2.2 c
def RN (b : List Int) (a e : Int) : Int × Int × Int := if e = 0 then (if (P (dr b a)).2.2 = 0 then ((P (dr b a)).1, a + (P (dr b a)).2.1, 0) else (0, a, (P (dr b a)).2.2)) else (0, a, e)
def RT (b : List Int) (a e : Int) : ByteArray × Int × Int := if e = 0 then (if (T (dr b a)).2.2 = 0 then ((T (dr b a)).1, a + (T (dr b a)).2.1, 0) else (⟨#[]⟩, a, (T (dr b a)).2.2)) else (⟨#[]⟩, a, e)
def RF (b : List Int) (a e : Int) : Bool × Int × Int := if e = 0 then (if (F (dr b a)).2.2 = 0 then ((F (dr b a)).1, a + (F (dr b a)).2.1, 0) else (false, a, (F (dr b a)).2.2)) else (false, a, e)
section
variable {b : List Int} (hb : Bytes b) (hl : b.length ≤ 140737488351232)
include hb
theorem RN_ok {a e n a' : Int} (ha : In b a) (h : RN b a e = (n, a', 0)) : e = 0 ∧ In b a' ∧ i64 n ∧ b.take a'.toNat = b.take a.toNat ++ I n := by
  unfold RN at h
  by_cases he : e = 0
  · rw [if_pos he] at h
    generalize hP : P (dr b a) = p at h
    obtain ⟨m, q, c⟩ := p
    simp only at h
    by_cases hc : c = 0
    · subst hc
      rw [if_pos rfl] at h
      simp only [Prod.mk.injEq, and_true] at h
      obtain ⟨rfl, rfl⟩ := h
      obtain ⟨hn, hq, hle, hI⟩ := P_ok (dr_bytes hb a) hP
      have hd := dr_len ha
      refine ⟨he, ⟨by have := ha.1; omega, by omega⟩, hn, ?_⟩
      rw [take_dr ha.1 (by omega), show q.toNat = 1 + kw m by omega, hI]
    · rw [if_neg hc] at h
      simp only [Prod.mk.injEq] at h
      exact absurd h.2.2 hc
  · rw [if_neg he] at h
    simp only [Prod.mk.injEq] at h
    exact absurd h.2.2 he
theorem RT_ok {a e a' : Int} {s : ByteArray} (ha : In b a) (h : RT b a e = (s, a', 0)) : e = 0 ∧ In b a' ∧ b.take a'.toNat = b.take a.toNat ++ tB s := by
  unfold RT at h
  by_cases he : e = 0
  · rw [if_pos he] at h
    generalize hP : T (dr b a) = p at h
    obtain ⟨m, q, c⟩ := p
    simp only at h
    by_cases hc : c = 0
    · subst hc
      rw [if_pos rfl] at h
      simp only [Prod.mk.injEq, and_true] at h
      obtain ⟨rfl, rfl⟩ := h
      obtain ⟨hq, hle, hI⟩ := T_ok (dr_bytes hb a) hP
      have hd := dr_len ha
      refine ⟨he, ⟨by have := ha.1; omega, by omega⟩, ?_⟩
      rw [take_dr ha.1 hq, hI]
    · rw [if_neg hc] at h
      simp only [Prod.mk.injEq] at h
      exact absurd h.2.2 hc
  · rw [if_neg he] at h
    simp only [Prod.mk.injEq] at h
    exact absurd h.2.2 he
theorem RF_ok {a e a' : Int} {s : Bool} (ha : In b a) (h : RF b a e = (s, a', 0)) : e = 0 ∧ In b a' ∧ b.take a'.toNat = b.take a.toNat ++ fB s := by
  unfold RF at h
  by_cases he : e = 0
  · rw [if_pos he] at h
    generalize hP : F (dr b a) = p at h
    obtain ⟨m, q, c⟩ := p
    simp only at h
    by_cases hc : c = 0
    · subst hc
      rw [if_pos rfl] at h
      simp only [Prod.mk.injEq, and_true] at h
      obtain ⟨rfl, rfl⟩ := h
      obtain ⟨hq, hle, hI⟩ := F_ok (dr_bytes hb a) hP
      have hd := dr_len ha
      refine ⟨he, ⟨by have := ha.1; omega, by omega⟩, ?_⟩
      rw [take_dr ha.1 hq, hI]
    · rw [if_neg hc] at h
      simp only [Prod.mk.injEq] at h
      exact absurd h.2.2 hc
  · rw [if_neg he] at h
    simp only [Prod.mk.injEq] at h
    exact absurd h.2.2 he
theorem RN_in {a e : Int} (ha : In b a) : In b (RN b a e).2.1 := by
  generalize h : RN b a e = r
  obtain ⟨n, a', c⟩ := r
  by_cases hc : c = 0
  · subst hc; exact (RN_ok hb ha h).2.1
  · have : a' = a := by
      unfold RN at h
      by_cases he : e = 0
      · rw [if_pos he] at h
        split at h
        · simp only [Prod.mk.injEq] at h; exact absurd h.2.2.symm hc
        · simp only [Prod.mk.injEq] at h; exact h.2.1.symm
      · rw [if_neg he] at h; simp only [Prod.mk.injEq] at h; exact h.2.1.symm
    subst this; exact ha
theorem RT_in {a e : Int} (ha : In b a) : In b (RT b a e).2.1 := by
  generalize h : RT b a e = r
  obtain ⟨n, a', c⟩ := r
  by_cases hc : c = 0
  · subst hc; exact (RT_ok hb ha h).2.1
  · have : a' = a := by
      unfold RT at h
      by_cases he : e = 0
      · rw [if_pos he] at h
        split at h
        · simp only [Prod.mk.injEq] at h; exact absurd h.2.2.symm hc
        · simp only [Prod.mk.injEq] at h; exact h.2.1.symm
      · rw [if_neg he] at h; simp only [Prod.mk.injEq] at h; exact h.2.1.symm
    subst this; exact ha
theorem RF_in {a e : Int} (ha : In b a) : In b (RF b a e).2.1 := by
  generalize h : RF b a e = r
  obtain ⟨n, a', c⟩ := r
  by_cases hc : c = 0
  · subst hc; exact (RF_ok hb ha h).2.1
  · have : a' = a := by
      unfold RF at h
      by_cases he : e = 0
      · rw [if_pos he] at h
        split at h
        · simp only [Prod.mk.injEq] at h; exact absurd h.2.2.symm hc
        · simp only [Prod.mk.injEq] at h; exact h.2.1.symm
      · rw [if_neg he] at h; simp only [Prod.mk.injEq] at h; exact h.2.1.symm
    subst this; exact ha
include hl
theorem num_ev {a e : Int} (ha : In b a) : Ev (fun k => record_reader_num.f k b a e) (RN b a e) := by
  unfold record_reader_num.f
  refine Ev.bind (a := RN b a e) ?_ (Ev.now _)
  unfold record_next_int64.f RN
  by_cases he : e = 0
  · subst he
    simp only [if_true, if_pos ha.1, if_pos ha.2]
    have hd := dr_len ha
    refine Ev.bind (int_ev (dr b a) (dr_bytes hb a) (by have := ha.1; omega)) ?_
    generalize hP : P (dr b a) = p
    obtain ⟨m, q, c⟩ := p
    simp only
    by_cases hc : c = 0
    · subst hc
      obtain ⟨_, hq, hle, _⟩ := P_ok (dr_bytes hb a) hP
      simp only [if_true]
      rw [wr1 (by have := ha.1; omega) (by have := ha.2; omega)]
      exact Ev.now _
    · simp only [if_neg hc]; exact Ev.now _
  · simp only [if_neg he]; exact Ev.now _
theorem txt_ev {a e : Int} (ha : In b a) : Ev (fun k => record_reader_text.f k b a e) (RT b a e) := by
  unfold record_reader_text.f
  refine Ev.bind (a := RT b a e) ?_ (Ev.now _)
  unfold record_next_string.f RT
  by_cases he : e = 0
  · subst he
    simp only [if_true, if_pos ha.1, if_pos ha.2]
    have hd := dr_len ha
    refine Ev.bind (text_ev (dr b a) (dr_bytes hb a) (by have := ha.1; omega)) ?_
    generalize hP : T (dr b a) = p
    obtain ⟨m, q, c⟩ := p
    simp only
    by_cases hc : c = 0
    · subst hc
      obtain ⟨hq, hle, _⟩ := T_ok (dr_bytes hb a) hP
      simp only [if_true]
      rw [wr1 (by have := ha.1; omega) (by have := ha.2; omega)]
      exact Ev.now _
    · simp only [if_neg hc]; exact Ev.now _
  · simp only [if_neg he]; exact Ev.now _
theorem flg_ev {a e : Int} (ha : In b a) : Ev (fun k => record_reader_flag.f k b a e) (RF b a e) := by
  unfold record_reader_flag.f
  refine Ev.bind (a := RF b a e) ?_ (Ev.now _)
  unfold record_next_bool.f RF
  by_cases he : e = 0
  · subst he
    simp only [if_true, if_pos ha.1, if_pos ha.2]
    have hd := dr_len ha
    refine Ev.bind (flag_ev (dr b a) (dr_bytes hb a) (by have := ha.1; omega)) ?_
    generalize hP : F (dr b a) = p
    obtain ⟨m, q, c⟩ := p
    simp only
    by_cases hc : c = 0
    · subst hc
      obtain ⟨hq, hle, _⟩ := F_ok (dr_bytes hb a) hP
      simp only [if_true]
      rw [wr1 (by have := ha.1; omega) (by have := ha.2; omega)]
      exact Ev.now _
    · simp only [if_neg hc]; exact Ev.now _
  · simp only [if_neg he]; exact Ev.now _
end
def RM (b : List Int) (a e most : Int) : Int × Int × Int :=
  if (RN b a e).2.2 = 0 then (if (RN b a e).1 < 0 ∨ (RN b a e).1 > most then (0, (RN b a e).2.1, 32) else ((RN b a e).1, (RN b a e).2.1, 0)) else (0, (RN b a e).2.1, (RN b a e).2.2)
def RW (b : List Int) (a e : Int) : S33 × Int × Int :=
  let x := RT b a e; let y := RF b x.2.1 x.2.2; let z := RT b y.2.1 y.2.2
  (⟨x.1, z.1, y.1⟩, z.2.1, if z.2.2 = 0 then wrE ⟨x.1, z.1, y.1⟩ else z.2.2)
section
variable {b : List Int} (hb : Bytes b) (hl : b.length ≤ 140737488351232)
include hb hl
theorem many_ev {a e most : Int} (ha : In b a) : Ev (fun k => record_reader_many.f k b a e most) (RM b a e most) := by
  unfold record_reader_many.f RM
  refine Ev.bind (num_ev hb hl ha) ?_
  generalize RN b a e = r
  obtain ⟨n, a', c⟩ := r
  simp only
  have hj : ∀ (x : Bool), Ev (fun k => record_reader_many.j0 k n x b a' c) (if x = true then (0, a', 32) else if c = 0 then (n, a', c) else (0, a', c)) := by
    intro x
    refine Ev.step (fun k => by simp only [record_reader_many.j0]; rfl) ?_
    cases x with
    | true => simp only [if_true, if_neg (show ¬ (32 : Int) = 0 by decide)]; exact Ev.now _
    | false =>
      simp only [Bool.false_eq_true, if_false]
      by_cases hc : c = 0
      · simp only [if_pos hc]; exact Ev.now _
      · simp only [if_neg hc]; exact Ev.now _
  by_cases hc : c = 0
  · simp only [if_pos hc]
    by_cases h1 : n < 0
    · simp only [if_pos h1]
      rw [if_pos (.inl h1)]
      simpa only [if_true] using hj true
    · simp only [if_neg h1]
      have h2 := hj (decide (n > most))
      by_cases h3 : n > most
      · rw [decide_eq_true h3] at h2 ⊢
        rw [if_pos (.inr h3)]
        simpa only [if_true] using h2
      · rw [decide_eq_false h3] at h2 ⊢
        rw [if_neg (by omega)]
        subst hc
        simpa only [Bool.false_eq_true, if_false, if_true] using h2
  · simp only [if_neg hc]
    have h2 := hj false
    simpa only [Bool.false_eq_true, if_false, if_neg hc] using h2
theorem write_ev {a e : Int} (ha : In b a) : Ev (fun k => record_reader_write.f k b a e) ((RW b a e).1.f0, (RW b a e).1.f1, (RW b a e).1.f2, (RW b a e).2.1, (RW b a e).2.2) := by
  unfold record_reader_write.f RW
  refine Ev.bind (txt_ev hb hl ha) ?_
  have h1 := RT_in hb (e := e) ha
  refine Ev.bind (flg_ev hb hl h1) ?_
  have h2 := RF_in hb (e := (RT b a e).2.2) h1
  refine Ev.bind (txt_ev hb hl h2) ?_
  dsimp only
  generalize RT b (RF b (RT b a e).2.1 (RT b a e).2.2).2.1 (RF b (RT b a e).2.1 (RT b a e).2.2).2.2 = z
  by_cases hz : z.2.2 = 0
  · simp only [if_pos hz]
    exact Ev.bind (checkWrite_ev ⟨(RT b a e).1, z.1, (RF b (RT b a e).2.1 (RT b a e).2.2).1⟩) (Ev.now _)
  · simp only [if_neg hz]; exact Ev.now _
omit hl
theorem RM_in {a e most : Int} (ha : In b a) : In b (RM b a e most).2.1 := by
  have h := RN_in hb (e := e) ha
  unfold RM
  split
  · split <;> exact h
  · exact h
theorem RW_in {a e : Int} (ha : In b a) : In b (RW b a e).2.1 := RT_in hb (RF_in hb (RT_in hb ha))
end
def At (b : List Int) (a : Int) (post : List Int) : Prop := In b a ∧ dr b a = post
theorem At.step {b : List Int} {a : Int} {x post : List Int} (h : At b a (x ++ post)) : At b (a + x.length) post := by
  obtain ⟨hi, hd⟩ := h
  have hn := dr_len hi
  rw [hd, List.length_append] at hn
  refine ⟨⟨by have := hi.1; omega, by omega⟩, ?_⟩
  rw [dr_dr hi.1 (by omega), hd]
  simp
theorem RN_at {b : List Int} {a n : Int} {post : List Int} (hn : i64 n) (h : At b a (I n ++ post)) : RN b a 0 = (n, a + (I n).length, 0) := by
  unfold RN
  rw [h.2, P_I hn, if_pos rfl, if_pos rfl, I_length]
  simp
theorem RT_at {b : List Int} {a : Int} {s : ByteArray} {post : List Int} (hs : s.size ≤ 1000) (h : At b a (tB s ++ post)) : RT b a 0 = (s, a + (tB s).length, 0) := by
  unfold RT
  rw [h.2, tB, List.append_assoc, T_str s (i64_nat (by omega)), if_pos rfl, if_pos rfl, List.length_append, I_length, bytesOf_length]
  simp
theorem RF_at {b : List Int} {a : Int} {x : Bool} {post : List Int} (h : At b a (fB x ++ post)) : RF b a 0 = (x, a + (fB x).length, 0) := by
  unfold RF
  rw [h.2, fB, F_I, if_pos rfl, if_pos rfl]
  cases x <;> rfl
theorem RW_at {b : List Int} {a : Int} {x : S33} {post : List Int} (hx : wrE x = 0) (h : At b a (wB x ++ post)) : RW b a 0 = (x, a + (wB x).length, 0) ∧ At b (a + (wB x).length) post := by
  have hz := wr_sizes hx
  have h0 := h
  unfold wB at h
  rw [List.append_assoc, List.append_assoc] at h
  have h1 := RT_at hz.1 h
  have h2 := h.step
  have h3 := RF_at h2
  have h4 := h2.step
  have h5 := RT_at hz.2 h4
  have h6 := h4.step
  unfold RW
  simp only [h1, h3, h5, if_true]
  refine ⟨?_, h0.step⟩
  rw [show (⟨x.f0, x.f1, x.f2⟩ : S33) = x from rfl, hx]
  have : (wB x).length = (tB x.f0).length + (fB x.f2).length + (tB x.f1).length := by unfold wB; rw [List.length_append, List.length_append]
  rw [this]
  simp only [Prod.mk.injEq, true_and, and_true]
  omega
theorem RM_at {b : List Int} {a : Int} {n : Nat} {most : Int} {post : List Int} (hn : (n : Int) ≤ most) (hm : most ≤ 1000) (h : At b a (I n ++ post)) : RM b a 0 most = ((n : Int), a + (I n).length, 0) := by
  unfold RM
  rw [RN_at (i64_nat (by omega)) h, if_pos rfl, if_neg (by omega)]
end Go.Proofs.Ytkcdmoghnoodmaa.Rd
namespace Go.Proofs.Ytkcdmoghnoodmaa.Rd
open Go.RowKit Go.Proofs.Ytkcdmoghnoodmaa.B Go.Proofs.YtkcdmoghnoodmaaW.PrintWords Go.Proofs.YtkcdmoghnoodmaaW.PrintLast Go.Proofs.Ytkcdmoghnoodmaa.Lib Go.Proofs.Ytkcdmoghnoodmaa.Wr
open Go.Proofs.Ytkcdmoghnoodmaa.Cod (I i64 i64_of kw kw_le I_length Bytes P T F P_ok P_I)
set_option linter.unusedVariables false
set_option linter.unusedSimpArgs false

def WS (b : List Int) : Nat → Int → Int → List S33 → List S33 × Int × Int
  | 0, a, e, l => (l, a, e)
  | n + 1, a, e, l => WS b n (RW b a e).2.1 (RW b a e).2.2 (l ++ [(RW b a e).1])
def endE (b : List Int) (a e c : Int) : Int := if e = 0 then (if a < (b.length : Int) then 13 else c) else e
def TC (b : List Int) : Int × List S33 × Int :=
  let x := RN b 0 0; let y := RM b x.2.1 x.2.2 64; let z := WS b y.1.toNat y.2.1 y.2.2 []
  let e := endE b z.2.1 z.2.2 (commitE x.1 z.1); if e = 0 then (x.1, z.1, 0) else (0, [], e)
section
variable {b : List Int} (hb : Bytes b) (hl : b.length ≤ 140737488351232)
include hb hl
theorem takeCommit_loop (n ts : Int) (hn : 0 ≤ n) (hn2 : n ≤ 1000) : ∀ (d m : Nat) (a e : Int) (l : List S33), ((m + d : Nat) : Int) = n → l.length ≤ m → In b a →
    Ev (fun k => record_TakeCommit.l0 k n (m : Int) b a e ts l) (if endE b (WS b d a e l).2.1 (WS b d a e l).2.2 (commitE ts (WS b d a e l).1) = 0 then (ts, (WS b d a e l).1, 0) else (0, [], endE b (WS b d a e l).2.1 (WS b d a e l).2.2 (commitE ts (WS b d a e l).1)))
  | 0, m, a, e, l, h, hm, ha => by
    refine Ev.step (fun k => by simp only [record_TakeCommit.l0]; rw [if_neg (by omega)]) ?_
    change Ev _ (if endE b a e (commitE ts l) = 0 then (ts, l, 0) else (0, [], endE b a e (commitE ts l)))
    refine Ev.bind (a := (endE b a e (commitE ts l), a, endE b a e (commitE ts l))) ?_ ?_
    · unfold record_reader_ends_commit.f endE
      by_cases he : e = 0
      · simp only [if_pos he]
        by_cases h1 : a < (b.length : Int)
        · simp only [if_pos h1, if_neg (show ¬ (13 : Int) = 0 by decide)]; exact Ev.now _
        · simp only [if_neg h1]
          exact Ev.bind (by unfold record_commit_check.f; exact Ev.bind (checkCommit_ev ts l) (Ev.now _)) (Ev.now _)
      · simp only [if_neg he]; exact Ev.now _
    · by_cases h0 : endE b a e (commitE ts l) = 0
      · simp only [if_pos h0]; exact Ev.now _
      · simp only [if_neg h0]; exact Ev.now _
  | d + 1, m, a, e, l, h, hm, ha => by
    have e1 : wrap64 ((m : Int) + 1) = ((m + 1 : Nat) : Int) := by rw [wr1 (by omega) (by omega)]; omega
    have ih := takeCommit_loop n ts hn hn2 d (m + 1) (RW b a e).2.1 (RW b a e).2.2 (l ++ [(RW b a e).1]) (by omega) (by simp; omega) (RW_in hb ha)
    refine Ev.step (fun k => by simp only [record_TakeCommit.l0]; rw [if_pos (by omega)]) ?_
    refine Ev.bind (write_ev hb hl ha) ?_
    simp only [if_pos (show l.length < 3518437208883 by omega), e1]
    exact ih
theorem takeCommit_ev : Ev (fun k => record_TakeCommit.f k b) (TC b) := by
  unfold record_TakeCommit.f record_reader_mk.f TC
  have h0 : In b 0 := ⟨Int.le_refl _, by omega⟩
  simp only [Option.bind_some]
  refine Ev.bind (num_ev hb hl h0) ?_
  have h1 := RN_in hb (e := 0) h0
  refine Ev.bind (many_ev hb hl h1) ?_
  have h2 := RM_in hb (e := (RN b 0 0).2.2) (most := 64) h1
  have hr : 0 ≤ (RM b (RN b 0 0).2.1 (RN b 0 0).2.2 64).1 ∧ (RM b (RN b 0 0).2.1 (RN b 0 0).2.2 64).1 ≤ 64 := by
    unfold RM
    split
    · split
      · constructor <;> (dsimp only; omega)
      · omega
    · constructor <;> (dsimp only; omega)
  exact takeCommit_loop hb hl _ _ hr.1 (by omega) _ 0 _ _ [] (by omega) (by simp) h2
end
theorem WS_at {b : List Int} : ∀ (r : List S33) (a : Int) (l : List S33) (post : List Int), (∀ x ∈ r, wrE x = 0) → At b a (r.flatMap wB ++ post) → ∃ a', WS b r.length a 0 l = (l ++ r, a', 0) ∧ At b a' post
  | [], a, l, post, _, h => ⟨a, by simp [WS], by simpa using h⟩
  | x :: r, a, l, post, hv, h => by
    rw [List.flatMap_cons, List.append_assoc] at h
    obtain ⟨h1, h2⟩ := RW_at (hv x (List.mem_cons_self ..)) h
    obtain ⟨a', h3, h4⟩ := WS_at r _ (l ++ [x]) post (fun y hy => hv y (List.mem_cons_of_mem _ hy)) h2
    refine ⟨a', ?_, h4⟩
    simp only [List.length_cons, WS, h1]
    rw [h3]
    simp
theorem At.start (b : List Int) : At b 0 b := ⟨⟨Int.le_refl _, by omega⟩, rfl⟩
theorem At.stop {b : List Int} {a : Int} (h : At b a []) : ¬ a < (b.length : Int) := by
  have := dr_len h.1
  rw [h.2] at this
  simp at this
  omega
theorem TC_at {a : Int} {l : List S33} (ha : i64 a) (h : commitE a l = 0) : TC (cB a l) = (a, l, 0) := by
  obtain ⟨hl, _, hv⟩ := commit_valid h
  have h0 := At.start (cB a l)
  generalize hbb : cB a l = b at h0 ⊢
  have h1 : At b 0 (I a ++ (I l.length ++ (l.flatMap wB ++ []))) := by
    refine ⟨h0.1, h0.2.trans ?_⟩
    rw [← hbb]
    unfold cB
    simp [List.append_assoc]
  unfold TC
  rw [RN_at ha h1]
  dsimp only
  rw [RM_at (n := l.length) (by omega) (by omega) h1.step]
  dsimp only
  obtain ⟨a', h2, h3⟩ := WS_at l _ [] [] hv h1.step.step
  rw [show (l.length : Int).toNat = l.length by omega, h2]
  dsimp only
  unfold endE
  rw [if_pos rfl, if_neg h3.stop, List.nil_append, h, if_pos rfl]
end Go.Proofs.Ytkcdmoghnoodmaa.Rd
namespace Go.Proofs.Ytkcdmoghnoodmaa.Rd
open Go.RowKit Go.Proofs.Ytkcdmoghnoodmaa.B Go.Proofs.YtkcdmoghnoodmaaW.PrintWords Go.Proofs.YtkcdmoghnoodmaaW.PrintLast Go.Proofs.Ytkcdmoghnoodmaa.Lib Go.Proofs.Ytkcdmoghnoodmaa.Wr
open Go.Proofs.Ytkcdmoghnoodmaa.Cod (I i64 i64_of kw kw_le I_length Bytes I_bytes bytesOf_bytes)
set_option linter.unusedVariables false
set_option linter.unusedSimpArgs false

theorem sameW_loop (l : List S33) (hl : l.length ≤ 9223372036854775000) : ∀ (d n : Nat), n + d = l.length → Ev (fun k => api_Write.l0 k l l (l.length : Int) (n : Int)) true
  | 0, n, h => by
    refine Ev.step (f := fun _ => some true) (fun k => ?_) (Ev.now _)
    simp only [api_Write.l0]
    rw [if_neg (by omega)]
  | d + 1, n, h => by
    have e : wrap64 ((n : Int) + 1) = ((n + 1 : Nat) : Int) := by rw [wr1 (by omega) (by omega)]; omega
    have ih := sameW_loop l hl d (n + 1) (by omega)
    refine Ev.step (f := fun k => api_Write.l0 k l l (l.length : Int) ((n + 1 : Nat) : Int)) (fun k => ?_) ih
    simp only [api_Write.l0]
    rw [if_pos (by omega), if_pos (by omega), if_pos (by omega), if_pos (by omega), if_neg (by simp), e]
theorem Bytes_app {x y : List Int} (hx : Bytes x) (hy : Bytes y) : Bytes (x ++ y) := fun z hz => (List.mem_append.1 hz).elim (hx z) (hy z)
theorem Bytes_flat {α : Type} {f : α → List Int} {l : List α} (h : ∀ x ∈ l, Bytes (f x)) : Bytes (l.flatMap f) := fun z hz => by
  obtain ⟨x, hx, hz⟩ := List.mem_flatMap.1 hz
  exact h x hx z hz
theorem len_flat {α : Type} {f : α → List Int} {c : Nat} : ∀ {l : List α}, (∀ x ∈ l, (f x).length ≤ c) → (l.flatMap f).length ≤ l.length * c
  | [], _ => by simp
  | x :: l, h => by
    rw [List.flatMap_cons, List.length_append, List.length_cons, Nat.succ_mul]
    have := h x (List.mem_cons_self ..)
    have := len_flat (fun y hy => h y (List.mem_cons_of_mem x hy))
    omega
theorem tB_bytes {s : ByteArray} (h : s.size ≤ 1000) : Bytes (tB s) := Bytes_app (I_bytes (i64_nat (by omega))) (bytesOf_bytes s)
theorem fB_bytes (b : Bool) : Bytes (fB b) := I_bytes (i64_flag b)
theorem cB_bytes {a : Int} {l : List S33} (ha : i64 a) (h : commitE a l = 0) : Bytes (cB a l) ∧ (cB a l).length ≤ 1000000 := by
  obtain ⟨hl, _, hv⟩ := commit_valid h
  refine ⟨Bytes_app (Bytes_app (I_bytes ha) (I_bytes (i64_nat (by omega)))) (Bytes_flat (fun x hx => ?_)), ?_⟩
  · have := wr_sizes (hv x hx)
    exact Bytes_app (Bytes_app (tB_bytes this.1) (fB_bytes _)) (tB_bytes this.2)
  · have h1 := len_flat (f := wB) (c := 2100) (l := l) (fun x hx => by have := wr_sizes (hv x hx); exact wB_len this.1 this.2)
    have h2 := I_len9 ha
    have h3 := I_len9 (i64_nat (m := l.length) (by omega))
    unfold cB
    rw [List.length_append, List.length_append]
    omega
end Go.Proofs.Ytkcdmoghnoodmaa.Rd

/-
Of the row RecordParts: printed walks and plain laws, merged (wip/claim2.py).
-/
import Derived.Test.YtkcdmoghnoodmaaQRecordParts3
import Derived.Test.YtkcdmoghnoodmaaQRecordParts4
import Derived.Test.YtkcdmoghnoodmaaQRecordParts5
import Derived.Test.YtkcdmoghnoodmaaQRecordParts6
import Derived.Test.YtkcdmoghnoodmaaQRecordParts7
import Derived.Test.YtkcdmoghnoodmaaQRecordParts10
import Derived.Test.YtkcdmoghnoodmaaQRecordParts11
import Derived.Handy
namespace Go.Proofs.Ytkcdmoghnoodmaa.Wr
open Go.RowKit Go.Proofs.Ytkcdmoghnoodmaa.B Go.Proofs.YtkcdmoghnoodmaaW.PrintWords Go.Proofs.YtkcdmoghnoodmaaW.PrintLast Go.Proofs.Ytkcdmoghnoodmaa.Lib
open Go.Proofs.Ytkcdmoghnoodmaa.Cod (I i64 i64_of kw kw_le I_length put_ev puttext_ev putflag_ev refI_ev bytesOf_bytes I_bytes eq_ev)
set_option linter.unusedVariables false
set_option linter.unusedSimpArgs false

def tB (s : ByteArray) : List Int := I s.size ++ bytesOf s
def fB (b : Bool) : List Int := I (if b then 1 else 0)
def wB (x : S33) : List Int := tB x.f0 ++ fB x.f2 ++ tB x.f1
theorem I_len9 {n : Int} (h : i64 n) : (I n).length ≤ 9 := by
  rw [I_length]; have := kw_le h; omega
theorem i64_nat {m : Nat} (h : m ≤ 1000000) : i64 (m : Int) := ⟨by omega, by omega⟩
theorem i64_flag (b : Bool) : i64 (if b then 1 else 0) := by cases b <;> exact ⟨by decide, by decide⟩
theorem tB_len {s : ByteArray} (h : s.size ≤ 1000) : (tB s).length ≤ 1009 := by
  unfold tB
  rw [List.length_append, bytesOf_length]
  have := I_len9 (i64_nat (m := s.size) (by omega))
  omega
theorem fB_len (b : Bool) : (fB b).length ≤ 9 := I_len9 (i64_flag b)
theorem wB_len {x : S33} (h0 : x.f0.size ≤ 1000) (h1 : x.f1.size ≤ 1000) : (wB x).length ≤ 2100 := by
  unfold wB
  rw [List.length_append, List.length_append]
  have := tB_len h0; have := tB_len h1; have := fB_len x.f2
  omega
theorem writePut_ev (x : S33) (h0 : x.f0.size ≤ 1000) (h1 : x.f1.size ≤ 1000) (xs : List Int) (hx : xs.length ≤ 1000000) : Ev (fun k => record_write_put.f k x.f0 x.f1 x.f2 xs) (xs ++ wB x) := by
  unfold record_write_put.f
  have a0 := tB_len h0; have a1 := tB_len h1; have a2 := fB_len x.f2
  refine Ev.bind (puttext_ev x.f0 xs (by omega)) ?_
  refine Ev.bind (putflag_ev x.f2 _ (by rw [List.append_assoc, List.length_append]; show xs.length + (tB x.f0).length ≤ _; omega)) ?_
  refine Ev.bind (puttext_ev x.f1 _ (by rw [List.append_assoc, List.append_assoc, List.length_append, List.length_append, List.length_append]; have : (I (x.f0.size : Int)).length + (bytesOf x.f0).length ≤ 1009 := by rw [← List.length_append]; exact a0
                                        show xs.length + ((I (x.f0.size : Int)).length + ((bytesOf x.f0).length + (fB x.f2).length)) + x.f1.size ≤ _; omega)) ?_
  refine Ev.congr (f := fun _ => some _) (fun k => ?_) (Ev.now _)
  simp [wB, tB, fB, List.append_assoc]
theorem refNum_ev {n : Int} (h : i64 n) (xs : List Int) (hx : xs.length ≤ 10000000) : Ev (fun k => cressetref03_num.f k xs n) (xs ++ I n) := by
  unfold cressetref03_num.f
  refine Ev.bind (refI_ev h) ?_
  rw [if_pos (by have := I_len9 h; omega)]
  exact Ev.now _
theorem refFlag_ev (b : Bool) (xs : List Int) (hx : xs.length ≤ 10000000) : Ev (fun k => cressetref03_flag.f k xs b) (xs ++ fB b) := by
  unfold cressetref03_flag.f fB
  cases b with
  | true => simp only [if_true]; exact Ev.bind (refNum_ev ⟨by decide, by decide⟩ xs hx) (Ev.now _)
  | false => simp only [Bool.false_eq_true, if_false]; exact Ev.bind (refNum_ev ⟨by decide, by decide⟩ xs hx) (Ev.now _)
theorem refText_ev (s : ByteArray) (hs : s.size ≤ 1000) (xs : List Int) (hx : xs.length ≤ 10000000) : Ev (fun k => cressetref03_text.f k xs s) (xs ++ tB s) := by
  unfold cressetref03_text.f
  simp only [if_pos (show s.size < 140737488355328 by omega)]
  have h9 := I_len9 (i64_nat (m := s.size) (by omega))
  have hb : Ev (fun k => cressetref01_Bytes.f k (bytesOf s)) (tB s) := by
    unfold cressetref01_Bytes.f
    rw [bytesOf_length]
    refine Ev.bind (refI_ev (i64_nat (by omega))) ?_
    rw [if_pos (by omega)]
    exact Ev.now _
  refine Ev.bind hb ?_
  rw [if_pos (by have := tB_len hs; omega)]
  exact Ev.now _
theorem refWrite_ev (x : S33) (h0 : x.f0.size ≤ 1000) (h1 : x.f1.size ≤ 1000) : Ev (fun k => cressetref03_WriteForm.f k x.f0 x.f1 x.f2) (wB x) := by
  unfold cressetref03_WriteForm.f
  have a0 := tB_len h0; have a1 := tB_len h1; have a2 := fB_len x.f2
  refine Ev.bind (refText_ev x.f0 h0 [] (by simp)) ?_
  refine Ev.bind (refFlag_ev x.f2 _ (by simp only [List.nil_append]; omega)) ?_
  refine Ev.bind (refText_ev x.f1 h1 _ (by simp only [List.nil_append, List.length_append]; omega)) ?_
  simp only [List.nil_append]
  exact Ev.now _
theorem wr_sizes {x : S33} (h : wrE x = 0) : x.f0.size ≤ 1000 ∧ x.f1.size ≤ 1000 := by
  unfold wrE at h
  simp only [fst] at h
  by_cases h1 : keyE x.f0 = 0
  · rw [if_pos h1] at h
    by_cases h2 : valE x.f1 = 0
    · unfold keyE at h1
      unfold valE at h2
      constructor
      · split at h1
        · cases h1
        · split at h1
          · cases h1
          · omega
      · split at h2
        · cases h2
        · omega
    · rw [if_neg h2] at h; exact absurd h h2
  · rw [if_neg h1] at h; exact absurd h h1
end Go.Proofs.Ytkcdmoghnoodmaa.Wr
namespace Go.Proofs.Ytkcdmoghnoodmaa.Rd
open Go.RowKit Go.Proofs.Ytkcdmoghnoodmaa.B Go.Proofs.YtkcdmoghnoodmaaW.PrintWords Go.Proofs.YtkcdmoghnoodmaaW.PrintLast Go.Proofs.Ytkcdmoghnoodmaa.Lib Go.Proofs.Ytkcdmoghnoodmaa.Wr
open Go.Proofs.Ytkcdmoghnoodmaa.Cod (I i64 i64_of kw kw_le I_length Bytes P T F P_ok P_I T_str F_I P_err int_ev text_ev flag_ev bytes_str str_bytes)
set_option linter.unusedVariables false
set_option linter.unusedSimpArgs false

def dr (b : List Int) (a : Int) : List Int := b.drop a.toNat
def In (b : List Int) (a : Int) : Prop := 0 ≤ a ∧ a ≤ (b.length : Int)
theorem dr_len {b : List Int} {a : Int} (h : In b a) : ((dr b a).length : Int) = b.length - a := by
  unfold dr; rw [List.length_drop]; have := h.1; have := h.2; omega
theorem dr_bytes {b : List Int} (h : Bytes b) (a : Int) : Bytes (dr b a) := h.drop _
theorem take_dr {b : List Int} {a s : Int} (h : 0 ≤ a) (hs : 0 ≤ s) : b.take (a + s).toNat = b.take a.toNat ++ (dr b a).take s.toNat := by
  rw [show (a + s).toNat = a.toNat + s.toNat by omega, List.take_add]; rfl
theorem dr_dr {b : List Int} {a s : Int} (h : 0 ≤ a) (hs : 0 ≤ s) : dr b (a + s) = (dr b a).drop s.toNat := by
  unfold dr
  rw [List.drop_drop]
  congr 1
  omega
theorem str_size (l : List Int) : (strOfNums l).size = l.length := by
  unfold strOfNums
  simp [ByteArray.size]
theorem T_ok {l : List Int} (hl : Bytes l) {s : ByteArray} {k : Int} (h : T l = (s, k, 0)) : 0 ≤ k ∧ k ≤ l.length ∧ tB s = l.take k.toNat := by
  unfold T at h
  generalize hP : P l = p at h
  obtain ⟨n, q, e⟩ := p
  simp only at h
  by_cases c : e = 0
  · subst c
    rw [if_pos rfl] at h
    obtain ⟨hn, hq, hle, hI⟩ := P_ok hl hP
    by_cases c1 : n < 0
    · rw [if_pos c1] at h; simp at h
    · rw [if_neg c1] at h
      by_cases c2 : n > (l.length : Int) - q
      · rw [if_pos c2] at h; simp at h
      · rw [if_neg c2] at h
        simp only [Prod.mk.injEq, and_true] at h
        obtain ⟨rfl, rfl⟩ := h
        refine ⟨by omega, by omega, ?_⟩
        have hsz : (strOfNums ((l.take (q + n).toNat).drop q.toNat)).size = n.toNat := by
          rw [str_size, List.length_drop, List.length_take]
          omega
        unfold tB
        rw [hsz, show ((n.toNat : Nat) : Int) = n by omega, hI, bytes_str ((hl.take _).drop _), show q.toNat = 1 + kw n by omega]
        have e2 : l.take (1 + kw n) = (l.take (q + n).toNat).take (1 + kw n) := by rw [List.take_take]; congr 1; omega
        rw [e2, List.take_append_drop]
  · rw [if_neg c] at h
    simp only [Prod.mk.injEq] at h
    exact absurd h.2.2 c
theorem F_ok {l : List Int} (hl : Bytes l) {b : Bool} {k : Int} (h : F l = (b, k, 0)) : 0 ≤ k ∧ k ≤ l.length ∧ fB b = l.take k.toNat := by
  unfold F at h
  generalize hP : P l = p at h
  obtain ⟨n, q, e⟩ := p
  simp only at h
  by_cases c : e = 0
  · subst c
    rw [if_pos rfl] at h
    obtain ⟨hn, hq, hle, hI⟩ := P_ok hl hP
    by_cases c1 : n = 0 ∨ n = 1
    · rw [if_pos c1] at h
      simp only [Prod.mk.injEq, and_true] at h
      obtain ⟨rfl, rfl⟩ := h
      refine ⟨by omega, by omega, ?_⟩
      unfold fB
      rw [show q.toNat = 1 + kw n by omega, ← hI]
      rcases c1 with rfl | rfl <;> rfl
    · rw [if_neg c1] at h; simp at h
  · rw [if_neg c] at h
    simp only [Prod.mk.injEq] at h
    exact absurd h.2.2 c
def RT (b : List Int) (a e : Int) : ByteArray × Int × Int := if e = 0 then (if (T (dr b a)).2.2 = 0 then ((T (dr b a)).1, a + (T (dr b a)).2.1, 0) else (⟨#[]⟩, a, (T (dr b a)).2.2)) else (⟨#[]⟩, a, e)
def RF (b : List Int) (a e : Int) : Bool × Int × Int := if e = 0 then (if (F (dr b a)).2.2 = 0 then ((F (dr b a)).1, a + (F (dr b a)).2.1, 0) else (false, a, (F (dr b a)).2.2)) else (false, a, e)
section
variable {b : List Int} (hb : Bytes b) (hl : b.length ≤ 140737488351232)
include hb
theorem RT_ok {a e a' : Int} {s : ByteArray} (ha : In b a) (h : RT b a e = (s, a', 0)) : e = 0 ∧ In b a' ∧ b.take a'.toNat = b.take a.toNat ++ tB s := by
  unfold RT at h
  by_cases he : e = 0
  · rw [if_pos he] at h
    generalize hP : T (dr b a) = p at h
    obtain ⟨m, q, c⟩ := p
    simp only at h
    by_cases hc : c = 0
    · subst hc
      rw [if_pos rfl] at h
      simp only [Prod.mk.injEq, and_true] at h
      obtain ⟨rfl, rfl⟩ := h
      obtain ⟨hq, hle, hI⟩ := T_ok (dr_bytes hb a) hP
      have hd := dr_len ha
      refine ⟨he, ⟨by have := ha.1; omega, by omega⟩, ?_⟩
      rw [take_dr ha.1 hq, hI]
    · rw [if_neg hc] at h
      simp only [Prod.mk.injEq] at h
      exact absurd h.2.2 hc
  · rw [if_neg he] at h
    simp only [Prod.mk.injEq] at h
    exact absurd h.2.2 he
theorem RF_ok {a e a' : Int} {s : Bool} (ha : In b a) (h : RF b a e = (s, a', 0)) : e = 0 ∧ In b a' ∧ b.take a'.toNat = b.take a.toNat ++ fB s := by
  unfold RF at h
  by_cases he : e = 0
  · rw [if_pos he] at h
    generalize hP : F (dr b a) = p at h
    obtain ⟨m, q, c⟩ := p
    simp only at h
    by_cases hc : c = 0
    · subst hc
      rw [if_pos rfl] at h
      simp only [Prod.mk.injEq, and_true] at h
      obtain ⟨rfl, rfl⟩ := h
      obtain ⟨hq, hle, hI⟩ := F_ok (dr_bytes hb a) hP
      have hd := dr_len ha
      refine ⟨he, ⟨by have := ha.1; omega, by omega⟩, ?_⟩
      rw [take_dr ha.1 hq, hI]
    · rw [if_neg hc] at h
      simp only [Prod.mk.injEq] at h
      exact absurd h.2.2 hc
  · rw [if_neg he] at h
    simp only [Prod.mk.injEq] at h
    exact absurd h.2.2 he
theorem RT_in {a e : Int} (ha : In b a) : In b (RT b a e).2.1 := by
  generalize h : RT b a e = r
  obtain ⟨n, a', c⟩ := r
  by_cases hc : c = 0
  · subst hc; exact (RT_ok hb ha h).2.1
  · have : a' = a := by
      unfold RT at h
      by_cases he : e = 0
      · rw [if_pos he] at h
        split at h
        · simp only [Prod.mk.injEq] at h; exact absurd h.2.2.symm hc
        · simp only [Prod.mk.injEq] at h; exact h.2.1.symm
      · rw [if_neg he] at h; simp only [Prod.mk.injEq] at h; exact h.2.1.symm
    subst this; exact ha
theorem RF_in {a e : Int} (ha : In b a) : In b (RF b a e).2.1 := by
  generalize h : RF b a e = r
  obtain ⟨n, a', c⟩ := r
  by_cases hc : c = 0
  · subst hc; exact (RF_ok hb ha h).2.1
  · have : a' = a := by
      unfold RF at h
      by_cases he : e = 0
      · rw [if_pos he] at h
        split at h
        · simp only [Prod.mk.injEq] at h; exact absurd h.2.2.symm hc
        · simp only [Prod.mk.injEq] at h; exact h.2.1.symm
      · rw [if_neg he] at h; simp only [Prod.mk.injEq] at h; exact h.2.1.symm
    subst this; exact ha
include hl
theorem txt_ev {a e : Int} (ha : In b a) : Ev (fun k => record_reader_text.f k b a e) (RT b a e) := by
  unfold record_reader_text.f
  refine Ev.bind (a := RT b a e) ?_ (Ev.now _)
  unfold record_next_string.f RT
  by_cases he : e = 0
  · subst he
    simp only [if_true, if_pos ha.1, if_pos ha.2]
    have hd := dr_len ha
    refine Ev.bind (text_ev (dr b a) (dr_bytes hb a) (by have := ha.1; omega)) ?_
    generalize hP : T (dr b a) = p
    obtain ⟨m, q, c⟩ := p
    simp only
    by_cases hc : c = 0
    · subst hc
      obtain ⟨hq, hle, _⟩ := T_ok (dr_bytes hb a) hP
      simp only [if_true]
      rw [wr1 (by have := ha.1; omega) (by have := ha.2; omega)]
      exact Ev.now _
    · simp only [if_neg hc]; exact Ev.now _
  · simp only [if_neg he]; exact Ev.now _
theorem flg_ev {a e : Int} (ha : In b a) : Ev (fun k => record_reader_flag.f k b a e) (RF b a e) := by
  unfold record_reader_flag.f
  refine Ev.bind (a := RF b a e) ?_ (Ev.now _)
  unfold record_next_bool.f RF
  by_cases he : e = 0
  · subst he
    simp only [if_true, if_pos ha.1, if_pos ha.2]
    have hd := dr_len ha
    refine Ev.bind (flag_ev (dr b a) (dr_bytes hb a) (by have := ha.1; omega)) ?_
    generalize hP : F (dr b a) = p
    obtain ⟨m, q, c⟩ := p
    simp only
    by_cases hc : c = 0
    · subst hc
      obtain ⟨hq, hle, _⟩ := F_ok (dr_bytes hb a) hP
      simp only [if_true]
      rw [wr1 (by have := ha.1; omega) (by have := ha.2; omega)]
      exact Ev.now _
    · simp only [if_neg hc]; exact Ev.now _
  · simp only [if_neg he]; exact Ev.now _
end
def RW (b : List Int) (a e : Int) : S33 × Int × Int :=
  let x := RT b a e; let y := RF b x.2.1 x.2.2; let z := RT b y.2.1 y.2.2
  (⟨x.1, z.1, y.1⟩, z.2.1, if z.2.2 = 0 then wrE ⟨x.1, z.1, y.1⟩ else z.2.2)
section
variable {b : List Int} (hb : Bytes b) (hl : b.length ≤ 140737488351232)
include hb hl
theorem write_ev {a e : Int} (ha : In b a) : Ev (fun k => record_reader_write.f k b a e) ((RW b a e).1.f0, (RW b a e).1.f1, (RW b a e).1.f2, (RW b a e).2.1, (RW b a e).2.2) := by
  unfold record_reader_write.f RW
  refine Ev.bind (txt_ev hb hl ha) ?_
  have h1 := RT_in hb (e := e) ha
  refine Ev.bind (flg_ev hb hl h1) ?_
  have h2 := RF_in hb (e := (RT b a e).2.2) h1
  refine Ev.bind (txt_ev hb hl h2) ?_
  dsimp only
  generalize RT b (RF b (RT b a e).2.1 (RT b a e).2.2).2.1 (RF b (RT b a e).2.1 (RT b a e).2.2).2.2 = z
  by_cases hz : z.2.2 = 0
  · simp only [if_pos hz]
    exact Ev.bind (checkWrite_ev ⟨(RT b a e).1, z.1, (RF b (RT b a e).2.1 (RT b a e).2.2).1⟩) (Ev.now _)
  · simp only [if_neg hz]; exact Ev.now _
omit hl
theorem RW_in {a e : Int} (ha : In b a) : In b (RW b a e).2.1 := RT_in hb (RF_in hb (RT_in hb ha))
end
def At (b : List Int) (a : Int) (post : List Int) : Prop := In b a ∧ dr b a = post
theorem At.step {b : List Int} {a : Int} {x post : List Int} (h : At b a (x ++ post)) : At b (a + x.length) post := by
  obtain ⟨hi, hd⟩ := h
  have hn := dr_len hi
  rw [hd, List.length_append] at hn
  refine ⟨⟨by have := hi.1; omega, by omega⟩, ?_⟩
  rw [dr_dr hi.1 (by omega), hd]
  simp
end Go.Proofs.Ytkcdmoghnoodmaa.Rd
namespace Go.Proofs.Ytkcdmoghnoodmaa.Rd
open Go.RowKit Go.Proofs.Ytkcdmoghnoodmaa.B Go.Proofs.YtkcdmoghnoodmaaW.PrintWords Go.Proofs.YtkcdmoghnoodmaaW.PrintLast Go.Proofs.Ytkcdmoghnoodmaa.Lib Go.Proofs.Ytkcdmoghnoodmaa.Wr
open Go.Proofs.Ytkcdmoghnoodmaa.Cod (I i64 i64_of kw kw_le I_length Bytes P T F P_ok P_I)
set_option linter.unusedVariables false
set_option linter.unusedSimpArgs false

section
variable {b : List Int} (hb : Bytes b) (hl : b.length ≤ 140737488351232)
include hb hl
end
theorem At.start (b : List Int) : At b 0 b := ⟨⟨Int.le_refl _, by omega⟩, rfl⟩
end Go.Proofs.Ytkcdmoghnoodmaa.Rd
namespace Go.Proofs.Ytkcdmoghnoodmaa.Rd
open Go.RowKit Go.Proofs.Ytkcdmoghnoodmaa.B Go.Proofs.YtkcdmoghnoodmaaW.PrintWords Go.Proofs.YtkcdmoghnoodmaaW.PrintLast Go.Proofs.Ytkcdmoghnoodmaa.Lib Go.Proofs.Ytkcdmoghnoodmaa.Wr
open Go.Proofs.Ytkcdmoghnoodmaa.Cod (I i64 i64_of kw kw_le I_length Bytes I_bytes bytesOf_bytes)
set_option linter.unusedVariables false
set_option linter.unusedSimpArgs false

theorem Bytes_app {x y : List Int} (hx : Bytes x) (hy : Bytes y) : Bytes (x ++ y) := fun z hz => (List.mem_append.1 hz).elim (hx z) (hy z)
theorem tB_bytes {s : ByteArray} (h : s.size ≤ 1000) : Bytes (tB s) := Bytes_app (I_bytes (i64_nat (by omega))) (bytesOf_bytes s)
theorem fB_bytes (b : Bool) : Bytes (fB b) := I_bytes (i64_flag b)
end Go.Proofs.Ytkcdmoghnoodmaa.Rd

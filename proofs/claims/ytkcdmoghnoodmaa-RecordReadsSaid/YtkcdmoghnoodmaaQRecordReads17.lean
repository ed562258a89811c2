/-
Of the row RecordReads: printed walks and plain laws, merged (wip/claim2.py).
-/
import Derived.Test.YtkcdmoghnoodmaaQRecordReads3
import Derived.Test.YtkcdmoghnoodmaaQRecordReads4
import Derived.Test.YtkcdmoghnoodmaaQRecordReads6
import Derived.Test.YtkcdmoghnoodmaaQRecordReads7
import Derived.Test.YtkcdmoghnoodmaaQRecordReads8
import Derived.Test.YtkcdmoghnoodmaaQRecordReads9
import Derived.Test.YtkcdmoghnoodmaaQRecordReads13
import Derived.Test.YtkcdmoghnoodmaaQRecordReads14
import Derived.Test.YtkcdmoghnoodmaaQRecordReads15
import Derived.Test.YtkcdmoghnoodmaaQRecordReads16
import Derived.Handy
namespace Go.Proofs.Ytkcdmoghnoodmaa.Wr
open Go.RowKit Go.Proofs.Ytkcdmoghnoodmaa.B Go.Proofs.YtkcdmoghnoodmaaW.PrintWords Go.Proofs.YtkcdmoghnoodmaaW.PrintLast Go.Proofs.Ytkcdmoghnoodmaa.Lib
open Go.Proofs.Ytkcdmoghnoodmaa.Cod (I i64 i64_of kw kw_le I_length put_ev puttext_ev putflag_ev refI_ev bytesOf_bytes I_bytes eq_ev)
set_option linter.unusedVariables false
set_option linter.unusedSimpArgs false

def tB (s : ByteArray) : List Int := I s.size ++ bytesOf s
def fB (b : Bool) : List Int := I (if b then 1 else 0)
end Go.Proofs.Ytkcdmoghnoodmaa.Wr
namespace Go.Proofs.Ytkcdmoghnoodmaa.Rd
open Go.RowKit Go.Proofs.Ytkcdmoghnoodmaa.B Go.Proofs.YtkcdmoghnoodmaaW.PrintWords Go.Proofs.YtkcdmoghnoodmaaW.PrintLast Go.Proofs.Ytkcdmoghnoodmaa.Lib Go.Proofs.Ytkcdmoghnoodmaa.Wr
open Go.Proofs.Ytkcdmoghnoodmaa.Cod (I i64 i64_of kw kw_le I_length Bytes P T F P_ok P_I T_str F_I P_err int_ev text_ev flag_ev bytes_str str_bytes)
set_option linter.unusedVariables false
set_option linter.unusedSimpArgs false

def dr (b : List Int) (a : Int) : List Int := b.drop a.toNat
def In (b : List Int) (a : Int) : Prop := 0 ≤ a ∧ a ≤ (b.length : Int)
theorem dr_len {b : List Int} {a : Int} (h : In b a) : ((dr b a).length : Int) = b.length - a := by
  unfold dr; rw [List.length_drop]; have := h.1; have := h.2; omega
theorem dr_bytes {b : List Int} (h : Bytes b) (a : Int) : Bytes (dr b a) := h.drop _
theorem take_dr {b : List Int} {a s : Int} (h : 0 ≤ a) (hs : 0 ≤ s) : b.take (a + s).toNat = b.take a.toNat ++ (dr b a).take s.toNat := by
  rw [show (a + s).toNat = a.toNat + s.toNat by omega, List.take_add]; rfl
theorem dr_dr {b : List Int} {a s : Int} (h : 0 ≤ a) (hs : 0 ≤ s) : dr b (a + s) = (dr b a).drop s.toNat := by
  unfold dr
  rw [List.drop_drop]
  congr 1
  omega
theorem str_size (l : List Int) : (strOfNums l).size = l.length := by
  unfold strOfNums
  simp [ByteArray.size]
theorem T_ok {l : List Int} (hl : Bytes l) {s : ByteArray} {k : Int} (h : T l = (s, k, 0)) : 0 ≤ k ∧ k ≤ l.length ∧ tB s = l.take k.toNat := by
  unfold T at h
  generalize hP : P l = p at h
  obtain ⟨n, q, e⟩ := p
  simp only at h
  by_cases c : e = 0
  · subst c
    rw [if_pos rfl] at h
    obtain ⟨hn, hq, hle, hI⟩ := P_ok hl hP
    by_cases c1 : n < 0
    · rw [if_pos c1] at h; simp at h
    · rw [if_neg c1] at h
      by_cases c2 : n > (l.length : Int) - q
      · rw [if_pos c2] at h; simp at h
      · rw [if_neg c2] at h
        simp only [Prod.mk.injEq, and_true] at h
        obtain ⟨rfl, rfl⟩ := h
        refine ⟨by omega, by omega, ?_⟩
        have hsz : (strOfNums ((l.take (q + n).toNat).drop q.toNat)).size = n.toNat := by
          rw [str_size, List.length_drop, List.length_take]
          omega
        unfold tB
        rw [hsz, show ((n.toNat : Nat) : Int) = n by omega, hI, bytes_str ((hl.take _).drop _), show q.toNat = 1 + kw n by omega]
        have e2 : l.take (1 + kw n) = (l.take (q + n).toNat).take (1 + kw n) := by rw [List.take_take]; congr 1; omega
        rw [e2, List.take_append_drop]
  · rw [if_neg c] at h
    simp only [Prod.mk.injEq] at h
    exact absurd h.2.2 c
theorem F_ok {l : List Int} (hl : Bytes l) {b : Bool} {k : Int} (h : F l = (b, k, 0)) : 0 ≤ k ∧ k ≤ l.length ∧ fB b = l.take k.toNat := by
  unfold F at h
  generalize hP : P l = p at h
  obtain ⟨n, q, e⟩ := p
  simp only at h
  by_cases c : e = 0
  · subst c
    rw [if_pos rfl] at h
    obtain ⟨hn, hq, hle, hI⟩ := P_ok hl hP
    by_cases c1 : n = 0 ∨ n = 1
    · rw [if_pos c1] at h
      simp only [Prod.mk.injEq, and_true] at h
      obtain ⟨rfl, rfl⟩ := h
      refine ⟨by omega, by omega, ?_⟩
      unfold fB
      rw [show q.toNat = 1 + kw n by omega, ← hI]
      rcases c1 with rfl | rfl <;> rfl
    · rw [if_neg c1] at h; simp at h
  · rw [if_neg c] at h
    simp only [Prod.mk.injEq] at h
    exact absurd h.2.2 c
def RN (b : List Int) (a e : Int) : Int × Int × Int := if e = 0 then (if (P (dr b a)).2.2 = 0 then ((P (dr b a)).1, a + (P (dr b a)).2.1, 0) else (0, a, (P (dr b a)).2.2)) else (0, a, e)
def RT (b : List Int) (a e : Int) : ByteArray × Int × Int := if e = 0 then (if (T (dr b a)).2.2 = 0 then ((T (dr b a)).1, a + (T (dr b a)).2.1, 0) else (⟨#[]⟩, a, (T (dr b a)).2.2)) else (⟨#[]⟩, a, e)
def RF (b : List Int) (a e : Int) : Bool × Int × Int := if e = 0 then (if (F (dr b a)).2.2 = 0 then ((F (dr b a)).1, a + (F (dr b a)).2.1, 0) else (false, a, (F (dr b a)).2.2)) else (false, a, e)
section
variable {b : List Int} (hb : Bytes b) (hl : b.length ≤ 140737488351232)
include hb
theorem RN_ok {a e n a' : Int} (ha : In b a) (h : RN b a e = (n, a', 0)) : e = 0 ∧ In b a' ∧ i64 n ∧ b.take a'.toNat = b.take a.toNat ++ I n := by
  unfold RN at h
  by_cases he : e = 0
  · rw [if_pos he] at h
    generalize hP : P (dr b a) = p at h
    obtain ⟨m, q, c⟩ := p
    simp only at h
    by_cases hc : c = 0
    · subst hc
      rw [if_pos rfl] at h
      simp only [Prod.mk.injEq, and_true] at h
      obtain ⟨rfl, rfl⟩ := h
      obtain ⟨hn, hq, hle, hI⟩ := P_ok (dr_bytes hb a) hP
      have hd := dr_len ha
      refine ⟨he, ⟨by have := ha.1; omega, by omega⟩, hn, ?_⟩
      rw [take_dr ha.1 (by omega), show q.toNat = 1 + kw m by omega, hI]
    · rw [if_neg hc] at h
      simp only [Prod.mk.injEq] at h
      exact absurd h.2.2 hc
  · rw [if_neg he] at h
    simp only [Prod.mk.injEq] at h
    exact absurd h.2.2 he
theorem RT_ok {a e a' : Int} {s : ByteArray} (ha : In b a) (h : RT b a e = (s, a', 0)) : e = 0 ∧ In b a' ∧ b.take a'.toNat = b.take a.toNat ++ tB s := by
  unfold RT at h
  by_cases he : e = 0
  · rw [if_pos he] at h
    generalize hP : T (dr b a) = p at h
    obtain ⟨m, q, c⟩ := p
    simp only at h
    by_cases hc : c = 0
    · subst hc
      rw [if_pos rfl] at h
      simp only [Prod.mk.injEq, and_true] at h
      obtain ⟨rfl, rfl⟩ := h
      obtain ⟨hq, hle, hI⟩ := T_ok (dr_bytes hb a) hP
      have hd := dr_len ha
      refine ⟨he, ⟨by have := ha.1; omega, by omega⟩, ?_⟩
      rw [take_dr ha.1 hq, hI]
    · rw [if_neg hc] at h
      simp only [Prod.mk.injEq] at h
      exact absurd h.2.2 hc
  · rw [if_neg he] at h
    simp only [Prod.mk.injEq] at h
    exact absurd h.2.2 he
theorem RF_ok {a e a' : Int} {s : Bool} (ha : In b a) (h : RF b a e = (s, a', 0)) : e = 0 ∧ In b a' ∧ b.take a'.toNat = b.take a.toNat ++ fB s := by
  unfold RF at h
  by_cases he : e = 0
  · rw [if_pos he] at h
    generalize hP : F (dr b a) = p at h
    obtain ⟨m, q, c⟩ := p
    simp only at h
    by_cases hc : c = 0
    · subst hc
      rw [if_pos rfl] at h
      simp only [Prod.mk.injEq, and_true] at h
      obtain ⟨rfl, rfl⟩ := h
      obtain ⟨hq, hle, hI⟩ := F_ok (dr_bytes hb a) hP
      have hd := dr_len ha
      refine ⟨he, ⟨by have := ha.1; omega, by omega⟩, ?_⟩
      rw [take_dr ha.1 hq, hI]
    · rw [if_neg hc] at h
      simp only [Prod.mk.injEq] at h
      exact absurd h.2.2 hc
  · rw [if_neg he] at h
    simp only [Prod.mk.injEq] at h
    exact absurd h.2.2 he
theorem RN_in {a e : Int} (ha : In b a) : In b (RN b a e).2.1 := by
  generalize h : RN b a e = r
  obtain ⟨n, a', c⟩ := r
  by_cases hc : c = 0
  · subst hc; exact (RN_ok hb ha h).2.1
  · have : a' = a := by
      unfold RN at h
      by_cases he : e = 0
      · rw [if_pos he] at h
        split at h
        · simp only [Prod.mk.injEq] at h; exact absurd h.2.2.symm hc
        · simp only [Prod.mk.injEq] at h; exact h.2.1.symm
      · rw [if_neg he] at h; simp only [Prod.mk.injEq] at h; exact h.2.1.symm
    subst this; exact ha
theorem RT_in {a e : Int} (ha : In b a) : In b (RT b a e).2.1 := by
  generalize h : RT b a e = r
  obtain ⟨n, a', c⟩ := r
  by_cases hc : c = 0
  · subst hc; exact (RT_ok hb ha h).2.1
  · have : a' = a := by
      unfold RT at h
      by_cases he : e = 0
      · rw [if_pos he] at h
        split at h
        · simp only [Prod.mk.injEq] at h; exact absurd h.2.2.symm hc
        · simp only [Prod.mk.injEq] at h; exact h.2.1.symm
      · rw [if_neg he] at h; simp only [Prod.mk.injEq] at h; exact h.2.1.symm
    subst this; exact ha
theorem RF_in {a e : Int} (ha : In b a) : In b (RF b a e).2.1 := by
  generalize h : RF b a e = r
  obtain ⟨n, a', c⟩ := r
  by_cases hc : c = 0
  · subst hc; exact (RF_ok hb ha h).2.1
  · have : a' = a := by
      unfold RF at h
      by_cases he : e = 0
      · rw [if_pos he] at h
        split at h
        · simp only [Prod.mk.injEq] at h; exact absurd h.2.2.symm hc
        · simp only [Prod.mk.injEq] at h; exact h.2.1.symm
      · rw [if_neg he] at h; simp only [Prod.mk.injEq] at h; exact h.2.1.symm
    subst this; exact ha
include hl
theorem num_ev {a e : Int} (ha : In b a) : Ev (fun k => record_reader_num.f k b a e) (RN b a e) := by
  unfold record_reader_num.f
  refine Ev.bind (a := RN b a e) ?_ (Ev.now _)
  unfold record_next_int64.f RN
  by_cases he : e = 0
  · subst he
    simp only [if_true, if_pos ha.1, if_pos ha.2]
    have hd := dr_len ha
    refine Ev.bind (int_ev (dr b a) (dr_bytes hb a) (by have := ha.1; omega)) ?_
    generalize hP : P (dr b a) = p
    obtain ⟨m, q, c⟩ := p
    simp only
    by_cases hc : c = 0
    · subst hc
      obtain ⟨_, hq, hle, _⟩ := P_ok (dr_bytes hb a) hP
      simp only [if_true]
      rw [wr1 (by have := ha.1; omega) (by have := ha.2; omega)]
      exact Ev.now _
    · simp only [if_neg hc]; exact Ev.now _
  · simp only [if_neg he]; exact Ev.now _
theorem txt_ev {a e : Int} (ha : In b a) : Ev (fun k => record_reader_text.f k b a e) (RT b a e) := by
  unfold record_reader_text.f
  refine Ev.bind (a := RT b a e) ?_ (Ev.now _)
  unfold record_next_string.f RT
  by_cases he : e = 0
  · subst he
    simp only [if_true, if_pos ha.1, if_pos ha.2]
    have hd := dr_len ha
    refine Ev.bind (text_ev (dr b a) (dr_bytes hb a) (by have := ha.1; omega)) ?_
    generalize hP : T (dr b a) = p
    obtain ⟨m, q, c⟩ := p
    simp only
    by_cases hc : c = 0
    · subst hc
      obtain ⟨hq, hle, _⟩ := T_ok (dr_bytes hb a) hP
      simp only [if_true]
      rw [wr1 (by have := ha.1; omega) (by have := ha.2; omega)]
      exact Ev.now _
    · simp only [if_neg hc]; exact Ev.now _
  · simp only [if_neg he]; exact Ev.now _
theorem flg_ev {a e : Int} (ha : In b a) : Ev (fun k => record_reader_flag.f k b a e) (RF b a e) := by
  unfold record_reader_flag.f
  refine Ev.bind (a := RF b a e) ?_ (Ev.now _)
  unfold record_next_bool.f RF
  by_cases he : e = 0
  · subst he
    simp only [if_true, if_pos ha.1, if_pos ha.2]
    have hd := dr_len ha
    refine Ev.bind (flag_ev (dr b a) (dr_bytes hb a) (by have := ha.1; omega)) ?_
    generalize hP : F (dr b a) = p
    obtain ⟨m, q, c⟩ := p
    simp only
    by_cases hc : c = 0
    · subst hc
      obtain ⟨hq, hle, _⟩ := F_ok (dr_bytes hb a) hP
      simp only [if_true]
      rw [wr1 (by have := ha.1; omega) (by have := ha.2; omega)]
      exact Ev.now _
    · simp only [if_neg hc]; exact Ev.now _
  · simp only [if_neg he]; exact Ev.now _
end
def RM (b : List Int) (a e most : Int) : Int × Int × Int :=
  if (RN b a e).2.2 = 0 then (if (RN b a e).1 < 0 ∨ (RN b a e).1 > most then (0, (RN b a e).2.1, 32) else ((RN b a e).1, (RN b a e).2.1, 0)) else (0, (RN b a e).2.1, (RN b a e).2.2)
def RW (b : List Int) (a e : Int) : S33 × Int × Int :=
  let x := RT b a e; let y := RF b x.2.1 x.2.2; let z := RT b y.2.1 y.2.2
  (⟨x.1, z.1, y.1⟩, z.2.1, if z.2.2 = 0 then wrE ⟨x.1, z.1, y.1⟩ else z.2.2)
def RP (b : List Int) (a e : Int) : S74 × Int × Int :=
  let x := RT b a e; let y := RT b x.2.1 x.2.2; let z := RN b y.2.1 y.2.2
  (⟨x.1, y.1, z.1⟩, z.2.1, z.2.2)
section
variable {b : List Int} (hb : Bytes b) (hl : b.length ≤ 140737488351232)
include hb hl
theorem many_ev {a e most : Int} (ha : In b a) : Ev (fun k => record_reader_many.f k b a e most) (RM b a e most) := by
  unfold record_reader_many.f RM
  refine Ev.bind (num_ev hb hl ha) ?_
  generalize RN b a e = r
  obtain ⟨n, a', c⟩ := r
  simp only
  have hj : ∀ (x : Bool), Ev (fun k => record_reader_many.j0 k n x b a' c) (if x = true then (0, a', 32) else if c = 0 then (n, a', c) else (0, a', c)) := by
    intro x
    refine Ev.step (fun k => by simp only [record_reader_many.j0]; rfl) ?_
    cases x with
    | true => simp only [if_true, if_neg (show ¬ (32 : Int) = 0 by decide)]; exact Ev.now _
    | false =>
      simp only [Bool.false_eq_true, if_false]
      by_cases hc : c = 0
      · simp only [if_pos hc]; exact Ev.now _
      · simp only [if_neg hc]; exact Ev.now _
  by_cases hc : c = 0
  · simp only [if_pos hc]
    by_cases h1 : n < 0
    · simp only [if_pos h1]
      rw [if_pos (.inl h1)]
      simpa only [if_true] using hj true
    · simp only [if_neg h1]
      have h2 := hj (decide (n > most))
      by_cases h3 : n > most
      · rw [decide_eq_true h3] at h2 ⊢
        rw [if_pos (.inr h3)]
        simpa only [if_true] using h2
      · rw [decide_eq_false h3] at h2 ⊢
        rw [if_neg (by omega)]
        subst hc
        simpa only [Bool.false_eq_true, if_false, if_true] using h2
  · simp only [if_neg hc]
    have h2 := hj false
    simpa only [Bool.false_eq_true, if_false, if_neg hc] using h2
theorem write_ev {a e : Int} (ha : In b a) : Ev (fun k => record_reader_write.f k b a e) ((RW b a e).1.f0, (RW b a e).1.f1, (RW b a e).1.f2, (RW b a e).2.1, (RW b a e).2.2) := by
  unfold record_reader_write.f RW
  refine Ev.bind (txt_ev hb hl ha) ?_
  have h1 := RT_in hb (e := e) ha
  refine Ev.bind (flg_ev hb hl h1) ?_
  have h2 := RF_in hb (e := (RT b a e).2.2) h1
  refine Ev.bind (txt_ev hb hl h2) ?_
  dsimp only
  generalize RT b (RF b (RT b a e).2.1 (RT b a e).2.2).2.1 (RF b (RT b a e).2.1 (RT b a e).2.2).2.2 = z
  by_cases hz : z.2.2 = 0
  · simp only [if_pos hz]
    exact Ev.bind (checkWrite_ev ⟨(RT b a e).1, z.1, (RF b (RT b a e).2.1 (RT b a e).2.2).1⟩) (Ev.now _)
  · simp only [if_neg hz]; exact Ev.now _
omit hl
theorem RM_in {a e most : Int} (ha : In b a) : In b (RM b a e most).2.1 := by
  have h := RN_in hb (e := e) ha
  unfold RM
  split
  · split <;> exact h
  · exact h
theorem RW_in {a e : Int} (ha : In b a) : In b (RW b a e).2.1 := RT_in hb (RF_in hb (RT_in hb ha))
theorem RP_in {a e : Int} (ha : In b a) : In b (RP b a e).2.1 := RN_in hb (RT_in hb (RT_in hb ha))
end
def At (b : List Int) (a : Int) (post : List Int) : Prop := In b a ∧ dr b a = post
theorem At.step {b : List Int} {a : Int} {x post : List Int} (h : At b a (x ++ post)) : At b (a + x.length) post := by
  obtain ⟨hi, hd⟩ := h
  have hn := dr_len hi
  rw [hd, List.length_append] at hn
  refine ⟨⟨by have := hi.1; omega, by omega⟩, ?_⟩
  rw [dr_dr hi.1 (by omega), hd]
  simp
end Go.Proofs.Ytkcdmoghnoodmaa.Rd
namespace Go.Proofs.Ytkcdmoghnoodmaa.Rd
open Go.RowKit Go.Proofs.Ytkcdmoghnoodmaa.B Go.Proofs.YtkcdmoghnoodmaaW.PrintWords Go.Proofs.YtkcdmoghnoodmaaW.PrintLast Go.Proofs.Ytkcdmoghnoodmaa.Lib Go.Proofs.Ytkcdmoghnoodmaa.Wr
open Go.Proofs.Ytkcdmoghnoodmaa.Cod (I i64 i64_of kw kw_le I_length Bytes P T F P_ok P_I)
set_option linter.unusedVariables false
set_option linter.unusedSimpArgs false

def WS (b : List Int) : Nat → Int → Int → List S33 → List S33 × Int × Int
  | 0, a, e, l => (l, a, e)
  | n + 1, a, e, l => WS b n (RW b a e).2.1 (RW b a e).2.2 (l ++ [(RW b a e).1])
def PS (b : List Int) : Nat → Int → Int → List S74 → List S74 × Int × Int
  | 0, a, e, l => (l, a, e)
  | n + 1, a, e, l => PS b n (RP b a e).2.1 (RP b a e).2.2 (l ++ [(RP b a e).1])
def endE (b : List Int) (a e c : Int) : Int := if e = 0 then (if a < (b.length : Int) then 13 else c) else e
def TC (b : List Int) : Int × List S33 × Int :=
  let x := RN b 0 0; let y := RM b x.2.1 x.2.2 64; let z := WS b y.1.toNat y.2.1 y.2.2 []
  let e := endE b z.2.1 z.2.2 (commitE x.1 z.1); if e = 0 then (x.1, z.1, 0) else (0, [], e)
def TK (b : List Int) : Int × List S74 × Bool × Int :=
  let x := RN b 0 0; let f := RF b x.2.1 x.2.2; let y := RM b f.2.1 f.2.2 16; let z := PS b y.1.toNat y.2.1 y.2.2 []
  let e := endE b z.2.1 z.2.2 (chunkE x.1 z.1); if e = 0 then (x.1, z.1, f.1, 0) else (0, [], false, e)
def RS (b : List Int) : Nat → Int → Int → List Int × Int × Int
  | 0, a, e => ([], a, e)
  | n + 1, a, e => let x := RN b a e; let r := RS b n x.2.1 x.2.2; (x.1 :: r.1, r.2.1, r.2.2)
section
variable {b : List Int} (hb : Bytes b) (hl : b.length ≤ 140737488351232)
include hb hl
theorem takeCommit_loop (n ts : Int) (hn : 0 ≤ n) (hn2 : n ≤ 1000) : ∀ (d m : Nat) (a e : Int) (l : List S33), ((m + d : Nat) : Int) = n → l.length ≤ m → In b a →
    Ev (fun k => record_TakeCommit.l0 k n (m : Int) b a e ts l) (if endE b (WS b d a e l).2.1 (WS b d a e l).2.2 (commitE ts (WS b d a e l).1) = 0 then (ts, (WS b d a e l).1, 0) else (0, [], endE b (WS b d a e l).2.1 (WS b d a e l).2.2 (commitE ts (WS b d a e l).1)))
  | 0, m, a, e, l, h, hm, ha => by
    refine Ev.step (fun k => by simp only [record_TakeCommit.l0]; rw [if_neg (by omega)]) ?_
    change Ev _ (if endE b a e (commitE ts l) = 0 then (ts, l, 0) else (0, [], endE b a e (commitE ts l)))
    refine Ev.bind (a := (endE b a e (commitE ts l), a, endE b a e (commitE ts l))) ?_ ?_
    · unfold record_reader_ends_commit.f endE
      by_cases he : e = 0
      · simp only [if_pos he]
        by_cases h1 : a < (b.length : Int)
        · simp only [if_pos h1, if_neg (show ¬ (13 : Int) = 0 by decide)]; exact Ev.now _
        · simp only [if_neg h1]
          exact Ev.bind (by unfold record_commit_check.f; exact Ev.bind (checkCommit_ev ts l) (Ev.now _)) (Ev.now _)
      · simp only [if_neg he]; exact Ev.now _
    · by_cases h0 : endE b a e (commitE ts l) = 0
      · simp only [if_pos h0]; exact Ev.now _
      · simp only [if_neg h0]; exact Ev.now _
  | d + 1, m, a, e, l, h, hm, ha => by
    have e1 : wrap64 ((m : Int) + 1) = ((m + 1 : Nat) : Int) := by rw [wr1 (by omega) (by omega)]; omega
    have ih := takeCommit_loop n ts hn hn2 d (m + 1) (RW b a e).2.1 (RW b a e).2.2 (l ++ [(RW b a e).1]) (by omega) (by simp; omega) (RW_in hb ha)
    refine Ev.step (fun k => by simp only [record_TakeCommit.l0]; rw [if_pos (by omega)]) ?_
    refine Ev.bind (write_ev hb hl ha) ?_
    simp only [if_pos (show l.length < 3518437208883 by omega), e1]
    exact ih
theorem takeCommit_ev : Ev (fun k => record_TakeCommit.f k b) (TC b) := by
  unfold record_TakeCommit.f record_reader_mk.f TC
  have h0 : In b 0 := ⟨Int.le_refl _, by omega⟩
  simp only [Option.bind_some]
  refine Ev.bind (num_ev hb hl h0) ?_
  have h1 := RN_in hb (e := 0) h0
  refine Ev.bind (many_ev hb hl h1) ?_
  have h2 := RM_in hb (e := (RN b 0 0).2.2) (most := 64) h1
  have hr : 0 ≤ (RM b (RN b 0 0).2.1 (RN b 0 0).2.2 64).1 ∧ (RM b (RN b 0 0).2.1 (RN b 0 0).2.2 64).1 ≤ 64 := by
    unfold RM
    split
    · split
      · constructor <;> (dsimp only; omega)
      · omega
    · constructor <;> (dsimp only; omega)
  exact takeCommit_loop hb hl _ _ hr.1 (by omega) _ 0 _ _ [] (by omega) (by simp) h2
theorem takeChunk_loop (n ts : Int) (fl : Bool) (hn : 0 ≤ n) (hn2 : n ≤ 1000) : ∀ (d m : Nat) (a e : Int) (l : List S74), ((m + d : Nat) : Int) = n → l.length ≤ m → In b a →
    Ev (fun k => record_TakeChunk.l0 k n (m : Int) b a e ts l fl) (if endE b (PS b d a e l).2.1 (PS b d a e l).2.2 (chunkE ts (PS b d a e l).1) = 0 then (ts, (PS b d a e l).1, fl, 0) else (0, [], false, endE b (PS b d a e l).2.1 (PS b d a e l).2.2 (chunkE ts (PS b d a e l).1)))
  | 0, m, a, e, l, h, hm, ha => by
    refine Ev.step (fun k => by simp only [record_TakeChunk.l0]; rw [if_neg (by omega)]) ?_
    change Ev _ (if endE b a e (chunkE ts l) = 0 then (ts, l, fl, 0) else (0, [], false, endE b a e (chunkE ts l)))
    refine Ev.bind (a := (endE b a e (chunkE ts l), a, endE b a e (chunkE ts l))) ?_ ?_
    · unfold record_reader_ends_chunk.f endE
      by_cases he : e = 0
      · simp only [if_pos he]
        by_cases h1 : a < (b.length : Int)
        · simp only [if_pos h1, if_neg (show ¬ (13 : Int) = 0 by decide)]; exact Ev.now _
        · simp only [if_neg h1]
          exact Ev.bind (by unfold record_chunk_check.f; exact Ev.bind (checkChunk_ev ts l fl) (Ev.now _)) (Ev.now _)
      · simp only [if_neg he]; exact Ev.now _
    · by_cases h0 : endE b a e (chunkE ts l) = 0
      · simp only [if_pos h0]; exact Ev.now _
      · simp only [if_neg h0]; exact Ev.now _
  | d + 1, m, a, e, l, h, hm, ha => by
    have e1 : wrap64 ((m : Int) + 1) = ((m + 1 : Nat) : Int) := by rw [wr1 (by omega) (by omega)]; omega
    have ih := takeChunk_loop n ts fl hn hn2 d (m + 1) (RP b a e).2.1 (RP b a e).2.2 (l ++ [(RP b a e).1]) (by omega) (by simp; omega) (RP_in hb ha)
    refine Ev.step (fun k => by simp only [record_TakeChunk.l0]; rw [if_pos (by omega)]) ?_
    refine Ev.bind (txt_ev hb hl ha) ?_
    refine Ev.bind (txt_ev hb hl (RT_in hb ha)) ?_
    refine Ev.bind (num_ev hb hl (RT_in hb (RT_in hb ha))) ?_
    simp only [if_pos (show l.length < 3518437208883 by omega), e1]
    exact ih
theorem takeChunk_ev : Ev (fun k => record_TakeChunk.f k b) (TK b) := by
  unfold record_TakeChunk.f record_reader_mk.f TK
  have h0 : In b 0 := ⟨Int.le_refl _, by omega⟩
  simp only [Option.bind_some]
  refine Ev.bind (num_ev hb hl h0) ?_
  have h1 := RN_in hb (e := 0) h0
  refine Ev.bind (flg_ev hb hl h1) ?_
  have h1b := RF_in hb (e := (RN b 0 0).2.2) h1
  refine Ev.bind (many_ev hb hl h1b) ?_
  have h2 := RM_in hb (e := (RF b (RN b 0 0).2.1 (RN b 0 0).2.2).2.2) (most := 16) h1b
  have hr : 0 ≤ (RM b (RF b (RN b 0 0).2.1 (RN b 0 0).2.2).2.1 (RF b (RN b 0 0).2.1 (RN b 0 0).2.2).2.2 16).1 ∧ (RM b (RF b (RN b 0 0).2.1 (RN b 0 0).2.2).2.1 (RF b (RN b 0 0).2.1 (RN b 0 0).2.2).2.2 16).1 ≤ 16 := by
    unfold RM
    split
    · split
      · constructor <;> (dsimp only; omega)
      · omega
    · constructor <;> (dsimp only; omega)
  exact takeChunk_loop hb hl _ _ _ hr.1 (by omega) _ 0 _ _ [] (by omega) (by simp) h2
def TM (b : List Int) : List Int × Int :=
  let r := RS b 8 0 0; let e := endE b r.2.1 r.2.2 (masterE (r.1.getD 0 0) (r.1.getD 1 0) (r.1.getD 2 0) (r.1.getD 3 0) (r.1.getD 4 0) (r.1.getD 5 0) (r.1.getD 6 0) (r.1.getD 7 0)); if e = 0 then (r.1, 0) else ([0, 0, 0, 0, 0, 0, 0, 0], e)
theorem takeMaster_ev : Ev (fun k => record_TakeMaster.f k b) ((TM b).1.getD 0 0, (TM b).1.getD 1 0, (TM b).1.getD 2 0, (TM b).1.getD 3 0, (TM b).1.getD 4 0, (TM b).1.getD 5 0, (TM b).1.getD 6 0, (TM b).1.getD 7 0, (TM b).2) := by
  unfold record_TakeMaster.f record_reader_mk.f TM
  have h0 : In b 0 := ⟨Int.le_refl _, by omega⟩
  simp only [Option.bind_some]
  refine Ev.bind (num_ev hb hl h0) ?_
  have h1 := RN_in hb (e := 0) h0
  refine Ev.bind (num_ev hb hl h1) ?_
  have h2 := RN_in hb (e := (RN b 0 0).2.2) h1
  refine Ev.bind (num_ev hb hl h2) ?_
  simp only [RS]
  obtain ⟨x0, e0⟩ : ∃ x, RN b 0 0 = x := ⟨_, rfl⟩
  rw [e0] at h1 h2
  simp only [e0]
  obtain ⟨x1, e1⟩ : ∃ x, RN b x0.2.1 x0.2.2 = x := ⟨_, rfl⟩
  rw [e1] at h2
  simp only [e1]
  have h3 := RN_in hb (e := x1.2.2) h2
  obtain ⟨x2, e2⟩ : ∃ x, RN b x1.2.1 x1.2.2 = x := ⟨_, rfl⟩
  rw [e2] at h3
  simp only [e2]
  refine Ev.bind (num_ev hb hl h3) ?_
  have h4 := RN_in hb (e := x2.2.2) h3
  obtain ⟨x3, e3⟩ : ∃ x, RN b x2.2.1 x2.2.2 = x := ⟨_, rfl⟩
  rw [e3] at h4
  simp only [e3]
  refine Ev.bind (num_ev hb hl h4) ?_
  have h5 := RN_in hb (e := x3.2.2) h4
  obtain ⟨x4, e4⟩ : ∃ x, RN b x3.2.1 x3.2.2 = x := ⟨_, rfl⟩
  rw [e4] at h5
  simp only [e4]
  refine Ev.bind (num_ev hb hl h5) ?_
  have h6 := RN_in hb (e := x4.2.2) h5
  obtain ⟨x5, e5⟩ : ∃ x, RN b x4.2.1 x4.2.2 = x := ⟨_, rfl⟩
  rw [e5] at h6
  simp only [e5]
  refine Ev.bind (num_ev hb hl h6) ?_
  have h7 := RN_in hb (e := x5.2.2) h6
  obtain ⟨x6, e6⟩ : ∃ x, RN b x5.2.1 x5.2.2 = x := ⟨_, rfl⟩
  rw [e6] at h7
  simp only [e6]
  refine Ev.bind (num_ev hb hl h7) ?_
  have h8 := RN_in hb (e := x6.2.2) h7
  obtain ⟨x7, e7⟩ : ∃ x, RN b x6.2.1 x6.2.2 = x := ⟨_, rfl⟩
  rw [e7] at h8
  simp only [e7]
  generalize hE : endE b x7.2.1 x7.2.2 (masterE x0.1 x1.1 x2.1 x3.1 x4.1 x5.1 x6.1 x7.1) = E
  have hends : record_reader_ends_master.f b x7.2.1 x7.2.2 x0.1 x1.1 x2.1 x3.1 x4.1 x5.1 x6.1 x7.1 = some (E, x7.2.1, E) := by
    rw [← hE]
    unfold record_reader_ends_master.f endE record_master_check.f
    simp only [checkMaster_eq, Option.bind_some]
    by_cases he : x7.2.2 = 0
    · simp only [if_pos he]
      by_cases h1 : x7.2.1 < (b.length : Int)
      · simp only [if_pos h1]; rfl
      · simp only [if_neg h1]
    · simp only [if_neg he]
  simp only [hends, Option.bind_some, List.getD_cons_zero, List.getD_cons_succ]
  rw [hE]
  by_cases hz : E = 0
  · subst hz; simp only [if_true]; exact Ev.now _
  · simp only [if_neg hz]; exact Ev.now _
end
theorem At.start (b : List Int) : At b 0 b := ⟨⟨Int.le_refl _, by omega⟩, rfl⟩
end Go.Proofs.Ytkcdmoghnoodmaa.Rd

import Derived.Test.YtmgbmnjjkcljhaaBx6
import Derived.Test.YtmgbmnjjkcljhaaBx5
import Derived.Lib.Strings
namespace Go.Proofs.Ytmgbmnjjkcljhaa.Lib
open Go.RowKit Go.Proofs.Ytmgbmnjjkcljhaa.B Go.Proofs.YtmgbmnjjkcljhaaW.PrintWords Go.Proofs.YtmgbmnjjkcljhaaW.PrintLast
set_option linter.unusedVariables false
set_option linter.unusedSimpArgs false

/-! ### the order of texts -/
abbrev bl := Op.bytesLess
theorem bl_asym (x y : List UInt8) : (bl x y || x == y) = !(bl y x) := Go.Proofs.YtmgbmnjjkcljhaaW.Mine.bl_asym x y
theorem bl_irrefl : ∀ x : List UInt8, bl x x = false
  | [] => rfl
  | a :: x => by
    have := bl_irrefl x
    simp [bl, Op.bytesLess] at this ⊢
    exact this
theorem bl_not {x y : List UInt8} (h : bl x y = true) : bl y x = false := by
  have := bl_asym x y
  rw [h] at this
  simpa using this.symm
theorem bl_tri {x y : List UInt8} (h : bl x y = false) (h2 : bl y x = false) : x = y := by
  have := bl_asym x y
  rw [h, h2] at this
  simpa using this
theorem bl_trans : ∀ {x y z : List UInt8}, bl x y = true → bl y z = true → bl x z = true
  | _, _, [], _, h => by simp [bl, Op.bytesLess] at h
  | _, [], _ :: _, h, _ => by simp [bl, Op.bytesLess] at h
  | [], _ :: _, _ :: _, _, _ => by simp [bl, Op.bytesLess]
  | a :: x, b :: y, c :: z, h, h2 => by
    simp only [bl, Op.bytesLess, Bool.or_eq_true, decide_eq_true_eq, Bool.and_eq_true, beq_iff_eq] at h h2 ⊢
    rcases h with h | ⟨rfl, h⟩ <;> rcases h2 with h2 | ⟨rfl, h2⟩
    · exact .inl (UInt8.lt_trans h h2)
    · exact .inl h
    · exact .inl h2
    · exact .inr ⟨rfl, bl_trans h h2⟩
/-- not above and below: below -/
theorem bl_le_lt {x y z : List UInt8} (h : bl y x = false) (h2 : bl y z = true) : bl x z = true := by
  cases h3 : bl x y with
  | true => exact bl_trans h3 h2
  | false => rw [bl_tri h3 h]; exact h2
theorem bl_lt_le {x y z : List UInt8} (h : bl x y = true) (h2 : bl z y = false) : bl x z = true := by
  cases h3 : bl y z with
  | true => exact bl_trans h h3
  | false => rw [← bl_tri h3 h2]; exact h
theorem bl_le_trans {x y z : List UInt8} (h : bl y x = false) (h2 : bl z y = false) : bl z x = false := by
  cases h3 : bl z x with
  | false => rfl
  | true => rw [bl_lt_le h3 h] at h2; cases h2
theorem bl_nil (x : List UInt8) : bl x [] = false := by cases x <;> rfl
theorem bl_nil_left {x : List UInt8} (h : x ≠ []) : bl [] x = true := by cases x <;> simp_all [bl, Op.bytesLess]
/-- a beginning is not above the whole -/
theorem bl_take : ∀ (x : List UInt8) (n : Nat), bl x (x.take n) = false
  | [], n => by simp [bl, Op.bytesLess]
  | a :: x, 0 => by simp [bl, Op.bytesLess]
  | a :: x, n + 1 => by
    have := bl_take x n
    simp [bl, Op.bytesLess] at this ⊢
    exact this
theorem bl_app : ∀ (x y : List UInt8), bl (x ++ y) x = false
  | [], y => by cases y <;> rfl
  | a :: x, y => by
    have := bl_app x y
    simp [bl, Op.bytesLess] at this ⊢
    exact this
theorem bl_app_pos : ∀ (x : List UInt8) {y : List UInt8}, y ≠ [] → bl x (x ++ y) = true
  | [], y, h => by simpa using bl_nil_left h
  | a :: x, y, h => by
    have := bl_app_pos x h
    simp [bl, Op.bytesLess] at this ⊢
    exact this

/-! ### texts -/
theorem toList_eq (s : ByteArray) : s.toList = s.data.toList := Go.Lib.toList_data s
theorem ext_toList (s : ByteArray) (n : Nat) : (s.extract 0 n).toList = s.toList.take n := by
  rw [toList_eq, toList_eq, Go.Lib.extract_data]
  simp
theorem len_toList (s : ByteArray) : s.toList.length = s.size := by
  rw [toList_eq]
  exact data_length s
theorem inj_toList {s t : ByteArray} (h : s.toList = t.toList) : s = t := by
  rw [toList_eq, toList_eq] at h
  cases s; cases t
  simp_all
theorem app_toList (s t : ByteArray) : (s ++ t).toList = s.toList ++ t.toList := by
  rw [toList_eq, toList_eq, toList_eq]
  simp
theorem lit_toList (l : List UInt8) : (⟨l.toArray⟩ : ByteArray).toList = l := by rw [toList_eq]
theorem ext_size (s : ByteArray) (n : Nat) (h : n ≤ s.size) : (s.extract 0 n).size = n := by
  rw [← len_toList, ext_toList, List.length_take, len_toList]
  omega
theorem ext_all (s : ByteArray) : s.extract 0 s.size = s := by
  apply inj_toList
  rw [ext_toList, ← len_toList, List.take_length]
theorem wr1 {x : Int} (h0 : -9223372036854775808 ≤ x) (h : x ≤ 9223372036854775807) : wrap64 x = x := by
  unfold wrap64
  omega
theorem bt_eq (s : ByteArray) (i : Nat) (h : i < s.size) : bt s (i : Int) = ((s.toList[i]'(by rw [len_toList]; exact h)).toNat : Int) := by
  unfold bt
  rw [dif_pos (by simpa using h)]
  congr 2
  simp [toList_eq]
  rfl

/-! ### keys.Separator -/
def inn (lo hi s : List UInt8) : Bool := !(bl s lo) && (hi.isEmpty || bl s hi)
theorem in_eq (lo hi s : ByteArray) : keys_In.f lo hi s = some (inn lo.toList hi.toList s.toList) := by
  unfold keys_In.f inn
  by_cases h : Op.bytesLess s.toList lo.toList = true
  · simp [h]
  · by_cases h2 : hi.toList = []
    · simp [h, h2]
    · simp [h, h2]
theorem next_eq (s : ByteArray) (h : s.size ≤ 9223372036854775800) : keys_Next.f s = some (s ++ ⟨#[0]⟩) := by
  unfold keys_Next.f
  rw [if_pos (by omega)]
/-- a text cut behind its last byte that is not 255, that byte being one more -/
def up : List UInt8 → List UInt8
  | [] => []
  | a :: l => if up l ≠ [] then a :: up l else if a = 255 then [] else [a + 1]
theorem up_255 : ∀ l : List UInt8, up (l ++ [255]) = up l
  | [] => by decide
  | a :: l => by
    have := up_255 l
    simp only [List.cons_append, up, this]
theorem up_other {c : UInt8} (h : c ≠ 255) : ∀ l : List UInt8, up (l ++ [c]) = l ++ [c + 1]
  | [] => by simp [up, h]
  | a :: l => by
    have := up_other h l
    simp only [List.cons_append, up, this]
    simp
theorem u8_succ {a : UInt8} (h : a ≠ 255) : (a + 1).toNat = a.toNat + 1 := by
  have h1 : a.toNat < 256 := a.toNat_lt
  have h2 : a.toNat ≠ 255 := fun e => h (UInt8.toNat_inj.1 (by simpa using e))
  rw [UInt8.toNat_add]
  simp
  omega
theorem inn_up : ∀ s key : List UInt8, inn s (up s) key = s.isPrefixOf key
  | [], key => by simp [inn, up, bl_nil]
  | a :: s, [] => by simp [inn, bl, Op.bytesLess]
  | a :: s, b :: key => by
    have ih := inn_up s key
    rcases Nat.lt_trichotomy b.toNat a.toNat with h | h | h
    · have h1 : b < a := UInt8.lt_iff_toNat_lt.2 h
      have h2 : ¬ a = b := fun e => by subst e; omega
      simp [inn, bl, Op.bytesLess, h1, List.isPrefixOf, h2]
    · have h1 := UInt8.toNat_inj.1 h
      subst h1
      have h2 : ¬ b < b := fun e => by have := UInt8.lt_iff_toNat_lt.1 e; omega
      by_cases hu : up s = []
      · by_cases h255 : b = 255
        · simp [inn, up, hu, h255] at ih ⊢
          simp [bl, Op.bytesLess, List.isPrefixOf] at ih ⊢
          exact ih
        · have h3 : b < b + 1 := UInt8.lt_iff_toNat_lt.2 (by rw [u8_succ h255]; omega)
          simp [inn, up, hu, h255] at ih ⊢
          simp [bl, Op.bytesLess, List.isPrefixOf, h3] at ih ⊢
          exact ih
      · have hu2 : (up s).isEmpty = false := by simpa using hu
        simp [inn, up, hu, hu2] at ih ⊢
        simp [bl, Op.bytesLess, List.isPrefixOf] at ih ⊢
        exact ih
    · have h1 : ¬ b < a := fun e => by have := UInt8.lt_iff_toNat_lt.1 e; omega
      have h2 : ¬ a = b := fun e => by subst e; omega
      have h2' : ¬ b = a := fun e => h2 e.symm
      have h255 : a ≠ 255 := fun e => by
        subst e
        have := b.toNat_lt
        have e2 : (255 : UInt8).toNat = 255 := rfl
        omega
      have h3 : ¬ b < a + 1 := fun e => by have := UInt8.lt_iff_toNat_lt.1 e; rw [u8_succ h255] at this; omega
      by_cases hu : up s = []
      · simp [inn, up, hu, h255, bl, Op.bytesLess, List.isPrefixOf, h1, h2, h2', h3]
      · have hb : (b == a) = false := by simpa using h2'
        have hb2 : (a == b) = false := by simpa using h2
        simp [inn, up, hu, h255, bl, Op.bytesLess, List.isPrefixOf, h1, hb, hb2]
def upS (s : ByteArray) : Nat → ByteArray
  | 0 => ⟨#[]⟩
  | n + 1 => if bt s (n : Int) = 255 then upS s n else s.extract 0 n ++ strOfNums [(bt s (n : Int) + 1) % 256]
theorem upS_eq (s : ByteArray) : ∀ n, n ≤ s.size → (upS s n).toList = up (s.toList.take n)
  | 0, _ => by
    rw [List.take_zero]
    exact toList_eq _
  | n + 1, h => by
    have ih := upS_eq s n (by omega)
    have hl : n < s.toList.length := by rw [len_toList]; omega
    have hb := bt_eq s n (by omega)
    rw [List.take_succ_eq_append_getElem hl, upS]
    by_cases hc : bt s (n : Int) = 255
    · rw [if_pos hc, ih]
      rw [hb] at hc
      have : s.toList[n] = 255 := UInt8.toNat_inj.1 (Int.ofNat.inj hc)
      rw [this, up_255]
    · rw [if_neg hc]
      have h2 : s.toList[n] ≠ 255 := fun e => hc (by rw [hb, e]; rfl)
      rw [up_other h2, app_toList, ext_toList]
      congr 1
      rw [toList_eq, strOfNums_data, hb]
      have h3 := u8_succ h2
      simp only [List.map_cons, List.map_nil, List.cons.injEq, and_true]
      apply UInt8.toNat_inj.1
      rw [h3]
      have h4 : (s.toList[n]).toNat < 256 := UInt8.toNat_lt _
      have h5 : (s.toList[n]).toNat ≠ 255 := fun e => h2 (UInt8.toNat_inj.1 (by simpa using e))
      have h6 : ((((s.toList[n]).toNat : Int) + 1) % 256).toNat = (s.toList[n]).toNat + 1 := by omega
      rw [h6]
      simp
      omega
theorem up_loop (s : ByteArray) (hs : s.size ≤ 9223372036854775800) : ∀ n, n ≤ s.size → Ev (fun k => keys_up.l0 k s ((n : Int) - 1)) (upS s n)
  | 0, _ => by
    refine Ev.step (f := fun _ => some (⟨#[]⟩)) (fun k => ?_) (Ev.now _)
    simp only [keys_up.l0]
    rw [if_neg (by omega)]
  | n + 1, h => by
    have ih := up_loop s hs n (by omega)
    have e : ((n + 1 : Nat) : Int) - 1 = (n : Int) := by omega
    rw [e]
    refine Ev.step (f := fun k => if bt s (n : Int) = 255 then keys_up.l0 k s ((n : Int) - 1) else some (s.extract 0 n ++ strOfNums [(bt s (n : Int) + 1) % 256])) (fun k => ?_) ?_
    · simp only [keys_up.l0]
      rw [if_pos (by omega), if_pos (by omega), if_pos (by omega), wr1 (by omega) (by omega)]
      by_cases hc : bt s (n : Int) = 255
      · rw [if_pos hc, if_pos hc]
      · rw [if_neg hc, if_neg hc, if_pos (by omega)]
        simp only [Option.bind_some]
        rw [if_pos (by rw [strOfNums_size]; simp; omega), Int.toNat_natCast]
    · by_cases hc : bt s (n : Int) = 255
      · simp only [upS, hc, if_true]
        exact ih
      · simp only [upS, hc]
        exact Ev.now _
theorem prefix_ev (s : ByteArray) (hs : s.size ≤ 9223372036854775800) : Ev (fun k => keys_Prefix.f k s) (s, upS s s.size) := by
  unfold keys_Prefix.f keys_up.f
  rw [wr1 (by omega) (by omega)]
  exact Ev.bind (up_loop s hs s.size (Nat.le_refl _)) (Ev.now _)
theorem upS_all (s : ByteArray) : (upS s s.size).toList = up s.toList := by
  rw [upS_eq s _ (Nat.le_refl _), ← len_toList, List.take_length]
theorem live_ev : Ev (fun k => cressetlaw05_live.f k) true := Ev.of cressetlaw05_live.mono (k := 10) (by decide +kernel)
end Go.Proofs.Ytmgbmnjjkcljhaa.Lib

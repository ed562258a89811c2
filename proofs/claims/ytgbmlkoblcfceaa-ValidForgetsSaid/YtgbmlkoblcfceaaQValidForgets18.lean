/-
The law ValidForgets holds of the given program, for every input that the statement speaks of: its row, out of its pure statement and the walk.
-/
import Derived.Test.YtgbmlkoblcfceaaRows
import Derived.Test.YtgbmlkoblcfceaaQValidForgets1
import Derived.Test.YtgbmlkoblcfceaaQValidForgets3
import Derived.Test.YtgbmlkoblcfceaaQValidForgets4
import Derived.Test.YtgbmlkoblcfceaaQValidForgets17
import Derived.WalkKit
import Derived.ProofKit
import Derived.OpenShut
import Derived.ShutString
import Derived.ChangeOld
import Derived.Below
import Derived.SizedLaws
import Derived.JoinedCond
import Derived.Deep.CondSized
namespace Go.Proofs.Ytgbmlkoblcfceaa.validForgets
open Go.ChangeShapes Go.WideShapes Go.ChangeAt Go.RowKit Go.Proofs.Ytgbmlkoblcfceaa.Opn Go.Proofs.Ytgbmlkoblcfceaa.B
open Go.ChangeMaps (open_string shut_string)
set_option linter.unusedVariables false
set_option linter.unusedSimpArgs false
theorem own : ownKnob Try.prog.godebug = none := by kernel_rfl
theorem laidOut : laidOutB Try.prog = true := by kernel_rfl
set_option maxRecDepth 100000 in
theorem lifted (os : Os) (started : os.Started) (H : Type) (enc : TypeId × Value → H) :
    ReturnsInHanded {} Try.checked os 7 .any (Rows.validForgetsSpec.pre6 enc Try.prog Try.f7 Rows.validForgetsRow.domain false) (Rows.validForgetsSpec.post enc Try.prog Try.f7 false true false false) := by
  refine returnsInHanded_of_change_sized (C := Try.checked) own started (by kernel_rfl) Try.func7
    (ChangeSpec.witness6 (enc := enc) (C := Try.checked) false ⟨#[], #[.slice none 0 0, .agg #[.int .i64 0, .int .i64 0, .int .i64 0, .slice none 0 0, .slice none 0 0, .slice none 0 0], .int .i64 0], []⟩ 8 (by kernel_rfl) (by kernel_rfl) (by kernel_rfl) (by kernel_rfl)) ?_
  intro W base args ds gs before hval0 hW hcnd hsz0 _
  have hsz : (DataW.weightsEach Try.prog (Try.f7.params.toList ++ Rows.validForgetsSpec.plain.varTypes Try.prog) (ds ++ gs)).all (· ≤ reachBytes) = true := hsz0
  have hval : ∀ (j : Nat) t v, Try.f7.params[j]? = some t → args[j]? = some v → Value.okWide Try.prog W .any base t v := hval0
  have hW' := hW
  obtain ⟨p, q, hA0, hV, rfl, hfz, hnd⟩ := hW
  have hA : DataW.TrodAll enc Try.prog W 0 (fun _ => true) true Try.f7.params.toList args.toList ds p := hA0
  rw [Try.params7] at hA hval hsz
  obtain ⟨v0, vs0, d0, ds0, p0, q0, hargs, rfl, rfl, h0, r0⟩ := trodAll_cons hA
  obtain ⟨v1, vs1, d1, ds1, p1, q1, rfl, rfl, rfl, h1, r1⟩ := trodAll_cons r0
  obtain ⟨v2, vs2, d2, ds2, p2, q2, rfl, rfl, rfl, h2, r2⟩ := trodAll_cons r1
  obtain ⟨rfl, rfl, rfl⟩ := trodAll_nil r2
  obtain rfl : args = #[v0, v1, v2] := by cases args; simp_all
  obtain ⟨rfl, rfl⟩ := trodVars_none hV
  have lt0 := trod_lt h0
  have k0 := h0
  obtain ⟨A0, c0, l0, rfl, hc0, hr0, w0, u0⟩ := arg_slice (opn_slice (t := 22) (B := 96) (opn28) Try.underlying22 (by kernel_rfl) (by kernel_rfl)) Try.underlying22 (hval 0 22 v0 rfl rfl) h0 (weigh hsz (j := 0) (t := 22) rfl rfl)
  have b0 : ((l0.map bulk28).sum + 1) ≤ Rows.uptoBulk d0 := u0
  have lt1 := trod_lt h1
  have k1 := h1
  obtain ⟨cs1, x1, rfl, K1, ok1_, u1⟩ := arg_struct (opn28) Try.underlying28 (hval 1 28 v1 rfl rfl) h1 (weigh hsz (j := 1) (t := 28) rfl rfl)
  obtain ⟨w1_0, w1_1, w1_2, ⟨w1_3, w1_4⟩, w1_5⟩ := ok1_
  obtain ⟨A1_3, c1_3, A1_4, c1_4, A1_5, c1_5, hcs1, hc1_3, hr1_3, hc1_4, hr1_4, hc1_5, hr1_5⟩ := k28_open K1
  obtain rfl : cs1 = #[.int .i64 x1.f0, .int .i64 x1.f1, .int .i64 x1.f2, .slice A1_3 x1.f3.f0.length c1_3, .slice A1_4 x1.f3.f1.length c1_4, .slice A1_5 x1.f4.length c1_5] := by apply Array.toList_inj.1; exact hcs1
  generalize hg1_0 : x1.f0 = a1_0 at *
  generalize hg1_1 : x1.f1 = a1_1 at *
  generalize hg1_2 : x1.f2 = a1_2 at *
  generalize hg1_3 : x1.f3.f0 = l1_3 at *
  generalize hg1_4 : x1.f3.f1 = l1_4 at *
  generalize hg1_5 : x1.f4 = l1_5 at *
  have lt2 := trod_lt h2
  have k2 := h2
  obtain ⟨a2, rfl, rfl, rfl, w2⟩ := open_int Try.underlying2 (hval 2 2 v2 rfl rfl) h2
  have b2 : 1 ≤ Rows.uptoBulk (DataW.lit (H := H) (.int .i64 a2)) := by simp [Rows.uptoBulk]
  clear hA0 hval0 hsz0 hsz
  refine (B.cressetlaw23_ValidForgets.walk Pure.ValidForgets A0 c0 l0 a1_0 a1_1 a1_2 A1_3 c1_3 l1_3 A1_4 c1_4 l1_4 A1_5 c1_5 l1_5 a2 W hr0 hc0 hr1_3 hc1_3 hr1_4 hc1_4 hr1_5 hc1_5 w0 w1_0 w1_1 w1_2 w1_3 w1_4 w1_5 w2).mono fun e W' ⟨he, bel⟩ => ?_
  subst he
  exact ⟨_, rfl, _, _, _, [], _, [], hW', trodAll_mk1 (shut_bool Try.underlying4 _), (trodAll_cons_mk (Below.trod laidOut (by kernel_rfl) (of_decide_eq_true (by kernel_rfl)) k0 bel lt0) (trodAll_cons_mk (Below.trod laidOut (by kernel_rfl) (of_decide_eq_true (by kernel_rfl)) k1 bel lt1) (trodAll_cons_mk (Below.trod laidOut (by kernel_rfl) (of_decide_eq_true (by kernel_rfl)) k2 bel lt2) trodAll_mk0))), rfl, bel.frame _, fun h => by cases h⟩
theorem over : Rows.validForgetsRow.holds Try.pinned (OpenSpec.ofChange Rows.validForgetsSpec) :=
  OpenClaim.holds_of_wide 7 Try.f7 rfl rfl rfl rfl rfl rfl rfl ⟨rfl, rfl, rfl, rfl, rfl⟩ rfl rfl rfl rfl rfl (by kernel_rfl) Try.func7 (by kernel_rfl)
    (of_decide_eq_true (by kernel_rfl)) (by unfold Func.isWrapper; first | (rw [if_pos (by decide +kernel)]; kernel_rfl) | (rw [if_neg (by decide +kernel)]; exact ⟨rfl, rfl⟩))
    (fun os started H enc _ => lifted os started H enc)
theorem proved : Rows.ValidForgetsSaid := over
#print axioms proved
end Go.Proofs.Ytgbmlkoblcfceaa.validForgets
namespace Go.Proofs.Ytgbmlkoblcfceaa
/-- The row, under a short name, for the claim. -/
theorem validForgets_holds : Rows.ValidForgetsSaid := validForgets.proved
end Go.Proofs.Ytgbmlkoblcfceaa

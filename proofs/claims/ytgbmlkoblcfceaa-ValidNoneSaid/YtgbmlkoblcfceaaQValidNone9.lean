/-
The law ValidNone holds of the given program, for every input that the statement speaks of: its row, out of its pure statement and the walk.
-/
import Derived.Test.YtgbmlkoblcfceaaRows
import Derived.Test.YtgbmlkoblcfceaaQValidNone1
import Derived.Test.YtgbmlkoblcfceaaQValidNone4
import Derived.Test.YtgbmlkoblcfceaaQValidNone8
import Derived.WalkKit
import Derived.ProofKit
import Derived.OpenShut
import Derived.ShutString
import Derived.ChangeOld
import Derived.Below
import Derived.SizedLaws
import Derived.JoinedCond
import Derived.Deep.CondSized
namespace Go.Proofs.Ytgbmlkoblcfceaa.validNone
open Go.ChangeShapes Go.WideShapes Go.ChangeAt Go.RowKit Go.Proofs.Ytgbmlkoblcfceaa.Opn Go.Proofs.Ytgbmlkoblcfceaa.B
open Go.ChangeMaps (open_string shut_string)
set_option linter.unusedVariables false
set_option linter.unusedSimpArgs false
open Go.Proofs.Ytgbmlkoblcfceaa.Opn Go.Proofs.YtgbmlkoblcfceaaW.PrintWords
theorem own : ownKnob Try.prog.godebug = none := by kernel_rfl
theorem laidOut : laidOutB Try.prog = true := by kernel_rfl
set_option maxRecDepth 100000 in
theorem lifted (os : Os) (started : os.Started) (H : Type) (enc : TypeId × Value → H) :
    ReturnsInHanded {} Try.checked os 9 .any (Rows.validNoneSpec.pre6 enc Try.prog Try.f9 Rows.validNoneRow.domain false) (Rows.validNoneSpec.post enc Try.prog Try.f9 false true false false) := by
  refine returnsInHanded_of_change_sized (C := Try.checked) own started (by kernel_rfl) Try.func9
    (ChangeSpec.witness6 (enc := enc) (C := Try.checked) false ⟨#[], #[.agg #[.int .i64 0, .int .i64 0, .int .i64 0, .slice none 0 0, .slice none 0 0, .slice none 0 0]], []⟩ 8 (by kernel_rfl) (by kernel_rfl) (by kernel_rfl) (by kernel_rfl)) ?_
  intro W base args ds gs before hval0 hW hcnd hsz0 _
  have hsz : (DataW.weightsEach Try.prog (Try.f9.params.toList ++ Rows.validNoneSpec.plain.varTypes Try.prog) (ds ++ gs)).all (· ≤ reachBytes) = true := hsz0
  have hval : ∀ (j : Nat) t v, Try.f9.params[j]? = some t → args[j]? = some v → Value.okWide Try.prog W .any base t v := hval0
  have hW' := hW
  obtain ⟨p, q, hA0, hV, rfl, hfz, hnd⟩ := hW
  have hA : DataW.TrodAll enc Try.prog W 0 (fun _ => true) true Try.f9.params.toList args.toList ds p := hA0
  rw [Try.params9] at hA hval hsz
  obtain ⟨v0, vs0, d0, ds0, p0, q0, hargs, rfl, rfl, h0, r0⟩ := trodAll_cons hA
  obtain ⟨rfl, rfl, rfl⟩ := trodAll_nil r0
  obtain rfl : args = #[v0] := by cases args; simp_all
  obtain ⟨rfl, rfl⟩ := trodVars_none hV
  have lt0 := trod_lt h0
  have k0 := h0
  obtain ⟨cs0, x0, rfl, K0, ok0_, u0⟩ := arg_struct (opn28) Try.underlying28 (hval 0 28 v0 rfl rfl) h0 (weigh hsz (j := 0) (t := 28) rfl rfl)
  obtain ⟨A3, c3, A4, c4, A5, c5, hcs0, _, _, _, _, _, _⟩ := k28_open K0
  obtain rfl : cs0 = #[.int .i64 x0.f0, .int .i64 x0.f1, .int .i64 x0.f2, .slice A3 x0.f3.f0.length c3, .slice A4 x0.f3.f1.length c4, .slice A5 x0.f4.length c5] := by apply Array.toList_inj.1; exact hcs0
  clear hA0 hval0 hsz0 hsz
  refine (Vn.validNone_calls W x0.f0 x0.f1 x0.f2 A3 x0.f3.f0.length c3 A4 x0.f3.f1.length c4 A5 x0.f4.length c5).mono fun e W' ⟨he, bel⟩ => ?_
  subst he
  exact ⟨_, rfl, _, _, _, [], _, [], hW', trodAll_mk1 (shut_bool Try.underlying4 _), (trodAll_cons_mk (Below.trod laidOut (by kernel_rfl) (of_decide_eq_true (by kernel_rfl)) k0 bel lt0) trodAll_mk0), rfl, bel.frame _, fun h => by cases h⟩
theorem over : Rows.validNoneRow.holds Try.pinned (OpenSpec.ofChange Rows.validNoneSpec) :=
  OpenClaim.holds_of_wide 9 Try.f9 rfl rfl rfl rfl rfl rfl rfl ⟨rfl, rfl, rfl, rfl, rfl⟩ rfl rfl rfl rfl rfl (by kernel_rfl) Try.func9 (by kernel_rfl)
    (of_decide_eq_true (by kernel_rfl)) (by unfold Func.isWrapper; first | (rw [if_pos (by decide +kernel)]; kernel_rfl) | (rw [if_neg (by decide +kernel)]; exact ⟨rfl, rfl⟩))
    (fun os started H enc _ => lifted os started H enc)
theorem proved : Rows.ValidNoneSaid := over
#print axioms proved
end Go.Proofs.Ytgbmlkoblcfceaa.validNone
namespace Go.Proofs.Ytgbmlkoblcfceaa
/-- The row, under a short name, for the claim. -/
theorem validNone_holds : Rows.ValidNoneSaid := validNone.proved
end Go.Proofs.Ytgbmlkoblcfceaa

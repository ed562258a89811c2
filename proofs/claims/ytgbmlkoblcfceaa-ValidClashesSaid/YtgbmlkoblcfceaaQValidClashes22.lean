/-
The law ValidClashes holds of the given program, for every input that the statement speaks of: its row, out of its pure statement and the walk.
-/
import Derived.Test.YtgbmlkoblcfceaaRows
import Derived.Test.YtgbmlkoblcfceaaQValidClashes1
import Derived.Test.YtgbmlkoblcfceaaQValidClashes7
import Derived.Test.YtgbmlkoblcfceaaQValidClashes21
import Derived.WalkKit
import Derived.ProofKit
import Derived.OpenShut
import Derived.ShutString
import Derived.ChangeOld
import Derived.Below
import Derived.SizedLaws
import Derived.JoinedCond
import Derived.Deep.CondSized
namespace Go.Proofs.Ytgbmlkoblcfceaa.validClashes
open Go.ChangeShapes Go.WideShapes Go.ChangeAt Go.RowKit Go.Proofs.Ytgbmlkoblcfceaa.Opn Go.Proofs.Ytgbmlkoblcfceaa.B
open Go.ChangeMaps (open_string shut_string)
set_option linter.unusedVariables false
set_option linter.unusedSimpArgs false
theorem own : ownKnob Try.prog.godebug = none := by kernel_rfl
theorem laidOut : laidOutB Try.prog = true := by kernel_rfl
set_option maxRecDepth 100000 in
theorem lifted (os : Os) (started : os.Started) (H : Type) (enc : TypeId × Value → H) :
    ReturnsInHanded {} Try.checked os 5 .any (Rows.validClashesSpec.pre6 enc Try.prog Try.f5 Rows.validClashesRow.domain false) (Rows.validClashesSpec.post enc Try.prog Try.f5 false true false false) := by
  refine returnsInHanded_of_change_sized (C := Try.checked) own started (by kernel_rfl) Try.func5
    (ChangeSpec.witness6 (enc := enc) (C := Try.checked) false ⟨#[], #[.agg #[.int .i64 0, .int .i64 0, .int .i64 0, .slice none 0 0, .slice none 0 0, .slice none 0 0], .slice none 0 0, .slice none 0 0], []⟩ 8 (by kernel_rfl) (by kernel_rfl) (by kernel_rfl) (by kernel_rfl)) ?_
  intro W base args ds gs before hval0 hW hcnd hsz0 _
  have hsz : (DataW.weightsEach Try.prog (Try.f5.params.toList ++ Rows.validClashesSpec.plain.varTypes Try.prog) (ds ++ gs)).all (· ≤ reachBytes) = true := hsz0
  have hval : ∀ (j : Nat) t v, Try.f5.params[j]? = some t → args[j]? = some v → Value.okWide Try.prog W .any base t v := hval0
  have hW' := hW
  obtain ⟨p, q, hA0, hV, rfl, hfz, hnd⟩ := hW
  have hA : DataW.TrodAll enc Try.prog W 0 (fun _ => true) true Try.f5.params.toList args.toList ds p := hA0
  rw [Try.params5] at hA hval hsz
  obtain ⟨v0, vs0, d0, ds0, p0, q0, hargs, rfl, rfl, h0, r0⟩ := trodAll_cons hA
  obtain ⟨v1, vs1, d1, ds1, p1, q1, rfl, rfl, rfl, h1, r1⟩ := trodAll_cons r0
  obtain ⟨v2, vs2, d2, ds2, p2, q2, rfl, rfl, rfl, h2, r2⟩ := trodAll_cons r1
  obtain ⟨rfl, rfl, rfl⟩ := trodAll_nil r2
  obtain rfl : args = #[v0, v1, v2] := by cases args; simp_all
  obtain ⟨rfl, rfl⟩ := trodVars_none hV
  have lt0 := trod_lt h0
  have k0 := h0
  obtain ⟨cs0, x0, rfl, K0, ok0_, u0⟩ := arg_struct (opn28) Try.underlying28 (hval 0 28 v0 rfl rfl) h0 (weigh hsz (j := 0) (t := 28) rfl rfl)
  obtain ⟨w0_0, w0_1, w0_2, ⟨w0_3, w0_4⟩, w0_5⟩ := ok0_
  obtain ⟨A0_3, c0_3, A0_4, c0_4, A0_5, c0_5, hcs0, hc0_3, hr0_3, hc0_4, hr0_4, hc0_5, hr0_5⟩ := k28_open K0
  obtain rfl : cs0 = #[.int .i64 x0.f0, .int .i64 x0.f1, .int .i64 x0.f2, .slice A0_3 x0.f3.f0.length c0_3, .slice A0_4 x0.f3.f1.length c0_4, .slice A0_5 x0.f4.length c0_5] := by apply Array.toList_inj.1; exact hcs0
  generalize hg0_0 : x0.f0 = a0_0 at *
  generalize hg0_1 : x0.f1 = a0_1 at *
  generalize hg0_2 : x0.f2 = a0_2 at *
  generalize hg0_3 : x0.f3.f0 = l0_3 at *
  generalize hg0_4 : x0.f3.f1 = l0_4 at *
  generalize hg0_5 : x0.f4 = l0_5 at *
  have lt1 := trod_lt h1
  have k1 := h1
  obtain ⟨A1, c1, l1, rfl, hc1, hr1, w1, u1⟩ := arg_slice (opn_slice (t := 23) (B := 16) (opn_string (t := 9) Try.underlying9 (by kernel_rfl)) Try.underlying23 (by kernel_rfl) (by kernel_rfl)) Try.underlying23 (hval 1 23 v1 rfl rfl) h1 (weigh hsz (j := 1) (t := 23) rfl rfl)
  have b1 : ((l1.map (fun s_ => s_.size + 1)).sum + 1) ≤ Rows.uptoBulk d1 := u1
  have lt2 := trod_lt h2
  have k2 := h2
  obtain ⟨A2, c2, l2, rfl, hc2, hr2, w2, u2⟩ := arg_slice (opn_slice (t := 39) (B := 40) (opn72) Try.underlying39 (by kernel_rfl) (by kernel_rfl)) Try.underlying39 (hval 2 39 v2 rfl rfl) h2 (weigh hsz (j := 2) (t := 39) rfl rfl)
  have b2 : ((l2.map bulk72).sum + 1) ≤ Rows.uptoBulk d2 := u2
  clear hA0 hval0 hsz0 hsz
  refine (B.cressetlaw23_ValidClashes.walk Pure.ValidClashes a0_0 a0_1 a0_2 A0_3 c0_3 l0_3 A0_4 c0_4 l0_4 A0_5 c0_5 l0_5 A1 c1 l1 A2 c2 l2 W hr0_3 hc0_3 hr0_4 hc0_4 hr0_5 hc0_5 hr1 hc1 hr2 hc2 w0_0 w0_1 w0_2 w0_3 w0_4 w0_5 w1 w2).mono fun e W' ⟨he, bel⟩ => ?_
  subst he
  exact ⟨_, rfl, _, _, _, [], _, [], hW', trodAll_mk1 (shut_bool Try.underlying4 _), (trodAll_cons_mk (Below.trod laidOut (by kernel_rfl) (of_decide_eq_true (by kernel_rfl)) k0 bel lt0) (trodAll_cons_mk (Below.trod laidOut (by kernel_rfl) (of_decide_eq_true (by kernel_rfl)) k1 bel lt1) (trodAll_cons_mk (Below.trod laidOut (by kernel_rfl) (of_decide_eq_true (by kernel_rfl)) k2 bel lt2) trodAll_mk0))), rfl, bel.frame _, fun h => by cases h⟩
theorem over : Rows.validClashesRow.holds Try.pinned (OpenSpec.ofChange Rows.validClashesSpec) :=
  OpenClaim.holds_of_wide 5 Try.f5 rfl rfl rfl rfl rfl rfl rfl ⟨rfl, rfl, rfl, rfl, rfl⟩ rfl rfl rfl rfl rfl (by kernel_rfl) Try.func5 (by kernel_rfl)
    (of_decide_eq_true (by kernel_rfl)) (by unfold Func.isWrapper; first | (rw [if_pos (by decide +kernel)]; kernel_rfl) | (rw [if_neg (by decide +kernel)]; exact ⟨rfl, rfl⟩))
    (fun os started H enc _ => lifted os started H enc)
theorem proved : Rows.ValidClashesSaid := over
#print axioms proved
end Go.Proofs.Ytgbmlkoblcfceaa.validClashes
namespace Go.Proofs.Ytgbmlkoblcfceaa
/-- The row, under a short name, for the claim. -/
theorem validClashes_holds : Rows.ValidClashesSaid := validClashes.proved
end Go.Proofs.Ytgbmlkoblcfceaa

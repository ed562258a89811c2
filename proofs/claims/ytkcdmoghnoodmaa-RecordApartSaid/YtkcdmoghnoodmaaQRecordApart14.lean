/-
The law RecordApart holds of the given program, for every input that the statement speaks of: its row, out of its pure statement and the walk.
-/
import Derived.Test.YtkcdmoghnoodmaaRows
import Derived.Test.YtkcdmoghnoodmaaQRecordApart1
import Derived.Test.YtkcdmoghnoodmaaQRecordApart3
import Derived.Test.YtkcdmoghnoodmaaQRecordApart8
import Derived.Test.YtkcdmoghnoodmaaQRecordApart13
import Derived.WalkKit
import Derived.ProofKit
import Derived.OpenShut
import Derived.ShutString
import Derived.ChangeOld
import Derived.Below
import Derived.SizedLaws
import Derived.JoinedCond
import Derived.Deep.CondSized
namespace Go.Proofs.Ytkcdmoghnoodmaa.recordApart
open Go.ChangeShapes Go.WideShapes Go.ChangeAt Go.RowKit Go.Proofs.Ytkcdmoghnoodmaa.Opn Go.Proofs.Ytkcdmoghnoodmaa.B
open Go.ChangeMaps (open_string shut_string)
set_option linter.unusedVariables false
set_option linter.unusedSimpArgs false

theorem own : ownKnob Try.prog.godebug = none := by kernel_rfl
theorem laidOut : laidOutB Try.prog = true := by kernel_rfl
set_option maxRecDepth 100000 in
theorem lifted (os : Os) (started : os.Started) (H : Type) (enc : TypeId × Value → H) :
    ReturnsInHanded {} Try.checked os 6 .any (Rows.recordApartSpec.pre6 enc Try.prog Try.f6 Rows.recordApartRow.domain false) (Rows.recordApartSpec.post enc Try.prog Try.f6 false true false false) := by
  refine returnsInHanded_of_change_sized (C := Try.checked) own started (by kernel_rfl) Try.func6
    (ChangeSpec.witness6 (enc := enc) (C := Try.checked) false ⟨#[], #[.agg #[.int .i64 0, .slice none 0 0], .agg #[.int .i64 0, .slice none 0 0], .int .u16 0], []⟩ 8 (by kernel_rfl) (by kernel_rfl) (by kernel_rfl) (by kernel_rfl)) ?_
  intro W base args ds gs before hval0 hW hcnd hsz0 _
  have hsz : (DataW.weightsEach Try.prog (Try.f6.params.toList ++ Rows.recordApartSpec.plain.varTypes Try.prog) (ds ++ gs)).all (· ≤ reachBytes) = true := hsz0
  have hval : ∀ (j : Nat) t v, Try.f6.params[j]? = some t → args[j]? = some v → Value.okWide Try.prog W .any base t v := hval0
  have hW' := hW
  obtain ⟨p, q, hA0, hV, rfl, hfz, hnd⟩ := hW
  have hA : DataW.TrodAll enc Try.prog W 0 (fun _ => true) true Try.f6.params.toList args.toList ds p := hA0
  rw [Try.params6] at hA hval hsz
  obtain ⟨v0, vs0, d0, ds0, p0, q0, hargs, rfl, rfl, h0, r0⟩ := trodAll_cons hA
  obtain ⟨v1, vs1, d1, ds1, p1, q1, rfl, rfl, rfl, h1, r1⟩ := trodAll_cons r0
  obtain ⟨v2, vs2, d2, ds2, p2, q2, rfl, rfl, rfl, h2, r2⟩ := trodAll_cons r1
  obtain ⟨rfl, rfl, rfl⟩ := trodAll_nil r2
  obtain rfl : args = #[v0, v1, v2] := by cases args; simp_all
  obtain ⟨rfl, rfl⟩ := trodVars_none hV
  have lt0 := trod_lt h0
  have k0 := h0
  obtain ⟨cs0, x0, rfl, K0, ok0_, u0⟩ := arg_struct (opn24) Try.underlying24 (hval 0 24 v0 rfl rfl) h0 (weigh hsz (j := 0) (t := 24) rfl rfl)
  obtain ⟨w0_0, w0_1⟩ := ok0_
  obtain ⟨A0_1, c0_1, hcs0, hc0_1, hr0_1⟩ := k24_open K0
  obtain rfl : cs0 = #[.int .i64 x0.f0, .slice A0_1 x0.f1.length c0_1] := by apply Array.toList_inj.1; exact hcs0
  generalize hg0_0 : x0.f0 = a0_0 at *
  generalize hg0_1 : x0.f1 = l0_1 at *
  have lt1 := trod_lt h1
  have k1 := h1
  obtain ⟨cs1, x1, rfl, K1, ok1_, u1⟩ := arg_struct (opn24) Try.underlying24 (hval 1 24 v1 rfl rfl) h1 (weigh hsz (j := 1) (t := 24) rfl rfl)
  obtain ⟨w1_0, w1_1⟩ := ok1_
  obtain ⟨A1_1, c1_1, hcs1, hc1_1, hr1_1⟩ := k24_open K1
  obtain rfl : cs1 = #[.int .i64 x1.f0, .slice A1_1 x1.f1.length c1_1] := by apply Array.toList_inj.1; exact hcs1
  generalize hg1_0 : x1.f0 = a1_0 at *
  generalize hg1_1 : x1.f1 = l1_1 at *
  have lt2 := trod_lt h2
  have k2 := h2
  obtain ⟨a2, rfl, rfl, rfl, w2⟩ := open_int Try.underlying53 (hval 2 53 v2 rfl rfl) h2
  have b2 : 1 ≤ Rows.uptoBulk (DataW.lit (H := H) (.int .u16 a2)) := by simp [Rows.uptoBulk]
  clear hA0 hval0 hsz0 hsz
  refine (B.cressetlaw03_RecordApart.walk Pure.RecordApart a0_0 A0_1 c0_1 l0_1 a1_0 A1_1 c1_1 l1_1 a2 W hr0_1 hc0_1 hr1_1 hc1_1 w0_0 w0_1 w1_0 w1_1 w2).mono fun e W' ⟨he, bel⟩ => ?_
  subst he
  exact ⟨_, rfl, _, _, _, [], _, [], hW', trodAll_mk1 (shut_bool Try.underlying4 _), (trodAll_cons_mk (Below.trod laidOut (by kernel_rfl) (of_decide_eq_true (by kernel_rfl)) k0 bel lt0) (trodAll_cons_mk (Below.trod laidOut (by kernel_rfl) (of_decide_eq_true (by kernel_rfl)) k1 bel lt1) (trodAll_cons_mk (Below.trod laidOut (by kernel_rfl) (of_decide_eq_true (by kernel_rfl)) k2 bel lt2) trodAll_mk0))), rfl, bel.frame _, fun h => by cases h⟩
theorem over : Rows.recordApartRow.holds Try.pinned (OpenSpec.ofChange Rows.recordApartSpec) :=
  OpenClaim.holds_of_wide 6 Try.f6 rfl rfl rfl rfl rfl rfl rfl ⟨rfl, rfl, rfl, rfl, rfl⟩ rfl rfl rfl rfl rfl (by kernel_rfl) Try.func6 (by kernel_rfl)
    (of_decide_eq_true (by kernel_rfl)) (by unfold Func.isWrapper; first | (rw [if_pos (by decide +kernel)]; kernel_rfl) | (rw [if_neg (by decide +kernel)]; exact ⟨rfl, rfl⟩))
    (fun os started H enc _ => lifted os started H enc)
theorem proved : Rows.RecordApartSaid := over
#print axioms proved
end Go.Proofs.Ytkcdmoghnoodmaa.recordApart
namespace Go.Proofs.Ytkcdmoghnoodmaa

/-- The row, under a short name, for the claim. -/
theorem recordApart_holds : Rows.RecordApartSaid := recordApart.proved
end Go.Proofs.Ytkcdmoghnoodmaa

/-
The law RecordParts holds of the given program, for every input that the statement speaks of: its row, out of its pure statement and the walk.
-/
import Derived.Test.YtkcdmoghnoodmaaRows
import Derived.Test.YtkcdmoghnoodmaaQRecordParts1
import Derived.Test.YtkcdmoghnoodmaaQRecordParts3
import Derived.Test.YtkcdmoghnoodmaaQRecordParts8
import Derived.Test.YtkcdmoghnoodmaaQRecordParts21
import Derived.WalkKit
import Derived.ProofKit
import Derived.OpenShut
import Derived.ShutString
import Derived.ChangeOld
import Derived.Below
import Derived.SizedLaws
import Derived.JoinedCond
import Derived.Deep.CondSized
namespace Go.Proofs.Ytkcdmoghnoodmaa.recordParts
open Go.ChangeShapes Go.WideShapes Go.ChangeAt Go.RowKit Go.Proofs.Ytkcdmoghnoodmaa.Opn Go.Proofs.Ytkcdmoghnoodmaa.B
open Go.ChangeMaps (open_string shut_string)
set_option linter.unusedVariables false
set_option linter.unusedSimpArgs false

theorem own : ownKnob Try.prog.godebug = none := by kernel_rfl
theorem laidOut : laidOutB Try.prog = true := by kernel_rfl
set_option maxRecDepth 100000 in
theorem lifted (os : Os) (started : os.Started) (H : Type) (enc : TypeId × Value → H) :
    ReturnsInHanded {} Try.checked os 10 .any (Rows.recordPartsSpec.pre6 enc Try.prog Try.f10 Rows.recordPartsRow.domain false) (Rows.recordPartsSpec.post enc Try.prog Try.f10 false true false false) := by
  refine returnsInHanded_of_change_sized (C := Try.checked) own started (by kernel_rfl) Try.func10
    (ChangeSpec.witness6 (enc := enc) (C := Try.checked) false ⟨#[], #[.int .u32 0, .agg #[.string ByteArray.empty, .string ByteArray.empty, .bool false], .slice none 0 0], []⟩ 8 (by kernel_rfl) (by kernel_rfl) (by kernel_rfl) (by kernel_rfl)) ?_
  intro W base args ds gs before hval0 hW hcnd hsz0 _
  have hsz : (DataW.weightsEach Try.prog (Try.f10.params.toList ++ Rows.recordPartsSpec.plain.varTypes Try.prog) (ds ++ gs)).all (· ≤ reachBytes) = true := hsz0
  have hval : ∀ (j : Nat) t v, Try.f10.params[j]? = some t → args[j]? = some v → Value.okWide Try.prog W .any base t v := hval0
  have hW' := hW
  obtain ⟨p, q, hA0, hV, rfl, hfz, hnd⟩ := hW
  have hA : DataW.TrodAll enc Try.prog W 0 (fun _ => true) true Try.f10.params.toList args.toList ds p := hA0
  rw [Try.params10] at hA hval hsz
  obtain ⟨v0, vs0, d0, ds0, p0, q0, hargs, rfl, rfl, h0, r0⟩ := trodAll_cons hA
  obtain ⟨v1, vs1, d1, ds1, p1, q1, rfl, rfl, rfl, h1, r1⟩ := trodAll_cons r0
  obtain ⟨v2, vs2, d2, ds2, p2, q2, rfl, rfl, rfl, h2, r2⟩ := trodAll_cons r1
  obtain ⟨rfl, rfl, rfl⟩ := trodAll_nil r2
  obtain rfl : args = #[v0, v1, v2] := by cases args; simp_all
  obtain ⟨rfl, rfl⟩ := trodVars_none hV
  have lt0 := trod_lt h0
  have k0 := h0
  obtain ⟨a0, rfl, rfl, rfl, w0⟩ := open_int Try.underlying61 (hval 0 61 v0 rfl rfl) h0
  have b0 : 1 ≤ Rows.uptoBulk (DataW.lit (H := H) (.int .u32 a0)) := by simp [Rows.uptoBulk]
  have lt1 := trod_lt h1
  have k1 := h1
  obtain ⟨cs1, x1, rfl, K1, ok1_, u1⟩ := arg_struct (opn33) Try.underlying33 (hval 1 33 v1 rfl rfl) h1 (weigh hsz (j := 1) (t := 33) rfl rfl)
  obtain ⟨w1_0, w1_1, w1_2⟩ := ok1_
  obtain hcs1 := k33_open K1
  obtain rfl : cs1 = #[.string x1.f0, .string x1.f1, .bool x1.f2] := by apply Array.toList_inj.1; exact hcs1
  generalize hg1_0 : x1.f0 = a1_0 at *
  generalize hg1_1 : x1.f1 = a1_1 at *
  generalize hg1_2 : x1.f2 = a1_2 at *
  have lt2 := trod_lt h2
  have k2 := h2
  obtain ⟨A2, c2, l2, rfl, hc2, hr2, w2, u2⟩ := arg_slice (opn_slice (t := 42) (B := 1) (opn_int (t := 5) Try.underlying5 (by kernel_rfl)) Try.underlying42 (by kernel_rfl) (by kernel_rfl)) Try.underlying42 (hval 2 42 v2 rfl rfl) h2 (weigh hsz (j := 2) (t := 42) rfl rfl)
  have b2 : ((l2.map (fun _ => 1)).sum + 1) ≤ Rows.uptoBulk d2 := u2
  clear hA0 hval0 hsz0 hsz
  refine (B.cressetlaw03_RecordParts.walk Pure.RecordParts a0 a1_0 a1_1 a1_2 A2 c2 l2 W hr2 hc2 w0 w1_0 w1_1 w2).mono fun e W' ⟨he, bel⟩ => ?_
  subst he
  exact ⟨_, rfl, _, _, _, [], _, [], hW', trodAll_mk1 (shut_bool Try.underlying4 _), (trodAll_cons_mk (Below.trod laidOut (by kernel_rfl) (of_decide_eq_true (by kernel_rfl)) k0 bel lt0) (trodAll_cons_mk (Below.trod laidOut (by kernel_rfl) (of_decide_eq_true (by kernel_rfl)) k1 bel lt1) (trodAll_cons_mk (Below.trod laidOut (by kernel_rfl) (of_decide_eq_true (by kernel_rfl)) k2 bel lt2) trodAll_mk0))), rfl, bel.frame _, fun h => by cases h⟩
theorem over : Rows.recordPartsRow.holds Try.pinned (OpenSpec.ofChange Rows.recordPartsSpec) :=
  OpenClaim.holds_of_wide 10 Try.f10 rfl rfl rfl rfl rfl rfl rfl ⟨rfl, rfl, rfl, rfl, rfl⟩ rfl rfl rfl rfl rfl (by kernel_rfl) Try.func10 (by kernel_rfl)
    (of_decide_eq_true (by kernel_rfl)) (by unfold Func.isWrapper; first | (rw [if_pos (by decide +kernel)]; kernel_rfl) | (rw [if_neg (by decide +kernel)]; exact ⟨rfl, rfl⟩))
    (fun os started H enc _ => lifted os started H enc)
theorem proved : Rows.RecordPartsSaid := over
#print axioms proved
end Go.Proofs.Ytkcdmoghnoodmaa.recordParts
namespace Go.Proofs.Ytkcdmoghnoodmaa

/-- The row, under a short name, for the claim. -/
theorem recordParts_holds : Rows.RecordPartsSaid := recordParts.proved
end Go.Proofs.Ytkcdmoghnoodmaa

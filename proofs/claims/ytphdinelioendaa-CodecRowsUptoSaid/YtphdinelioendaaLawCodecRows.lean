/-
The law CodecRows holds of the given program, for every input that the statement speaks of: its row, out of its pure statement and the walk.
-/
import Derived.Test.YtphdinelioendaaRows
import Derived.Test.YtphdinelioendaaOpn
import Derived.Test.YtphdinelioendaaBxo
import Derived.Test.YtphdinelioendaaBx12
import Derived.Test.YtphdinelioendaaPureCodecRows
import Derived.WalkKit
import Derived.ProofKit
import Derived.OpenShut
import Derived.ShutString
import Derived.ChangeOld
import Derived.Below
import Derived.SizedLaws
import Derived.JoinedCond
import Derived.Deep.CondSized
namespace Go.Proofs.Ytphdinelioendaa.codecRowsUpto
open Go.ChangeShapes Go.WideShapes Go.ChangeAt Go.RowKit Go.Proofs.Ytphdinelioendaa.Opn Go.Proofs.Ytphdinelioendaa.B
open Go.ChangeMaps (open_string shut_string)
set_option linter.unusedVariables false
set_option linter.unusedSimpArgs false
theorem own : ownKnob Try.prog.godebug = none := by kernel_rfl
theorem laidOut : laidOutB Try.prog = true := by kernel_rfl
set_option maxRecDepth 100000 in
theorem lifted (os : Os) (started : os.Started) (H : Type) (enc : TypeId × Value → H) (F : Stop.Interp) :
    ReturnsInHanded {} Try.checked os 9 .any ((Rows.OpenSpec.upto Rows.codecRowsSpec).pre6 enc Try.prog Try.f9 Rows.codecRowsUptoRow.domain false) (((Rows.OpenSpec.upto Rows.codecRowsSpec).at F).post enc Try.prog Try.f9 false true false false) := by
  refine returnsInHanded_of_cond_sized (C := Try.checked) (s := (Rows.OpenSpec.upto Rows.codecRowsSpec)) (k := Rows.uptoSmall) rfl own started (by kernel_rfl) Try.func9
    (OpenSpec.witness (enc := enc) (C := Try.checked) (s := (Rows.OpenSpec.upto Rows.codecRowsSpec)) (k := Rows.uptoSmall) rfl false ⟨#[], #[.slice none 0 0, .slice none 0 0], []⟩ 8 (by kernel_rfl) (by kernel_rfl) (by kernel_rfl) (x := ([.nil, .nil], [], [])) (by kernel_rfl) rfl (by kernel_rfl)) ?_
  intro W base args ds gs before hval0 hW hcnd hkk hsz0 _
  have hsz : (DataW.weightsEach Try.prog (Try.f9.params.toList ++ Rows.codecRowsSpec.plain.varTypes Try.prog) (ds ++ gs)).all (· ≤ reachBytes) = true := hsz0
  have hval : ∀ (j : Nat) t v, Try.f9.params[j]? = some t → args[j]? = some v → Value.okWide Try.prog W .any base t v := hval0
  have hW' := hW
  obtain ⟨p, q, hA0, hV, rfl, hfz, hnd⟩ := hW
  have hA : DataW.TrodAll enc Try.prog W 0 (fun _ => true) true Try.f9.params.toList args.toList ds p := hA0
  rw [Try.params9] at hA hval hsz
  obtain ⟨v0, vs0, d0, ds0, p0, q0, hargs, rfl, rfl, h0, r0⟩ := trodAll_cons hA
  obtain ⟨v1, vs1, d1, ds1, p1, q1, rfl, rfl, rfl, h1, r1⟩ := trodAll_cons r0
  obtain ⟨rfl, rfl, rfl⟩ := trodAll_nil r1
  obtain rfl : args = #[v0, v1] := by cases args; simp_all
  obtain ⟨rfl, rfl⟩ := trodVars_none hV
  have lt0 := trod_lt h0
  have k0 := h0
  obtain ⟨A0, c0, l0, rfl, hc0, hr0, w0, u0⟩ := arg_slice (opn_slice (t := 50) (B := 8) (opn_int (t := 2) Try.underlying2 (by kernel_rfl)) Try.underlying50 (by kernel_rfl) (by kernel_rfl)) Try.underlying50 (hval 0 50 v0 rfl rfl) h0 (weigh hsz (j := 0) (t := 50) rfl rfl)
  have b0 : ((l0.map (fun _ => 1)).sum + 1) ≤ Rows.uptoBulk d0 := u0
  have lt1 := trod_lt h1
  have k1 := h1
  obtain ⟨A1, c1, l1, rfl, hc1, hr1, w1, u1⟩ := arg_slice (opn_slice (t := 50) (B := 8) (opn_int (t := 2) Try.underlying2 (by kernel_rfl)) Try.underlying50 (by kernel_rfl) (by kernel_rfl)) Try.underlying50 (hval 1 50 v1 rfl rfl) h1 (weigh hsz (j := 1) (t := 50) rfl rfl)
  have b1 : ((l1.map (fun _ => 1)).sum + 1) ≤ Rows.uptoBulk d1 := u1
  have hU : (((l0.map (fun _ => 1)).sum + 1)) + (((l1.map (fun _ => 1)).sum + 1)) ≤ 1048576 := by
    have hz := upto hkk
    simp only [List.cons_append, List.nil_append, List.append_nil, Rows.uptoBulkAll] at hz
    omega
  clear hA0 hval0 hsz0 hsz
  refine (B.cressetlaw01_CodecRows.walk Pure.CodecRows A0 c0 l0 A1 c1 l1 W hr0 hc0 hr1 hc1 w0 w1 hU).mono fun e W' ⟨he, bel⟩ => ?_
  subst he
  exact ⟨_, rfl, _, _, _, [], _, [], hW', trodAll_mk1 (shut_bool Try.underlying4 _), (trodAll_cons_mk (Below.trod laidOut (by kernel_rfl) (of_decide_eq_true (by kernel_rfl)) k0 bel lt0) (trodAll_cons_mk (Below.trod laidOut (by kernel_rfl) (of_decide_eq_true (by kernel_rfl)) k1 bel lt1) trodAll_mk0)), rfl, bel.frame _, fun h => by cases h⟩
theorem over : Rows.codecRowsUptoRow.holds Try.pinned (Rows.OpenSpec.upto Rows.codecRowsSpec) :=
  OpenClaim.holds_of_cond 9 Try.f9 rfl rfl rfl rfl rfl rfl rfl ⟨rfl, rfl, rfl, rfl, rfl⟩ rfl rfl rfl rfl rfl (by kernel_rfl) Try.func9 (by kernel_rfl)
    (of_decide_eq_true (by kernel_rfl)) (by unfold Func.isWrapper; first | (rw [if_pos (by decide +kernel)]; kernel_rfl) | (rw [if_neg (by decide +kernel)]; exact ⟨rfl, rfl⟩))
    (fun os started H enc _ F => lifted os started H enc F)
theorem proved : Rows.CodecRowsUptoSaid := over
#print axioms proved
end Go.Proofs.Ytphdinelioendaa.codecRowsUpto
namespace Go.Proofs.Ytphdinelioendaa
/-- The row, under a short name, for the claim. -/
theorem codecRowsUpto_holds : Rows.CodecRowsUptoSaid := codecRowsUpto.proved
end Go.Proofs.Ytphdinelioendaa

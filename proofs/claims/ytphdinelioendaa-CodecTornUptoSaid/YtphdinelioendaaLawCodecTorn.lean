/-
The law CodecTorn holds of the given program, for every input that the statement speaks of: its row, out of its pure statement and the walk.
-/
import Derived.Test.YtphdinelioendaaRows
import Derived.Test.YtphdinelioendaaOpn
import Derived.Test.YtphdinelioendaaBxo
import Derived.Test.YtphdinelioendaaBx19
import Derived.Test.YtphdinelioendaaPureCodecTorn
import Derived.WalkKit
import Derived.ProofKit
import Derived.OpenShut
import Derived.ShutString
import Derived.ChangeOld
import Derived.Below
import Derived.SizedLaws
import Derived.JoinedCond
import Derived.Deep.CondSized
namespace Go.Proofs.Ytphdinelioendaa.codecTornUpto
open Go.ChangeShapes Go.WideShapes Go.ChangeAt Go.RowKit Go.Proofs.Ytphdinelioendaa.Opn Go.Proofs.Ytphdinelioendaa.B
open Go.ChangeMaps (open_string shut_string)
set_option linter.unusedVariables false
set_option linter.unusedSimpArgs false
theorem own : ownKnob Try.prog.godebug = none := by kernel_rfl
theorem laidOut : laidOutB Try.prog = true := by kernel_rfl
set_option maxRecDepth 100000 in
theorem lifted (os : Os) (started : os.Started) (H : Type) (enc : TypeId × Value → H) (F : Stop.Interp) :
    ReturnsInHanded {} Try.checked os 13 .any ((Rows.OpenSpec.upto Rows.codecTornSpec).pre6 enc Try.prog Try.f13 Rows.codecTornUptoRow.domain false) (((Rows.OpenSpec.upto Rows.codecTornSpec).at F).post enc Try.prog Try.f13 false true false false) := by
  refine returnsInHanded_of_cond_sized (C := Try.checked) (s := (Rows.OpenSpec.upto Rows.codecTornSpec)) (k := Rows.uptoSmall) rfl own started (by kernel_rfl) Try.func13
    (OpenSpec.witness (enc := enc) (C := Try.checked) (s := (Rows.OpenSpec.upto Rows.codecTornSpec)) (k := Rows.uptoSmall) rfl false ⟨#[], #[.slice none 0 0, .slice none 0 0, .int .u16 0], []⟩ 8 (by kernel_rfl) (by kernel_rfl) (by kernel_rfl) (x := ([.nil, .nil, .lit (.int .u16 0)], [], [])) (by kernel_rfl) rfl (by kernel_rfl)) ?_
  intro W base args ds gs before hval0 hW hcnd hkk hsz0 _
  have hsz : (DataW.weightsEach Try.prog (Try.f13.params.toList ++ Rows.codecTornSpec.plain.varTypes Try.prog) (ds ++ gs)).all (· ≤ reachBytes) = true := hsz0
  have hval : ∀ (j : Nat) t v, Try.f13.params[j]? = some t → args[j]? = some v → Value.okWide Try.prog W .any base t v := hval0
  have hW' := hW
  obtain ⟨p, q, hA0, hV, rfl, hfz, hnd⟩ := hW
  have hA : DataW.TrodAll enc Try.prog W 0 (fun _ => true) true Try.f13.params.toList args.toList ds p := hA0
  rw [Try.params13] at hA hval hsz
  obtain ⟨v0, vs0, d0, ds0, p0, q0, hargs, rfl, rfl, h0, r0⟩ := trodAll_cons hA
  obtain ⟨v1, vs1, d1, ds1, p1, q1, rfl, rfl, rfl, h1, r1⟩ := trodAll_cons r0
  obtain ⟨v2, vs2, d2, ds2, p2, q2, rfl, rfl, rfl, h2, r2⟩ := trodAll_cons r1
  obtain ⟨rfl, rfl, rfl⟩ := trodAll_nil r2
  obtain rfl : args = #[v0, v1, v2] := by cases args; simp_all
  obtain ⟨rfl, rfl⟩ := trodVars_none hV
  have lt0 := trod_lt h0
  have k0 := h0
  obtain ⟨A0, c0, l0, rfl, hc0, hr0, w0, u0⟩ := arg_slice (opn_slice (t := 23) (B := 1) (opn_int (t := 5) Try.underlying5 (by kernel_rfl)) Try.underlying23 (by kernel_rfl) (by kernel_rfl)) Try.underlying23 (hval 0 23 v0 rfl rfl) h0 (weigh hsz (j := 0) (t := 23) rfl rfl)
  have b0 : ((l0.map (fun _ => 1)).sum + 1) ≤ Rows.uptoBulk d0 := u0
  have lt1 := trod_lt h1
  have k1 := h1
  obtain ⟨A1, c1, l1, rfl, hc1, hr1, w1, u1⟩ := arg_slice (opn_slice (t := 23) (B := 1) (opn_int (t := 5) Try.underlying5 (by kernel_rfl)) Try.underlying23 (by kernel_rfl) (by kernel_rfl)) Try.underlying23 (hval 1 23 v1 rfl rfl) h1 (weigh hsz (j := 1) (t := 23) rfl rfl)
  have b1 : ((l1.map (fun _ => 1)).sum + 1) ≤ Rows.uptoBulk d1 := u1
  have lt2 := trod_lt h2
  have k2 := h2
  obtain ⟨a2, rfl, rfl, rfl, w2⟩ := open_int Try.underlying43 (hval 2 43 v2 rfl rfl) h2
  have b2 : 1 ≤ Rows.uptoBulk (DataW.lit (H := H) (.int .u16 a2)) := by simp [Rows.uptoBulk]
  have hU : (((l0.map (fun _ => 1)).sum + 1)) + ((((l1.map (fun _ => 1)).sum + 1)) + (1)) ≤ 1048576 := by
    have hz := upto hkk
    simp only [List.cons_append, List.nil_append, List.append_nil, Rows.uptoBulkAll] at hz
    omega
  clear hA0 hval0 hsz0 hsz
  refine (B.cressetlaw01_CodecTorn.walk Pure.CodecTorn A0 c0 l0 A1 c1 l1 a2 W hr0 hc0 hr1 hc1 w0 w1 w2 hU).mono fun e W' ⟨he, bel⟩ => ?_
  subst he
  exact ⟨_, rfl, _, _, _, [], _, [], hW', trodAll_mk1 (shut_bool Try.underlying4 _), (trodAll_cons_mk (Below.trod laidOut (by kernel_rfl) (of_decide_eq_true (by kernel_rfl)) k0 bel lt0) (trodAll_cons_mk (Below.trod laidOut (by kernel_rfl) (of_decide_eq_true (by kernel_rfl)) k1 bel lt1) (trodAll_cons_mk (Below.trod laidOut (by kernel_rfl) (of_decide_eq_true (by kernel_rfl)) k2 bel lt2) trodAll_mk0))), rfl, bel.frame _, fun h => by cases h⟩
theorem over : Rows.codecTornUptoRow.holds Try.pinned (Rows.OpenSpec.upto Rows.codecTornSpec) :=
  OpenClaim.holds_of_cond 13 Try.f13 rfl rfl rfl rfl rfl rfl rfl ⟨rfl, rfl, rfl, rfl, rfl⟩ rfl rfl rfl rfl rfl (by kernel_rfl) Try.func13 (by kernel_rfl)
    (of_decide_eq_true (by kernel_rfl)) (by unfold Func.isWrapper; first | (rw [if_pos (by decide +kernel)]; kernel_rfl) | (rw [if_neg (by decide +kernel)]; exact ⟨rfl, rfl⟩))
    (fun os started H enc _ F => lifted os started H enc F)
theorem proved : Rows.CodecTornUptoSaid := over
#print axioms proved
end Go.Proofs.Ytphdinelioendaa.codecTornUpto
namespace Go.Proofs.Ytphdinelioendaa
/-- The row, under a short name, for the claim. -/
theorem codecTornUpto_holds : Rows.CodecTornUptoSaid := codecTornUpto.proved
end Go.Proofs.Ytphdinelioendaa

/-
The law TxnNone holds of the given program, for every input that the statement speaks of: its row, out of its pure statement and the walk.
-/
import Derived.Test.YtookibpiiphmgaaRows
import Derived.Test.YtookibpiiphmgaaQTxnNone1
import Derived.Test.YtookibpiiphmgaaQTxnNone3
import Derived.Test.YtookibpiiphmgaaQTxnNone4
import Derived.Test.YtookibpiiphmgaaQTxnNone16
import Derived.WalkKit
import Derived.ProofKit
import Derived.OpenShut
import Derived.ShutString
import Derived.ChangeOld
import Derived.Below
import Derived.SizedLaws
import Derived.JoinedCond
import Derived.Deep.CondSized
namespace Go.Proofs.Ytookibpiiphmgaa.txnNone
open Go.ChangeShapes Go.WideShapes Go.ChangeAt Go.RowKit Go.Proofs.Ytookibpiiphmgaa.Opn Go.Proofs.Ytookibpiiphmgaa.B
open Go.ChangeMaps (open_string shut_string)
set_option linter.unusedVariables false
set_option linter.unusedSimpArgs false

theorem own : ownKnob Try.prog.godebug = none := by kernel_rfl
theorem laidOut : laidOutB Try.prog = true := by kernel_rfl
set_option maxRecDepth 100000 in
theorem lifted (os : Os) (started : os.Started) (H : Type) (enc : TypeId × Value → H) :
    ReturnsInHanded {} Try.checked os 7 .any (Rows.txnNoneSpec.pre6 enc Try.prog Try.f7 Rows.txnNoneRow.domain false) (Rows.txnNoneSpec.post enc Try.prog Try.f7 false true false false) := by
  refine returnsInHanded_of_change_sized (C := Try.checked) own started (by kernel_rfl) Try.func7
    (ChangeSpec.witness6 (enc := enc) (C := Try.checked) false ⟨#[], #[.agg #[.int .i64 0, .string ByteArray.empty, .string ByteArray.empty, .string ByteArray.empty, .string ByteArray.empty, .slice none 0 0]], []⟩ 8 (by kernel_rfl) (by kernel_rfl) (by kernel_rfl) (by kernel_rfl)) ?_
  intro W base args ds gs before hval0 hW hcnd hsz0 _
  have hsz : (DataW.weightsEach Try.prog (Try.f7.params.toList ++ Rows.txnNoneSpec.plain.varTypes Try.prog) (ds ++ gs)).all (· ≤ reachBytes) = true := hsz0
  have hval : ∀ (j : Nat) t v, Try.f7.params[j]? = some t → args[j]? = some v → Value.okWide Try.prog W .any base t v := hval0
  have hW' := hW
  obtain ⟨p, q, hA0, hV, rfl, hfz, hnd⟩ := hW
  have hA : DataW.TrodAll enc Try.prog W 0 (fun _ => true) true Try.f7.params.toList args.toList ds p := hA0
  rw [Try.params7] at hA hval hsz
  obtain ⟨v0, vs0, d0, ds0, p0, q0, hargs, rfl, rfl, h0, r0⟩ := trodAll_cons hA
  obtain ⟨rfl, rfl, rfl⟩ := trodAll_nil r0
  obtain rfl : args = #[v0] := by cases args; simp_all
  obtain ⟨rfl, rfl⟩ := trodVars_none hV
  have lt0 := trod_lt h0
  have k0 := h0
  obtain ⟨cs0, x0, rfl, K0, ok0_, u0⟩ := arg_struct (opn33) Try.underlying33 (hval 0 33 v0 rfl rfl) h0 (weigh hsz (j := 0) (t := 33) rfl rfl)
  obtain ⟨w0_0, w0_1, w0_2, ⟨w0_3, w0_4⟩, w0_5⟩ := ok0_
  obtain ⟨A0_5, c0_5, hcs0, hc0_5, hr0_5⟩ := k33_open K0
  obtain rfl : cs0 = #[.int .i64 x0.f0, .string x0.f1, .string x0.f2, .string x0.f3.f0, .string x0.f3.f1, .slice A0_5 x0.f4.length c0_5] := by apply Array.toList_inj.1; exact hcs0
  generalize hg0_0 : x0.f0 = a0_0 at *
  generalize hg0_1 : x0.f1 = a0_1 at *
  generalize hg0_2 : x0.f2 = a0_2 at *
  generalize hg0_3 : x0.f3.f0 = a0_3 at *
  generalize hg0_4 : x0.f3.f1 = a0_4 at *
  generalize hg0_5 : x0.f4 = l0_5 at *
  clear hA0 hval0 hsz0 hsz
  refine (B.cressetlaw22_TxnNone.walk Pure.TxnNone a0_0 a0_1 a0_2 a0_3 a0_4 A0_5 c0_5 l0_5 W hr0_5 hc0_5 w0_0 w0_1 w0_2 w0_3 w0_4 w0_5).mono fun e W' ⟨he, bel⟩ => ?_
  subst he
  exact ⟨_, rfl, _, _, _, [], _, [], hW', trodAll_mk1 (shut_bool Try.underlying4 _), (trodAll_cons_mk (Below.trod laidOut (by kernel_rfl) (of_decide_eq_true (by kernel_rfl)) k0 bel lt0) trodAll_mk0), rfl, bel.frame _, fun h => by cases h⟩
theorem over : Rows.txnNoneRow.holds Try.pinned (OpenSpec.ofChange Rows.txnNoneSpec) :=
  OpenClaim.holds_of_wide 7 Try.f7 rfl rfl rfl rfl rfl rfl rfl ⟨rfl, rfl, rfl, rfl, rfl⟩ rfl rfl rfl rfl rfl (by kernel_rfl) Try.func7 (by kernel_rfl)
    (of_decide_eq_true (by kernel_rfl)) (by unfold Func.isWrapper; first | (rw [if_pos (by decide +kernel)]; kernel_rfl) | (rw [if_neg (by decide +kernel)]; exact ⟨rfl, rfl⟩))
    (fun os started H enc _ => lifted os started H enc)
theorem proved : Rows.TxnNoneSaid := over
#print axioms proved
end Go.Proofs.Ytookibpiiphmgaa.txnNone
namespace Go.Proofs.Ytookibpiiphmgaa

/-- The row, under a short name, for the claim. -/
theorem txnNone_holds : Rows.TxnNoneSaid := txnNone.proved
end Go.Proofs.Ytookibpiiphmgaa

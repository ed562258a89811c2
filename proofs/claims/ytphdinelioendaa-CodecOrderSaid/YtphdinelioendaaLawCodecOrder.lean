/-
The law CodecOrder holds of the given program, for every input that the statement speaks of: its row, out of its pure statement and the walk.
-/
import Derived.Test.YtphdinelioendaaRows
import Derived.Test.YtphdinelioendaaOpn
import Derived.Test.YtphdinelioendaaBxo
import Derived.Test.YtphdinelioendaaBx11
import Derived.Test.YtphdinelioendaaPureCodecOrder
import Derived.WalkKit
import Derived.ProofKit
import Derived.OpenShut
import Derived.ShutString
import Derived.ChangeOld
import Derived.Below
import Derived.SizedLaws
import Derived.JoinedCond
import Derived.Deep.CondSized
namespace Go.Proofs.Ytphdinelioendaa.codecOrder
open Go.ChangeShapes Go.WideShapes Go.ChangeAt Go.RowKit Go.Proofs.Ytphdinelioendaa.Opn Go.Proofs.Ytphdinelioendaa.B
open Go.ChangeMaps (open_string shut_string)
set_option linter.unusedVariables false
set_option linter.unusedSimpArgs false
theorem own : ownKnob Try.prog.godebug = none := by kernel_rfl
theorem laidOut : laidOutB Try.prog = true := by kernel_rfl
set_option maxRecDepth 100000 in
theorem lifted (os : Os) (started : os.Started) (H : Type) (enc : TypeId × Value → H) :
    ReturnsInHanded {} Try.checked os 8 .any (Rows.codecOrderSpec.pre6 enc Try.prog Try.f8 Rows.codecOrderRow.domain false) (Rows.codecOrderSpec.post enc Try.prog Try.f8 false true false false) := by
  refine returnsInHanded_of_change_sized (C := Try.checked) own started (by kernel_rfl) Try.func8
    (ChangeSpec.witness6 (enc := enc) (C := Try.checked) false ⟨#[], #[.agg #[.int .i64 0, .int .i64 0], .slice none 0 0, .slice none 0 0], []⟩ 8 (by kernel_rfl) (by kernel_rfl) (by kernel_rfl) (by kernel_rfl)) ?_
  intro W base args ds gs before hval0 hW hcnd hsz0 _
  have hsz : (DataW.weightsEach Try.prog (Try.f8.params.toList ++ Rows.codecOrderSpec.plain.varTypes Try.prog) (ds ++ gs)).all (· ≤ reachBytes) = true := hsz0
  have hval : ∀ (j : Nat) t v, Try.f8.params[j]? = some t → args[j]? = some v → Value.okWide Try.prog W .any base t v := hval0
  have hW' := hW
  obtain ⟨p, q, hA0, hV, rfl, hfz, hnd⟩ := hW
  have hA : DataW.TrodAll enc Try.prog W 0 (fun _ => true) true Try.f8.params.toList args.toList ds p := hA0
  rw [Try.params8] at hA hval hsz
  obtain ⟨v0, vs0, d0, ds0, p0, q0, hargs, rfl, rfl, h0, r0⟩ := trodAll_cons hA
  obtain ⟨v1, vs1, d1, ds1, p1, q1, rfl, rfl, rfl, h1, r1⟩ := trodAll_cons r0
  obtain ⟨v2, vs2, d2, ds2, p2, q2, rfl, rfl, rfl, h2, r2⟩ := trodAll_cons r1
  obtain ⟨rfl, rfl, rfl⟩ := trodAll_nil r2
  obtain rfl : args = #[v0, v1, v2] := by cases args; simp_all
  obtain ⟨rfl, rfl⟩ := trodVars_none hV
  have lt0 := trod_lt h0
  have k0 := h0
  obtain ⟨cs0, x0, rfl, K0, ok0_, u0⟩ := arg_struct (opn46) Try.underlying46 (hval 0 46 v0 rfl rfl) h0 (weigh hsz (j := 0) (t := 46) rfl rfl)
  obtain ⟨w0_0, w0_1⟩ := ok0_
  obtain hcs0 := k46_open K0
  obtain rfl : cs0 = #[.int .i64 x0.f0, .int .i64 x0.f1] := by apply Array.toList_inj.1; exact hcs0
  generalize hg0_0 : x0.f0 = a0_0 at *
  generalize hg0_1 : x0.f1 = a0_1 at *
  have lt1 := trod_lt h1
  have k1 := h1
  obtain ⟨A1, c1, l1, rfl, hc1, hr1, w1, u1⟩ := arg_slice (opn_slice (t := 23) (B := 1) (opn_int (t := 5) Try.underlying5 (by kernel_rfl)) Try.underlying23 (by kernel_rfl) (by kernel_rfl)) Try.underlying23 (hval 1 23 v1 rfl rfl) h1 (weigh hsz (j := 1) (t := 23) rfl rfl)
  have b1 : ((l1.map (fun _ => 1)).sum + 1) ≤ Rows.uptoBulk d1 := u1
  have lt2 := trod_lt h2
  have k2 := h2
  obtain ⟨A2, c2, l2, rfl, hc2, hr2, w2, u2⟩ := arg_slice (opn_slice (t := 23) (B := 1) (opn_int (t := 5) Try.underlying5 (by kernel_rfl)) Try.underlying23 (by kernel_rfl) (by kernel_rfl)) Try.underlying23 (hval 2 23 v2 rfl rfl) h2 (weigh hsz (j := 2) (t := 23) rfl rfl)
  have b2 : ((l2.map (fun _ => 1)).sum + 1) ≤ Rows.uptoBulk d2 := u2
  clear hA0 hval0 hsz0 hsz
  refine (B.cressetlaw01_CodecOrder.walk Pure.CodecOrder a0_0 a0_1 A1 c1 l1 A2 c2 l2 W hr1 hc1 hr2 hc2 w0_0 w0_1 w1 w2).mono fun e W' ⟨he, bel⟩ => ?_
  subst he
  exact ⟨_, rfl, _, _, _, [], _, [], hW', trodAll_mk1 (shut_bool Try.underlying4 _), (trodAll_cons_mk (Below.trod laidOut (by kernel_rfl) (of_decide_eq_true (by kernel_rfl)) k0 bel lt0) (trodAll_cons_mk (Below.trod laidOut (by kernel_rfl) (of_decide_eq_true (by kernel_rfl)) k1 bel lt1) (trodAll_cons_mk (Below.trod laidOut (by kernel_rfl) (of_decide_eq_true (by kernel_rfl)) k2 bel lt2) trodAll_mk0))), rfl, bel.frame _, fun h => by cases h⟩
theorem over : Rows.codecOrderRow.holds Try.pinned (OpenSpec.ofChange Rows.codecOrderSpec) :=
  OpenClaim.holds_of_wide 8 Try.f8 rfl rfl rfl rfl rfl rfl rfl ⟨rfl, rfl, rfl, rfl, rfl⟩ rfl rfl rfl rfl rfl (by kernel_rfl) Try.func8 (by kernel_rfl)
    (of_decide_eq_true (by kernel_rfl)) (by unfold Func.isWrapper; first | (rw [if_pos (by decide +kernel)]; kernel_rfl) | (rw [if_neg (by decide +kernel)]; exact ⟨rfl, rfl⟩))
    (fun os started H enc _ => lifted os started H enc)
theorem proved : Rows.CodecOrderSaid := over
#print axioms proved
end Go.Proofs.Ytphdinelioendaa.codecOrder
namespace Go.Proofs.Ytphdinelioendaa
/-- The row, under a short name, for the claim. -/
theorem codecOrder_holds : Rows.CodecOrderSaid := codecOrder.proved
end Go.Proofs.Ytphdinelioendaa

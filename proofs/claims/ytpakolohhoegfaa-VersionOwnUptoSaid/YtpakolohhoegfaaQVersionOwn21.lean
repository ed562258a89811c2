/-
The law VersionOwn holds of the given program, for every input that the statement speaks of: its row, out of its pure statement and the walk.
-/
import Derived.Test.YtpakolohhoegfaaRows
import Derived.Test.YtpakolohhoegfaaQVersionOwn1
import Derived.Test.YtpakolohhoegfaaQVersionOwn3
import Derived.Test.YtpakolohhoegfaaQVersionOwn5
import Derived.Test.YtpakolohhoegfaaQVersionOwn20
import Derived.WalkKit
import Derived.ProofKit
import Derived.OpenShut
import Derived.ShutString
import Derived.ChangeOld
import Derived.Below
import Derived.SizedLaws
import Derived.JoinedCond
import Derived.Deep.CondSized
namespace Go.Proofs.Ytpakolohhoegfaa.versionOwnUpto
open Go.ChangeShapes Go.WideShapes Go.ChangeAt Go.RowKit Go.Proofs.Ytpakolohhoegfaa.Opn Go.Proofs.Ytpakolohhoegfaa.B
open Go.ChangeMaps (open_string shut_string)
set_option linter.unusedVariables false
set_option linter.unusedSimpArgs false

theorem own : ownKnob Try.prog.godebug = none := by kernel_rfl
theorem laidOut : laidOutB Try.prog = true := by kernel_rfl
set_option maxRecDepth 100000 in
theorem lifted (os : Os) (started : os.Started) (H : Type) (enc : TypeId × Value → H) (F : Stop.Interp) :
    ReturnsInHanded {} Try.checked os 6 .any ((Rows.OpenSpec.upto Rows.versionOwnSpec).pre6 enc Try.prog Try.f6 Rows.versionOwnUptoRow.domain false) (((Rows.OpenSpec.upto Rows.versionOwnSpec).at F).post enc Try.prog Try.f6 false true false false) := by
  refine returnsInHanded_of_cond_sized (C := Try.checked) (s := (Rows.OpenSpec.upto Rows.versionOwnSpec)) (k := Rows.uptoSmall) rfl own started (by kernel_rfl) Try.func6
    (OpenSpec.witness (enc := enc) (C := Try.checked) (s := (Rows.OpenSpec.upto Rows.versionOwnSpec)) (k := Rows.uptoSmall) rfl false ⟨#[], #[.slice none 0 0, .agg #[.int .i64 0, .string ByteArray.empty, .bool false], .agg #[.slice none 0 0, .slice none 0 0, .slice none 0 0, .string ByteArray.empty, .string ByteArray.empty, .int .i64 0, .int .i64 0]], []⟩ 8 (by kernel_rfl) (by kernel_rfl) (by kernel_rfl) (x := ([.nil, .agg [.lit (.int .i64 0), .lit (.string []), .lit (.bool false)], .agg [.nil, .nil, .nil, .agg [.lit (.string []), .lit (.string [])], .lit (.int .i64 0), .lit (.int .i64 0)]], [], [])) (by kernel_rfl) rfl (by kernel_rfl)) ?_
  intro W base args ds gs before hval0 hW hcnd hkk hsz0 _
  have hsz : (DataW.weightsEach Try.prog (Try.f6.params.toList ++ Rows.versionOwnSpec.plain.varTypes Try.prog) (ds ++ gs)).all (· ≤ reachBytes) = true := hsz0
  have hval : ∀ (j : Nat) t v, Try.f6.params[j]? = some t → args[j]? = some v → Value.okWide Try.prog W .any base t v := hval0
  have hW' := hW
  obtain ⟨p, q, hA0, hV, rfl, hfz, hnd⟩ := hW
  have hA : DataW.TrodAll enc Try.prog W 0 (fun _ => true) true Try.f6.params.toList args.toList ds p := hA0
  rw [Try.params6] at hA hval hsz
  obtain ⟨v0, vs0, d0, ds0, p0, q0, hargs, rfl, rfl, h0, r0⟩ := trodAll_cons hA
  obtain ⟨v1, vs1, d1, ds1, p1, q1, rfl, rfl, rfl, h1, r1⟩ := trodAll_cons r0
  obtain ⟨v2, vs2, d2, ds2, p2, q2, rfl, rfl, rfl, h2, r2⟩ := trodAll_cons r1
  obtain ⟨rfl, rfl, rfl⟩ := trodAll_nil r2
  obtain rfl : args = #[v0, v1, v2] := by cases args; simp_all
  obtain ⟨rfl, rfl⟩ := trodVars_none hV
  have lt0 := trod_lt h0
  have k0 := h0
  obtain ⟨A0, c0, l0, rfl, hc0, hr0, w0, u0⟩ := arg_slice (opn_slice (t := 22) (B := 32) (opn33) Try.underlying22 (by kernel_rfl) (by kernel_rfl)) Try.underlying22 (hval 0 22 v0 rfl rfl) h0 (weigh hsz (j := 0) (t := 22) rfl rfl)
  have b0 : ((l0.map bulk33).sum + 1) ≤ Rows.uptoBulk d0 := u0
  have lt1 := trod_lt h1
  have k1 := h1
  obtain ⟨cs1, x1, rfl, K1, ok1_, u1⟩ := arg_struct (opn33) Try.underlying33 (hval 1 33 v1 rfl rfl) h1 (weigh hsz (j := 1) (t := 33) rfl rfl)
  have b1 : ((1) + (((x1.f1.size + 1)) + (1))) + 1 ≤ Rows.uptoBulk d1 := u1
  obtain ⟨w1_0, w1_1, w1_2⟩ := ok1_
  obtain hcs1 := k33_open K1
  obtain rfl : cs1 = #[.int .i64 x1.f0, .string x1.f1, .bool x1.f2] := by apply Array.toList_inj.1; exact hcs1
  generalize hg1_0 : x1.f0 = a1_0 at *
  generalize hg1_1 : x1.f1 = a1_1 at *
  generalize hg1_2 : x1.f2 = a1_2 at *
  have lt2 := trod_lt h2
  have k2 := h2
  obtain ⟨cs2, x2, rfl, K2, ok2_, u2⟩ := arg_struct (opn46) Try.underlying46 (hval 2 46 v2 rfl rfl) h2 (weigh hsz (j := 2) (t := 46) rfl rfl)
  have b2 : ((((x2.f0.map bulk50).sum + 1)) + ((((x2.f1.map bulk58).sum + 1)) + ((((x2.f2.map bulk60).sum + 1)) + (((((x2.f3.f0.size + 1)) + ((x2.f3.f1.size + 1))) + 1) + ((1) + (1)))))) + 1 ≤ Rows.uptoBulk d2 := u2
  obtain ⟨w2_0, w2_1, w2_2, ⟨w2_3, w2_4⟩, w2_5, w2_6⟩ := ok2_
  obtain ⟨A2_0, c2_0, A2_1, c2_1, A2_2, c2_2, hcs2, hc2_0, hr2_0, hc2_1, hr2_1, hc2_2, hr2_2⟩ := k46_open K2
  obtain rfl : cs2 = #[.slice A2_0 x2.f0.length c2_0, .slice A2_1 x2.f1.length c2_1, .slice A2_2 x2.f2.length c2_2, .string x2.f3.f0, .string x2.f3.f1, .int .i64 x2.f4, .int .i64 x2.f5] := by apply Array.toList_inj.1; exact hcs2
  generalize hg2_0 : x2.f0 = l2_0 at *
  generalize hg2_1 : x2.f1 = l2_1 at *
  generalize hg2_2 : x2.f2 = l2_2 at *
  generalize hg2_3 : x2.f3.f0 = a2_3 at *
  generalize hg2_4 : x2.f3.f1 = a2_4 at *
  generalize hg2_5 : x2.f4 = a2_5 at *
  generalize hg2_6 : x2.f5 = a2_6 at *
  have hU : (((l0.map bulk33).sum + 1)) + ((((1) + (((a1_1.size + 1)) + (1))) + 1) + (((((l2_0.map bulk50).sum + 1)) + ((((l2_1.map bulk58).sum + 1)) + ((((l2_2.map bulk60).sum + 1)) + (((((a2_3.size + 1)) + ((a2_4.size + 1))) + 1) + ((1) + (1)))))) + 1)) ≤ 1048576 := by
    have hz := upto hkk
    simp only [List.cons_append, List.nil_append, List.append_nil, Rows.uptoBulkAll] at hz
    omega
  clear hA0 hval0 hsz0 hsz
  refine (B.cressetlaw15_VersionOwn.walk Pure.VersionOwn A0 c0 l0 a1_0 a1_1 a1_2 A2_0 c2_0 l2_0 A2_1 c2_1 l2_1 A2_2 c2_2 l2_2 a2_3 a2_4 a2_5 a2_6 W hr0 hc0 hr2_0 hc2_0 hr2_1 hc2_1 hr2_2 hc2_2 w0 w1_0 w1_1 w2_0 w2_1 w2_2 w2_3 w2_4 w2_5 w2_6 hU).mono fun e W' ⟨he, bel⟩ => ?_
  subst he
  exact ⟨_, rfl, _, _, _, [], _, [], hW', trodAll_mk1 (shut_bool Try.underlying4 _), (trodAll_cons_mk (Below.trod laidOut (by kernel_rfl) (of_decide_eq_true (by kernel_rfl)) k0 bel lt0) (trodAll_cons_mk (Below.trod laidOut (by kernel_rfl) (of_decide_eq_true (by kernel_rfl)) k1 bel lt1) (trodAll_cons_mk (Below.trod laidOut (by kernel_rfl) (of_decide_eq_true (by kernel_rfl)) k2 bel lt2) trodAll_mk0))), rfl, bel.frame _, fun h => by cases h⟩
theorem over : Rows.versionOwnUptoRow.holds Try.pinned (Rows.OpenSpec.upto Rows.versionOwnSpec) :=
  OpenClaim.holds_of_cond 6 Try.f6 rfl rfl rfl rfl rfl rfl rfl ⟨rfl, rfl, rfl, rfl, rfl⟩ rfl rfl rfl rfl rfl (by kernel_rfl) Try.func6 (by kernel_rfl)
    (of_decide_eq_true (by kernel_rfl)) (by unfold Func.isWrapper; first | (rw [if_pos (by decide +kernel)]; kernel_rfl) | (rw [if_neg (by decide +kernel)]; exact ⟨rfl, rfl⟩))
    (fun os started H enc _ F => lifted os started H enc F)
theorem proved : Rows.VersionOwnUptoSaid := over
#print axioms proved
end Go.Proofs.Ytpakolohhoegfaa.versionOwnUpto
namespace Go.Proofs.Ytpakolohhoegfaa

/-- The row, under a short name, for the claim. -/
theorem versionOwnUpto_holds : Rows.VersionOwnUptoSaid := versionOwnUpto.proved
end Go.Proofs.Ytpakolohhoegfaa

/-
The law KeysOwn holds of the given program, for every input that the statement speaks of: its row, out of its pure statement and the walk.
-/
import Derived.Test.YtmgbmnjjkcljhaaRows
import Derived.Test.YtmgbmnjjkcljhaaOpn
import Derived.Test.YtmgbmnjjkcljhaaBxo
import Derived.Test.YtmgbmnjjkcljhaaBx25
import Derived.Test.YtmgbmnjjkcljhaaPureKeysOwn
import Derived.WalkKit
import Derived.ProofKit
import Derived.OpenShut
import Derived.ShutString
import Derived.ChangeOld
import Derived.Below
import Derived.SizedLaws
import Derived.JoinedCond
import Derived.Deep.CondSized
namespace Go.Proofs.Ytmgbmnjjkcljhaa.keysOwnUpto
open Go.ChangeShapes Go.WideShapes Go.ChangeAt Go.RowKit Go.Proofs.Ytmgbmnjjkcljhaa.Opn Go.Proofs.Ytmgbmnjjkcljhaa.B
open Go.ChangeMaps (open_string shut_string)
set_option linter.unusedVariables false
set_option linter.unusedSimpArgs false
theorem own : ownKnob Try.prog.godebug = none := by kernel_rfl
theorem laidOut : laidOutB Try.prog = true := by kernel_rfl
set_option maxRecDepth 100000 in
theorem lifted (os : Os) (started : os.Started) (H : Type) (enc : TypeId × Value → H) (F : Stop.Interp) :
    ReturnsInHanded {} Try.checked os 8 .any ((Rows.OpenSpec.upto Rows.keysOwnSpec).pre6 enc Try.prog Try.f8 Rows.keysOwnUptoRow.domain false) (((Rows.OpenSpec.upto Rows.keysOwnSpec).at F).post enc Try.prog Try.f8 false true false false) := by
  refine returnsInHanded_of_cond_sized (C := Try.checked) (s := (Rows.OpenSpec.upto Rows.keysOwnSpec)) (k := Rows.uptoSmall) rfl own started (by kernel_rfl) Try.func8
    (OpenSpec.witness (enc := enc) (C := Try.checked) (s := (Rows.OpenSpec.upto Rows.keysOwnSpec)) (k := Rows.uptoSmall) rfl false ⟨#[], #[.slice none 0 0, .agg #[.string ByteArray.empty, .string ByteArray.empty]], []⟩ 8 (by kernel_rfl) (by kernel_rfl) (by kernel_rfl) (x := ([.nil, .agg [.lit (.string []), .lit (.string [])]], [], [])) (by kernel_rfl) rfl (by kernel_rfl)) ?_
  intro W base args ds gs before hval0 hW hcnd hkk hsz0 _
  have hsz : (DataW.weightsEach Try.prog (Try.f8.params.toList ++ Rows.keysOwnSpec.plain.varTypes Try.prog) (ds ++ gs)).all (· ≤ reachBytes) = true := hsz0
  have hval : ∀ (j : Nat) t v, Try.f8.params[j]? = some t → args[j]? = some v → Value.okWide Try.prog W .any base t v := hval0
  have hW' := hW
  obtain ⟨p, q, hA0, hV, rfl, hfz, hnd⟩ := hW
  have hA : DataW.TrodAll enc Try.prog W 0 (fun _ => true) true Try.f8.params.toList args.toList ds p := hA0
  rw [Try.params8] at hA hval hsz
  obtain ⟨v0, vs0, d0, ds0, p0, q0, hargs, rfl, rfl, h0, r0⟩ := trodAll_cons hA
  obtain ⟨v1, vs1, d1, ds1, p1, q1, rfl, rfl, rfl, h1, r1⟩ := trodAll_cons r0
  obtain ⟨rfl, rfl, rfl⟩ := trodAll_nil r1
  obtain rfl : args = #[v0, v1] := by cases args; simp_all
  obtain ⟨rfl, rfl⟩ := trodVars_none hV
  have lt0 := trod_lt h0
  have k0 := h0
  obtain ⟨A0, c0, l0, rfl, hc0, hr0, w0, u0⟩ := arg_slice (opn_slice (t := 36) (B := 32) (opn27) Try.underlying36 (by kernel_rfl) (by kernel_rfl)) Try.underlying36 (hval 0 36 v0 rfl rfl) h0 (weigh hsz (j := 0) (t := 36) rfl rfl)
  have b0 : ((l0.map bulk27).sum + 1) ≤ Rows.uptoBulk d0 := u0
  have lt1 := trod_lt h1
  have k1 := h1
  obtain ⟨cs1, x1, rfl, K1, ok1_, u1⟩ := arg_struct (opn27) Try.underlying27 (hval 1 27 v1 rfl rfl) h1 (weigh hsz (j := 1) (t := 27) rfl rfl)
  have b1 : (((x1.f0.size + 1)) + ((x1.f1.size + 1))) + 1 ≤ Rows.uptoBulk d1 := u1
  obtain ⟨w1_0, w1_1⟩ := ok1_
  obtain hcs1 := k27_open K1
  obtain rfl : cs1 = #[.string x1.f0, .string x1.f1] := by apply Array.toList_inj.1; exact hcs1
  generalize hg1_0 : x1.f0 = a1_0 at *
  generalize hg1_1 : x1.f1 = a1_1 at *
  have hU : (((l0.map bulk27).sum + 1)) + ((((a1_0.size + 1)) + ((a1_1.size + 1))) + 1) ≤ 1048576 := by
    have hz := upto hkk
    simp only [List.cons_append, List.nil_append, List.append_nil, Rows.uptoBulkAll] at hz
    omega
  clear hA0 hval0 hsz0 hsz
  refine (B.cressetlaw05_KeysOwn.walk Pure.KeysOwn A0 c0 l0 a1_0 a1_1 W hr0 hc0 w0 w1_0 w1_1 hU).mono fun e W' ⟨he, bel⟩ => ?_
  subst he
  exact ⟨_, rfl, _, _, _, [], _, [], hW', trodAll_mk1 (shut_bool Try.underlying4 _), (trodAll_cons_mk (Below.trod laidOut (by kernel_rfl) (of_decide_eq_true (by kernel_rfl)) k0 bel lt0) (trodAll_cons_mk (Below.trod laidOut (by kernel_rfl) (of_decide_eq_true (by kernel_rfl)) k1 bel lt1) trodAll_mk0)), rfl, bel.frame _, fun h => by cases h⟩
theorem over : Rows.keysOwnUptoRow.holds Try.pinned (Rows.OpenSpec.upto Rows.keysOwnSpec) :=
  OpenClaim.holds_of_cond 8 Try.f8 rfl rfl rfl rfl rfl rfl rfl ⟨rfl, rfl, rfl, rfl, rfl⟩ rfl rfl rfl rfl rfl (by kernel_rfl) Try.func8 (by kernel_rfl)
    (of_decide_eq_true (by kernel_rfl)) (by unfold Func.isWrapper; first | (rw [if_pos (by decide +kernel)]; kernel_rfl) | (rw [if_neg (by decide +kernel)]; exact ⟨rfl, rfl⟩))
    (fun os started H enc _ F => lifted os started H enc F)
theorem proved : Rows.KeysOwnUptoSaid := over
#print axioms proved
end Go.Proofs.Ytmgbmnjjkcljhaa.keysOwnUpto
namespace Go.Proofs.Ytmgbmnjjkcljhaa
/-- The row, under a short name, for the claim. -/
theorem keysOwnUpto_holds : Rows.KeysOwnUptoSaid := keysOwnUpto.proved
end Go.Proofs.Ytmgbmnjjkcljhaa

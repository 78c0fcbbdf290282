/- The statement of FnExactIsValidRecord: whatever the input, the law returns true and its arguments read as they did. No conditions. -/
import Derived.Test.YtlhhflfljhdgkaaRows
import Derived.Test.YtlhhflfljhdgkaaX2
import Derived.Test.YtlhhflfljhdgkaaPureFnExactIsValidRecord
import Derived.Test.YtlhhflfljhdgkaaBase
import Derived.WalkKit
import Derived.ProofKit
import Derived.OpenShut
import Derived.ShutString
import Derived.ChangeOld
import Derived.Below
import Derived.SizedLaws
namespace Go.Proofs.Ytlhhflfljhdgkaa.fnExactIsValidRecord
open Go.ChangeShapes Go.WideShapes Go.ChangeAt Go.RowKit Go.Proofs.Ytlhhflfljhdgkaa Go.Proofs.YtlhhflfljhdgkaaW.PrintWords Go.Proofs.YtlhhflfljhdgkaaW.PrintLast Go.Proofs.YtlhhflfljhdgkaaW.PrintMore Go.Proofs.Ytlhhflfljhdgkaa.X
set_option linter.unusedVariables false
set_option linter.unusedSimpArgs false
set_option maxRecDepth 100000
theorem own : ownKnob Try.prog.godebug = none := by kernel_rfl
theorem laidOut : laidOutB Try.prog = true := by kernel_rfl
theorem opn9 : G.Opn Try.prog 9 Kd.string (fun x : (ByteArray) => x.size ≤ 140737488351232) := by
  exact G.opn_string Try.underlying9
theorem opn23 : G.Opn Try.prog 23 (Kd.pair Kd.string Kd.string) (fun x : ((ByteArray) × (ByteArray)) => (x.1.size ≤ 140737488351232 ∧ x.2.size ≤ 140737488351232)) := by
  refine G.opn_struct (ok := (fun x : ((ByteArray) × (ByteArray)) => (fun x : (ByteArray) => x.size ≤ 140737488351232) x.1 ∧ (fun x : (ByteArray) => x.size ≤ 140737488351232) x.2)) Try.underlying23 (by kernel_rfl) ?_
  refine G.flds_cons (d := Kd.string) (d2 := Kd.string) (ok := (fun x : (ByteArray) => x.size ≤ 140737488351232)) (ok2 := (fun x : (ByteArray) => x.size ≤ 140737488351232)) (G.fld rfl (by kernel_rfl) opn9) ?_
  exact G.flds_one (d := Kd.string) (ok := (fun x : (ByteArray) => x.size ≤ 140737488351232)) (G.fld rfl (by kernel_rfl) opn9)
set_option maxHeartbeats 1000000 in
theorem lifted (os : Os) (started : os.Started) (H : Type) (enc : TypeId × Value → H) :
    ReturnsInHanded {} Try.checked os 3 .any (Rows.fnExactIsValidRecordSpec.pre6 enc Try.prog Try.f3 Rows.fnExactIsValidRecordRow.domain false) (Rows.fnExactIsValidRecordSpec.post enc Try.prog Try.f3 false true false false) := by
  refine returnsInHanded_of_change_sized (C := Try.checked) own started (by kernel_rfl) Try.func3
    (ChangeSpec.witness6 (enc := enc) (C := Try.checked) false ⟨#[], #[.agg #[.string ByteArray.empty, .string ByteArray.empty]], []⟩ 8 (by kernel_rfl) (by kernel_rfl) (by kernel_rfl) (by kernel_rfl)) ?_
  intro W base args ds gs before hval0 hW hcnd hsz0 _
  have hsz : (DataW.weightsEach Try.prog (Try.f3.params.toList ++ Rows.fnExactIsValidRecordSpec.plain.varTypes Try.prog) (ds ++ gs)).all (· ≤ reachBytes) = true := hsz0
  have hval : ∀ (j : Nat) t v, Try.f3.params[j]? = some t → args[j]? = some v → Value.okWide Try.prog W .any base t v := hval0
  have hW' := hW
  obtain ⟨p, q, hA0, hV, rfl, hfz, hnd⟩ := hW
  have hA : DataW.TrodAll enc Try.prog W 0 (fun _ => true) true Try.f3.params.toList args.toList ds p := hA0
  rw [Try.params3] at hA hval hsz
  obtain ⟨v0, vs0, d0, ds0, p0, q0, hargs, rfl, rfl, h0, r0⟩ := trodAll_cons hA
  obtain ⟨rfl, rfl, rfl⟩ := trodAll_nil r0
  obtain rfl : args = #[v0] := by cases args; simp_all
  obtain ⟨rfl, rfl⟩ := trodVars_none hV
  have k0 := h0
  have lt0 : ∀ x ∈ p0, x.block < W.heap.size := by obtain ⟨m, hm⟩ := k0; exact DataW.trod_lt m _ _ _ hm
  obtain ⟨⟨a0_0, a0_1⟩, hK0, ok0⟩ := G.opn_arg opn23 hsz (j := 0) rfl rfl h0
  obtain ⟨_, _, hcs0, rfl, rfl⟩ := hK0
  obtain ⟨o0_0, o0_1⟩ := ok0
  obtain rfl : v0 = .agg #[.string a0_0, .string a0_1] := G.arg_agg Try.underlying23 (hval 0 23 v0 rfl rfl) hcs0
  clear hA0 hval0 hsz0 hsz
  obtain ⟨k, h⟩ := Pure.FnExactIsValidRecord a0_0 a0_1 o0_0 o0_1
  refine (X.laws_FnExactIsValidRecord.calls k a0_0 a0_1 true W  h).mono fun e W' ⟨he, bel0⟩ => ?_
  have bel : Below W.heap.size W W' := bel0
  subst he
  exact ⟨_, rfl, _, _, _, [], _, [], hW', trodAll_mk1 (shut_bool Try.underlying4 _), (trodAll_cons_mk (Below.trod laidOut (by kernel_rfl) (of_decide_eq_true (by kernel_rfl)) k0 bel lt0) trodAll_mk0), rfl, bel.frame _, fun h => by cases h⟩
theorem over : Rows.fnExactIsValidRecordRow.holds Try.pinned (OpenSpec.ofChange Rows.fnExactIsValidRecordSpec) :=
  OpenClaim.holds_of_wide 3 Try.f3 rfl rfl rfl rfl rfl rfl rfl ⟨rfl, rfl, rfl, rfl, rfl⟩ rfl rfl rfl rfl rfl (by kernel_rfl) Try.func3 (by kernel_rfl)
    (of_decide_eq_true (by kernel_rfl)) (by unfold Func.isWrapper; first | (rw [if_pos (by decide +kernel)]; kernel_rfl) | (rw [if_neg (by decide +kernel)]; exact ⟨rfl, rfl⟩))
    (fun os started H enc _ => lifted os started H enc)
end Go.Proofs.Ytlhhflfljhdgkaa.fnExactIsValidRecord
namespace Go.Proofs.Ytlhhflfljhdgkaa
theorem fnExactIsValidRecord_holds : Rows.FnExactIsValidRecordSaid := fnExactIsValidRecord.over
#print axioms fnExactIsValidRecord_holds
end Go.Proofs.Ytlhhflfljhdgkaa

/- The statement of FnExactPlainCode: whatever the input, the law returns true and its arguments read as they did. No conditions. -/
import Derived.Test.YtknonolfgpknjaaRows
import Derived.Test.YtknonolfgpknjaaX7
import Derived.Test.YtknonolfgpknjaaPureFnExactPlainCode
import Derived.Test.YtknonolfgpknjaaBase
import Derived.WalkKit
import Derived.ProofKit
import Derived.OpenShut
import Derived.ShutString
import Derived.ChangeOld
import Derived.Below
import Derived.SizedLaws
namespace Go.Proofs.Ytknonolfgpknjaa.fnExactPlainCode
open Go.ChangeShapes Go.WideShapes Go.ChangeAt Go.RowKit Go.Proofs.Ytknonolfgpknjaa Go.Proofs.YtknonolfgpknjaaW.PrintWords Go.Proofs.YtknonolfgpknjaaW.PrintLast Go.Proofs.YtknonolfgpknjaaW.PrintMore Go.Proofs.Ytknonolfgpknjaa.X
set_option linter.unusedVariables false
set_option linter.unusedSimpArgs false
set_option maxRecDepth 100000
theorem own : ownKnob Try.prog.godebug = none := by kernel_rfl
theorem laidOut : laidOutB Try.prog = true := by kernel_rfl
theorem opn3 : G.Opn Try.prog 3 (Kd.int .i64) (fun x : (Int) => (Lit.int .i64 x).wf = true) := by
  exact G.opn_int Try.underlying3
theorem opn22 : G.Opn Try.prog 22 (Kd.slice 3 (Kd.int .i64)) (fun x : (List Int) => (x.length * 8 ≤ 140737488351232 ∧ ∀ y ∈ x, (Lit.int .i64 y).wf = true)) := by
  exact G.opn_slice Try.underlying22 (by kernel_rfl) opn3
set_option maxHeartbeats 1000000 in
theorem lifted (os : Os) (started : os.Started) (H : Type) (enc : TypeId × Value → H) :
    ReturnsInHanded {} Try.checked os 3 .any (Rows.fnExactPlainCodeSpec.pre6 enc Try.prog Try.f3 Rows.fnExactPlainCodeRow.domain false) (Rows.fnExactPlainCodeSpec.post enc Try.prog Try.f3 false true false false) := by
  refine returnsInHanded_of_change_sized (C := Try.checked) own started (by kernel_rfl) Try.func3
    (ChangeSpec.witness6 (enc := enc) (C := Try.checked) false ⟨#[], #[.slice none 0 0], []⟩ 8 (by kernel_rfl) (by kernel_rfl) (by kernel_rfl) (by kernel_rfl)) ?_
  intro W base args ds gs before hval0 hW hcnd hsz0 _
  have hsz : (DataW.weightsEach Try.prog (Try.f3.params.toList ++ Rows.fnExactPlainCodeSpec.plain.varTypes Try.prog) (ds ++ gs)).all (· ≤ reachBytes) = true := hsz0
  have hval : ∀ (j : Nat) t v, Try.f3.params[j]? = some t → args[j]? = some v → Value.okWide Try.prog W .any base t v := hval0
  have hW' := hW
  obtain ⟨p, q, hA0, hV, rfl, hfz, hnd⟩ := hW
  have hA : DataW.TrodAll enc Try.prog W 0 (fun _ => true) true Try.f3.params.toList args.toList ds p := hA0
  rw [Try.params3] at hA hval hsz
  obtain ⟨v0, vs0, d0, ds0, p0, q0, hargs, rfl, rfl, h0, r0⟩ := trodAll_cons hA
  obtain ⟨rfl, rfl, rfl⟩ := trodAll_nil r0
  obtain rfl : args = #[v0] := by cases args; simp_all
  obtain ⟨rfl, rfl⟩ := trodVars_none hV
  have k0 := h0
  have lt0 : ∀ x ∈ p0, x.block < W.heap.size := by obtain ⟨m, hm⟩ := k0; exact DataW.trod_lt m _ _ _ hm
  obtain ⟨l0, hK0, o0⟩ := G.opn_arg opn22 hsz (j := 0) rfl rfl h0
  obtain ⟨A0, c0, rfl, hlc0, hC0⟩ := G.arg_slice Try.underlying22 (hval 0 22 v0 rfl rfl) hK0
  clear hA0 hval0 hsz0 hsz
  obtain ⟨k, h⟩ := Pure.FnExactPlainCode l0 o0
  refine (X.laws_FnExactPlainCode.calls k A0 c0 l0 true W hC0 hlc0 h rfl).mono fun e W' ⟨he, bel0⟩ => ?_
  have bel : Below W.heap.size W W' := bel0
  subst he
  exact ⟨_, rfl, _, _, _, [], _, [], hW', trodAll_mk1 (shut_bool Try.underlying4 _), (trodAll_cons_mk (Below.trod laidOut (by kernel_rfl) (of_decide_eq_true (by kernel_rfl)) k0 bel lt0) trodAll_mk0), rfl, bel.frame _, fun h => by cases h⟩
theorem over : Rows.fnExactPlainCodeRow.holds Try.pinned (OpenSpec.ofChange Rows.fnExactPlainCodeSpec) :=
  OpenClaim.holds_of_wide 3 Try.f3 rfl rfl rfl rfl rfl rfl rfl ⟨rfl, rfl, rfl, rfl, rfl⟩ rfl rfl rfl rfl rfl (by kernel_rfl) Try.func3 (by kernel_rfl)
    (of_decide_eq_true (by kernel_rfl)) (by unfold Func.isWrapper; first | (rw [if_pos (by decide +kernel)]; kernel_rfl) | (rw [if_neg (by decide +kernel)]; exact ⟨rfl, rfl⟩))
    (fun os started H enc _ => lifted os started H enc)
end Go.Proofs.Ytknonolfgpknjaa.fnExactPlainCode
namespace Go.Proofs.Ytknonolfgpknjaa
theorem fnExactPlainCode_holds : Rows.FnExactPlainCodeSaid := fnExactPlainCode.over
#print axioms fnExactPlainCode_holds
end Go.Proofs.Ytknonolfgpknjaa

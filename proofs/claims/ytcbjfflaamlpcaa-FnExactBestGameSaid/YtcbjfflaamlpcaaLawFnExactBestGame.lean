/- The statement of FnExactBestGame: whatever the input, the law returns true and its arguments read as they did. No conditions. -/
import Derived.Test.YtcbjfflaamlpcaaRows
import Derived.Test.YtcbjfflaamlpcaaX17
import Derived.Test.YtcbjfflaamlpcaaPureFnExactBestGame
import Derived.Test.YtcbjfflaamlpcaaBase
import Derived.WalkKit
import Derived.ProofKit
import Derived.OpenShut
import Derived.ShutString
import Derived.ChangeOld
import Derived.Below
import Derived.SizedLaws
namespace Go.Proofs.Ytcbjfflaamlpcaa.fnExactBestGame
open Go.ChangeShapes Go.WideShapes Go.ChangeAt Go.RowKit Go.Proofs.Ytcbjfflaamlpcaa Go.Proofs.YtcbjfflaamlpcaaW.PrintWords Go.Proofs.YtcbjfflaamlpcaaW.PrintLast Go.Proofs.YtcbjfflaamlpcaaW.PrintMore Go.Proofs.Ytcbjfflaamlpcaa.X
set_option linter.unusedVariables false
set_option linter.unusedSimpArgs false
set_option maxRecDepth 100000
theorem own : ownKnob Try.prog.godebug = none := by kernel_rfl
theorem laidOut : laidOutB Try.prog = true := by kernel_rfl
theorem opn3 : G.Opn Try.prog 3 (Kd.int .i64) (fun x : (Int) => (Lit.int .i64 x).wf = true) := by
  exact G.opn_int Try.underlying3
theorem opn4 : G.Opn Try.prog 4 Kd.bool (fun x : (Bool) => True) := by
  exact G.opn_bool Try.underlying4
theorem opn80p : G.Opn Try.prog 80 (Kd.pair (Kd.int .i64) (Kd.pair (Kd.int .i64) Kd.bool)) (fun x : ((Int) × (Int) × (Bool)) => (fun x : (Int) => (Lit.int .i64 x).wf = true) x.1 ∧ (fun x : ((Int) × (Bool)) => (fun x : (Int) => (Lit.int .i64 x).wf = true) x.1 ∧ (fun x : (Bool) => True) x.2) x.2) := by
  refine G.opn_struct (ok := (fun x : ((Int) × (Int) × (Bool)) => (fun x : (Int) => (Lit.int .i64 x).wf = true) x.1 ∧ (fun x : ((Int) × (Bool)) => (fun x : (Int) => (Lit.int .i64 x).wf = true) x.1 ∧ (fun x : (Bool) => True) x.2) x.2)) Try.underlying80 (by kernel_rfl) ?_
  refine G.flds_cons (d := (Kd.int .i64)) (d2 := (Kd.pair (Kd.int .i64) Kd.bool)) (ok := (fun x : (Int) => (Lit.int .i64 x).wf = true)) (ok2 := (fun x : ((Int) × (Bool)) => (fun x : (Int) => (Lit.int .i64 x).wf = true) x.1 ∧ (fun x : (Bool) => True) x.2)) (G.fld rfl (by kernel_rfl) opn3) ?_
  refine G.flds_cons (d := (Kd.int .i64)) (d2 := Kd.bool) (ok := (fun x : (Int) => (Lit.int .i64 x).wf = true)) (ok2 := (fun x : (Bool) => True)) (G.fld rfl (by kernel_rfl) opn3) ?_
  exact G.flds_one (d := Kd.bool) (ok := (fun x : (Bool) => True)) (G.fld rfl (by kernel_rfl) opn4)
theorem opn80e : G.Opn Try.prog 80 k80 (fun x : S80 => ((Lit.int .i64 x.f0).wf = true ∧ (Lit.int .i64 x.f1).wf = true ∧ True)) := by
  exact G.opn_iso opn80p (fun x : S80 => (x.f0, x.f1, x.f2)) (fun y => ⟨y.1, y.2.1, y.2.2⟩) (fun _ => rfl)
theorem opn22 : G.Opn Try.prog 22 (Kd.slice 80 k80) (fun x : (List (S80)) => (x.length * 24 ≤ 140737488351232 ∧ ∀ y ∈ x, ((Lit.int .i64 y.f0).wf = true ∧ (Lit.int .i64 y.f1).wf = true ∧ True))) := by
  exact G.opn_slice Try.underlying22 (by kernel_rfl) opn80e
theorem opn24 : G.Opn Try.prog 24 (Kd.slice 80 k80) (fun x : ((List (S80))) => ((x.length * 24 ≤ 140737488351232 ∧ ∀ y ∈ x, ((Lit.int .i64 y.f0).wf = true ∧ (Lit.int .i64 y.f1).wf = true ∧ True)))) := by
  refine G.opn_struct (ok := (fun x : (List (S80)) => (x.length * 24 ≤ 140737488351232 ∧ ∀ y ∈ x, ((Lit.int .i64 y.f0).wf = true ∧ (Lit.int .i64 y.f1).wf = true ∧ True)))) Try.underlying24 (by kernel_rfl) ?_
  exact G.flds_one (d := (Kd.slice 80 k80)) (ok := (fun x : (List (S80)) => (x.length * 24 ≤ 140737488351232 ∧ ∀ y ∈ x, ((Lit.int .i64 y.f0).wf = true ∧ (Lit.int .i64 y.f1).wf = true ∧ True)))) (G.fld rfl (by kernel_rfl) opn22)
set_option maxHeartbeats 1000000 in
theorem lifted (os : Os) (started : os.Started) (H : Type) (enc : TypeId × Value → H) :
    ReturnsInHanded {} Try.checked os 12 .any (Rows.fnExactBestGameSpec.pre6 enc Try.prog Try.f12 Rows.fnExactBestGameRow.domain false) (Rows.fnExactBestGameSpec.post enc Try.prog Try.f12 false true false false) := by
  refine returnsInHanded_of_change_sized (C := Try.checked) own started (by kernel_rfl) Try.func12
    (ChangeSpec.witness6 (enc := enc) (C := Try.checked) false ⟨#[], #[.agg #[.slice none 0 0], .int .i64 0], []⟩ 8 (by kernel_rfl) (by kernel_rfl) (by kernel_rfl) (by kernel_rfl)) ?_
  intro W base args ds gs before hval0 hW hcnd hsz0 _
  have hsz : (DataW.weightsEach Try.prog (Try.f12.params.toList ++ Rows.fnExactBestGameSpec.plain.varTypes Try.prog) (ds ++ gs)).all (· ≤ reachBytes) = true := hsz0
  have hval : ∀ (j : Nat) t v, Try.f12.params[j]? = some t → args[j]? = some v → Value.okWide Try.prog W .any base t v := hval0
  have hW' := hW
  obtain ⟨p, q, hA0, hV, rfl, hfz, hnd⟩ := hW
  have hA : DataW.TrodAll enc Try.prog W 0 (fun _ => true) true Try.f12.params.toList args.toList ds p := hA0
  rw [Try.params12] at hA hval hsz
  obtain ⟨v0, vs0, d0, ds0, p0, q0, hargs, rfl, rfl, h0, r0⟩ := trodAll_cons hA
  obtain ⟨v1, vs1, d1, ds1, p1, q1, rfl, rfl, rfl, h1, r1⟩ := trodAll_cons r0
  obtain ⟨rfl, rfl, rfl⟩ := trodAll_nil r1
  obtain rfl : args = #[v0, v1] := by cases args; simp_all
  obtain ⟨rfl, rfl⟩ := trodVars_none hV
  have k0 := h0
  have lt0 : ∀ x ∈ p0, x.block < W.heap.size := by obtain ⟨m, hm⟩ := k0; exact DataW.trod_lt m _ _ _ hm
  obtain ⟨l0_0, hK0, ok0⟩ := G.opn_arg opn24 hsz (j := 0) rfl rfl h0
  obtain ⟨A0_0, c0_0, hcs0, hlc0_0, hC0_0⟩ := hK0
  have o0_0 := ok0
  obtain rfl : v0 = .agg #[.slice A0_0 l0_0.length c0_0] := G.arg_agg Try.underlying24 (hval 0 24 v0 rfl rfl) hcs0
  have k1 := h1
  have lt1 : ∀ x ∈ p1, x.block < W.heap.size := by obtain ⟨m, hm⟩ := k1; exact DataW.trod_lt m _ _ _ hm
  obtain ⟨a1, hK1, o1⟩ := G.opn_arg opn3 hsz (j := 1) rfl rfl h1
  obtain rfl := G.arg_int Try.underlying3 (hval 1 3 v1 rfl rfl) hK1
  clear hA0 hval0 hsz0 hsz
  obtain ⟨k, h⟩ := Pure.FnExactBestGame l0_0 a1 o0_0 o1
  refine (X.laws_FnExactBestGame.calls k A0_0 c0_0 l0_0 a1 true W hC0_0 hlc0_0 h rfl).mono fun e W' ⟨he, bel0⟩ => ?_
  have bel : Below W.heap.size W W' := bel0
  subst he
  exact ⟨_, rfl, _, _, _, [], _, [], hW', trodAll_mk1 (shut_bool Try.underlying4 _), (trodAll_cons_mk (Below.trod laidOut (by kernel_rfl) (of_decide_eq_true (by kernel_rfl)) k0 bel lt0) (trodAll_cons_mk (Below.trod laidOut (by kernel_rfl) (of_decide_eq_true (by kernel_rfl)) k1 bel lt1) trodAll_mk0)), rfl, bel.frame _, fun h => by cases h⟩
theorem over : Rows.fnExactBestGameRow.holds Try.pinned (OpenSpec.ofChange Rows.fnExactBestGameSpec) :=
  OpenClaim.holds_of_wide 12 Try.f12 rfl rfl rfl rfl rfl rfl rfl ⟨rfl, rfl, rfl, rfl, rfl⟩ rfl rfl rfl rfl rfl (by kernel_rfl) Try.func12 (by kernel_rfl)
    (of_decide_eq_true (by kernel_rfl)) (by unfold Func.isWrapper; first | (rw [if_pos (by decide +kernel)]; kernel_rfl) | (rw [if_neg (by decide +kernel)]; exact ⟨rfl, rfl⟩))
    (fun os started H enc _ => lifted os started H enc)
end Go.Proofs.Ytcbjfflaamlpcaa.fnExactBestGame
namespace Go.Proofs.Ytcbjfflaamlpcaa
theorem fnExactBestGame_holds : Rows.FnExactBestGameSaid := fnExactBestGame.over
#print axioms fnExactBestGame_holds
end Go.Proofs.Ytcbjfflaamlpcaa

/- The statement of FnExactPlayLetters: whatever the input, the law returns true and its arguments read as they did. No conditions. -/
import Derived.Test.YtcbjfflaamlpcaaDoorTie
import Derived.Test.YtcbjfflaamlpcaaDoorCards
import Derived.LaidMore
import Derived.Lay
import Derived.SevenTiedAt
import Derived.Stop.Joined
import Derived.Stop.LaidErr
import Derived.Lib.LaidTab
import Derived.Test.YtcbjfflaamlpcaaDoorRows
import Derived.Test.YtcbjfflaamlpcaaDoorX23
import Derived.Test.YtcbjfflaamlpcaaDoorPureFnExactPlayLetters
import Derived.Test.YtcbjfflaamlpcaaDoorBase
import Derived.WalkKit
import Derived.ProofKit
import Derived.OpenShut
import Derived.ShutString
import Derived.ChangeOld
import Derived.Below
import Derived.SizedLaws
namespace Go.Proofs.YtcbjfflaamlpcaaDoor.fnExactPlayLetters
open Go.ChangeShapes Go.WideShapes Go.ChangeAt Go.RowKit Go.Proofs.YtcbjfflaamlpcaaDoor Go.Proofs.YtcbjfflaamlpcaaDoorW.PrintWords Go.Proofs.YtcbjfflaamlpcaaDoorW.PrintLast Go.Proofs.YtcbjfflaamlpcaaDoorW.PrintMore Go.Proofs.YtcbjfflaamlpcaaDoor.X
set_option linter.unusedVariables false
set_option linter.unusedSimpArgs false
set_option maxRecDepth 100000
theorem own : ownKnob Tryd.prog.godebug = none := by kernel_rfl
theorem laidOut : laidOutB Tryd.prog = true := by kernel_rfl
theorem opn3 : G.Opn Tryd.prog 3 (Kd.int .i64) (fun x : (Int) => (Lit.int .i64 x).wf = true) := by
  exact G.opn_int Tryd.underlying3
theorem opn4 : G.Opn Tryd.prog 4 Kd.bool (fun x : (Bool) => True) := by
  exact G.opn_bool Tryd.underlying4
theorem opn61p : G.Opn Tryd.prog 61 (Kd.pair (Kd.int .i64) (Kd.pair (Kd.int .i64) Kd.bool)) (fun x : ((Int) × (Int) × (Bool)) => (fun x : (Int) => (Lit.int .i64 x).wf = true) x.1 ∧ (fun x : ((Int) × (Bool)) => (fun x : (Int) => (Lit.int .i64 x).wf = true) x.1 ∧ (fun x : (Bool) => True) x.2) x.2) := by
  refine G.opn_struct (ok := (fun x : ((Int) × (Int) × (Bool)) => (fun x : (Int) => (Lit.int .i64 x).wf = true) x.1 ∧ (fun x : ((Int) × (Bool)) => (fun x : (Int) => (Lit.int .i64 x).wf = true) x.1 ∧ (fun x : (Bool) => True) x.2) x.2)) Tryd.underlying61 (by kernel_rfl) ?_
  refine G.flds_cons (d := (Kd.int .i64)) (d2 := (Kd.pair (Kd.int .i64) Kd.bool)) (ok := (fun x : (Int) => (Lit.int .i64 x).wf = true)) (ok2 := (fun x : ((Int) × (Bool)) => (fun x : (Int) => (Lit.int .i64 x).wf = true) x.1 ∧ (fun x : (Bool) => True) x.2)) (G.fld rfl (by kernel_rfl) opn3) ?_
  refine G.flds_cons (d := (Kd.int .i64)) (d2 := Kd.bool) (ok := (fun x : (Int) => (Lit.int .i64 x).wf = true)) (ok2 := (fun x : (Bool) => True)) (G.fld rfl (by kernel_rfl) opn3) ?_
  exact G.flds_one (d := Kd.bool) (ok := (fun x : (Bool) => True)) (G.fld rfl (by kernel_rfl) opn4)
theorem opn61e : G.Opn Tryd.prog 61 k61 (fun x : S61 => ((Lit.int .i64 x.f0).wf = true ∧ (Lit.int .i64 x.f1).wf = true ∧ True)) := by
  exact G.opn_iso opn61p (fun x : S61 => (x.f0, x.f1, x.f2)) (fun y => ⟨y.1, y.2.1, y.2.2⟩) (fun _ => rfl)
theorem opn22 : G.Opn Tryd.prog 22 (Kd.slice 61 k61) (fun x : (List (S61)) => (x.length * 24 ≤ 140737488351232 ∧ ∀ y ∈ x, ((Lit.int .i64 y.f0).wf = true ∧ (Lit.int .i64 y.f1).wf = true ∧ True))) := by
  exact G.opn_slice Tryd.underlying22 (by kernel_rfl) opn61e
theorem opn24 : G.Opn Tryd.prog 24 (Kd.slice 61 k61) (fun x : ((List (S61))) => ((x.length * 24 ≤ 140737488351232 ∧ ∀ y ∈ x, ((Lit.int .i64 y.f0).wf = true ∧ (Lit.int .i64 y.f1).wf = true ∧ True)))) := by
  refine G.opn_struct (ok := (fun x : (List (S61)) => (x.length * 24 ≤ 140737488351232 ∧ ∀ y ∈ x, ((Lit.int .i64 y.f0).wf = true ∧ (Lit.int .i64 y.f1).wf = true ∧ True)))) Tryd.underlying24 (by kernel_rfl) ?_
  exact G.flds_one (d := (Kd.slice 61 k61)) (ok := (fun x : (List (S61)) => (x.length * 24 ≤ 140737488351232 ∧ ∀ y ∈ x, ((Lit.int .i64 y.f0).wf = true ∧ (Lit.int .i64 y.f1).wf = true ∧ True)))) (G.fld rfl (by kernel_rfl) opn22)
theorem opn9 : G.Opn Tryd.prog 9 Kd.string (fun x : (ByteArray) => x.size ≤ 140737488351232) := by
  exact G.opn_string Tryd.underlying9
set_option maxHeartbeats 1000000 in
theorem lifted (os : Os) (started : os.Started) (H : Type) (enc : TypeId × Value → H) :
    ReturnsInHanded {} Tryd.checked os 3 .any (fun w args => (Rows.fnExactPlayLettersSpec.pre enc Tryd.prog Tryd.f3 Rows.fnExactPlayLettersRow.domain false w args ∧ laidMetH Tryd.prog [("unicode/utf8.acceptRanges", Rows.laid_unicode_utf8_acceptRanges), ("unicode/utf8.first", Rows.laid_unicode_utf8_first)] w) ∧ sizedMet enc Tryd.prog Tryd.f3 (OpenSpec.ofChange Rows.fnExactPlayLettersSpec) false w args) (Rows.fnExactPlayLettersSpec.post enc Tryd.prog Tryd.f3 false true false false) := by
  refine returnsInHanded_of_change_and (C := Tryd.checked) (X := fun w _ => laidMetH Tryd.prog [("unicode/utf8.acceptRanges", Rows.laid_unicode_utf8_acceptRanges), ("unicode/utf8.first", Rows.laid_unicode_utf8_first)] w) (fun _ _ _ hh h => h.of_heap hh) own started (by kernel_rfl) Tryd.func3
    (ChangeSpec.witness_shaped (enc := enc) (C := Tryd.checked) (os := os) (X := fun w _ => laidMetH Tryd.prog [("unicode/utf8.acceptRanges", Rows.laid_unicode_utf8_acceptRanges), ("unicode/utf8.first", Rows.laid_unicode_utf8_first)] w) false (World.laidAll Tryd.prog os [("unicode/utf8.acceptRanges", Rows.laid_unicode_utf8_acceptRanges), ("unicode/utf8.first", Rows.laid_unicode_utf8_first)]) #[.agg #[.slice none 0 0], .int .i64 0, .string ByteArray.empty] 8 (World.laidAll_os _ _ _)
      (World.shaped_of_ZipB (by kernel_rfl) (by kernel_rfl)) (by kernel_rfl) (by kernel_rfl) (by kernel_rfl)
      (by rw [MakeChecks.laidMetH_plain _ _ _ (by kernel_rfl)]; exact laidMet_laidAll _ (by kernel_rfl) (by kernel_rfl))) ?_
  intro W base args ds gs before hval0 hW hcnd hsz0 hL _
  have hsz : (DataW.weightsEach Tryd.prog (Tryd.f3.params.toList ++ Rows.fnExactPlayLettersSpec.plain.varTypes Tryd.prog) (ds ++ gs)).all (· ≤ reachBytes) = true := hsz0
  have hval : ∀ (j : Nat) t v, Tryd.f3.params[j]? = some t → args[j]? = some v → Value.okWide Tryd.prog W .any base t v := hval0
  have hW' := hW
  obtain ⟨p, q, hA0, hV, rfl, hfz, hnd⟩ := hW
  have hA : DataW.TrodAll enc Tryd.prog W 0 (fun _ => true) true Tryd.f3.params.toList args.toList ds p := hA0
  rw [Tryd.params3] at hA hval hsz
  obtain ⟨v0, vs0, d0, ds0, p0, q0, hargs, rfl, rfl, h0, r0⟩ := trodAll_cons hA
  obtain ⟨v1, vs1, d1, ds1, p1, q1, rfl, rfl, rfl, h1, r1⟩ := trodAll_cons r0
  obtain ⟨v2, vs2, d2, ds2, p2, q2, rfl, rfl, rfl, h2, r2⟩ := trodAll_cons r1
  obtain ⟨rfl, rfl, rfl⟩ := trodAll_nil r2
  obtain rfl : args = #[v0, v1, v2] := by cases args; simp_all
  obtain ⟨rfl, rfl⟩ := trodVars_none hV
  have k0 := h0
  have lt0 : ∀ x ∈ p0, x.block < W.heap.size := by obtain ⟨m, hm⟩ := k0; exact DataW.trod_lt m _ _ _ hm
  obtain ⟨l0_0, hK0, ok0⟩ := G.opn_arg opn24 hsz (j := 0) rfl rfl h0
  obtain ⟨A0_0, c0_0, hcs0, hlc0_0, hC0_0⟩ := hK0
  have o0_0 := ok0
  obtain rfl : v0 = .agg #[.slice A0_0 l0_0.length c0_0] := G.arg_agg Tryd.underlying24 (hval 0 24 v0 rfl rfl) hcs0
  have k1 := h1
  have lt1 : ∀ x ∈ p1, x.block < W.heap.size := by obtain ⟨m, hm⟩ := k1; exact DataW.trod_lt m _ _ _ hm
  obtain ⟨a1, hK1, o1⟩ := G.opn_arg opn3 hsz (j := 1) rfl rfl h1
  obtain rfl := G.arg_int Tryd.underlying3 (hval 1 3 v1 rfl rfl) hK1
  have k2 := h2
  have lt2 : ∀ x ∈ p2, x.block < W.heap.size := by obtain ⟨m, hm⟩ := k2; exact DataW.trod_lt m _ _ _ hm
  obtain ⟨a2, hK2, o2⟩ := G.opn_arg opn9 hsz (j := 2) rfl rfl h2
  obtain rfl := G.arg_string Tryd.underlying9 (hval 2 9 v2 rfl rfl) hK2
  clear hA0 hval0 hsz0 hsz
  obtain ⟨k, h⟩ := Pure.FnExactPlayLetters l0_0 a1 a2 o0_0 o1 o2
  refine (X.laws_FnExactPlayLetters.calls k A0_0 c0_0 l0_0 a1 a2 true W hC0_0 hlc0_0 h rfl).mono fun e W' ⟨he, bel0⟩ => ?_
  have bel : Below W.heap.size W W' := bel0
  subst he
  exact ⟨_, rfl, _, _, _, [], _, [], hW', trodAll_mk1 (shut_bool Tryd.underlying4 _), (trodAll_cons_mk (Below.trod laidOut (by kernel_rfl) (of_decide_eq_true (by kernel_rfl)) k0 bel lt0) (trodAll_cons_mk (Below.trod laidOut (by kernel_rfl) (of_decide_eq_true (by kernel_rfl)) k1 bel lt1) (trodAll_cons_mk (Below.trod laidOut (by kernel_rfl) (of_decide_eq_true (by kernel_rfl)) k2 bel lt2) trodAll_mk0))), rfl, bel.frame _, fun h => by cases h⟩
theorem over : Rows.fnExactPlayLettersRow.holds Tryd.pinned (OpenSpec.ofChange Rows.fnExactPlayLettersSpec) :=
  OpenClaim.holds_of_wide 3 Tryd.f3 rfl rfl rfl rfl rfl rfl rfl ⟨rfl, rfl, rfl, rfl, rfl⟩ rfl rfl rfl rfl rfl (by kernel_rfl) Tryd.func3 (by kernel_rfl)
    (of_decide_eq_true (by kernel_rfl)) (by unfold Func.isWrapper; first | (rw [if_pos (by decide +kernel)]; kernel_rfl) | (rw [if_neg (by decide +kernel)]; exact ⟨rfl, rfl⟩))
    (fun os started H enc _ => lifted os started H enc)
theorem card_holds : Rows.FnExactPlayLettersCardSaid :=
  Claim7.holds_tied_plain_at .later [] [.data, .pinned] true (true, "8c24cde95125408c626528a508a616cafba9f9fefa6646672e14dc760c9604ae") false over (fun _ h => by cases h) (by kernel_rfl) (fun _ h => by cases h) fnExactPlayLetters_row_tie rfl ⟨rfl, rfl⟩ (by kernel_rfl) rfl
    (fun f fn hf hfn => by
      obtain rfl : f = 3 := Option.some.inj ((show Tryd.prog.funcNamed "loop.example/g01243/laws.FnExactPlayLetters" = some 3 by kernel_rfl).symm.trans hf) |>.symm
      obtain rfl : fn = Tryd.f3 := (Option.some.inj (Tryd.func3.symm.trans hfn)).symm
      exact ⟨by kernel_rfl, fun j t ht => by
        rw [Tryd.params3] at ht
        have hm : t ∈ [24, 3, 9] := by simpa using Array.mem_of_getElem? ht
        have hall : ([24, 3, 9].all fun u => !Tryd.prog.wantsStandIn u) = true := by kernel_rfl
        exact (show Tryd.prog.wantsStandIn t = false by simpa using List.all_eq_true.1 hall t hm)⟩)
    (by kernel_rfl)
end Go.Proofs.YtcbjfflaamlpcaaDoor.fnExactPlayLetters
namespace Go.Proofs.YtcbjfflaamlpcaaDoor
theorem fnExactPlayLetters_holds : Rows.FnExactPlayLettersCardSaid := fnExactPlayLetters.card_holds
#print axioms fnExactPlayLetters_holds
end Go.Proofs.YtcbjfflaamlpcaaDoor

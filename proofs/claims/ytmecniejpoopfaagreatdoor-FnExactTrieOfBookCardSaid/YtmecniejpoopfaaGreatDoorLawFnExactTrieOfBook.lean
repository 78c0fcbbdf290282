/- The statement of FnExactTrieOfBook: whatever the input, the law returns true and its arguments read as they did. No conditions. -/
import Derived.HandedShaped
import Derived.Shelf.Vars
import Derived.Test.YtmecniejpoopfaaGreatDoorGlob
import Derived.Test.YtmecniejpoopfaaGreatDoorTie
import Derived.Test.YtmecniejpoopfaaGreatDoorCards
import Derived.LaidMore
import Derived.Lay
import Derived.SevenTiedAt
import Derived.Stop.Joined
import Derived.Stop.LaidErr
import Derived.Lib.LaidTab
import Derived.Test.YtmecniejpoopfaaGreatDoorRows
import Derived.Test.YtmecniejpoopfaaGreatDoorX18
import Derived.Test.YtmecniejpoopfaaGreatDoorPureFnExactTrieOfBook
import Derived.Test.YtmecniejpoopfaaGreatDoorBase
import Derived.WalkKit
import Derived.ProofKit
import Derived.OpenShut
import Derived.ShutString
import Derived.ChangeOld
import Derived.Below
import Derived.SizedLaws
namespace Go.Proofs.YtmecniejpoopfaaGreatDoor.fnExactTrieOfBook
open Go.ChangeShapes Go.WideShapes Go.ChangeAt Go.RowKit Go.Proofs.YtmecniejpoopfaaGreatDoor Go.Proofs.YtmecniejpoopfaaGreatDoorW.PrintWords Go.Proofs.YtmecniejpoopfaaGreatDoorW.PrintLast Go.Proofs.YtmecniejpoopfaaGreatDoorW.PrintMore Go.Proofs.YtmecniejpoopfaaGreatDoor.X
set_option linter.unusedVariables false
set_option linter.unusedSimpArgs false
set_option maxRecDepth 100000
theorem own : ownKnob Tryz.prog.godebug = none := by kernel_rfl
theorem laidOut : laidOutB Tryz.prog = true := by kernel_rfl
theorem opn9 : G.Opn Tryz.prog 9 Kd.string (fun x : (ByteArray) => x.size ≤ 140737488351232) := by
  exact G.opn_string Tryz.underlying9
theorem opn3 : G.Opn Tryz.prog 3 (Kd.int .i64) (fun x : (Int) => (Lit.int .i64 x).wf = true) := by
  exact G.opn_int Tryz.underlying3
theorem opn32 : G.Opn Tryz.prog 32 (Kd.pair Kd.string (Kd.pair Kd.string (Kd.int .i64))) (fun x : ((ByteArray) × (ByteArray) × (Int)) => (x.1.size ≤ 140737488351232 ∧ x.2.1.size ≤ 140737488351232 ∧ (Lit.int .i64 x.2.2).wf = true)) := by
  refine G.opn_struct (ok := (fun x : ((ByteArray) × (ByteArray) × (Int)) => (fun x : (ByteArray) => x.size ≤ 140737488351232) x.1 ∧ (fun x : ((ByteArray) × (Int)) => (fun x : (ByteArray) => x.size ≤ 140737488351232) x.1 ∧ (fun x : (Int) => (Lit.int .i64 x).wf = true) x.2) x.2)) Tryz.underlying32 (by kernel_rfl) ?_
  refine G.flds_cons (d := Kd.string) (d2 := (Kd.pair Kd.string (Kd.int .i64))) (ok := (fun x : (ByteArray) => x.size ≤ 140737488351232)) (ok2 := (fun x : ((ByteArray) × (Int)) => (fun x : (ByteArray) => x.size ≤ 140737488351232) x.1 ∧ (fun x : (Int) => (Lit.int .i64 x).wf = true) x.2)) (G.fld rfl (by kernel_rfl) opn9) ?_
  refine G.flds_cons (d := Kd.string) (d2 := (Kd.int .i64)) (ok := (fun x : (ByteArray) => x.size ≤ 140737488351232)) (ok2 := (fun x : (Int) => (Lit.int .i64 x).wf = true)) (G.fld rfl (by kernel_rfl) opn9) ?_
  exact G.flds_one (d := (Kd.int .i64)) (ok := (fun x : (Int) => (Lit.int .i64 x).wf = true)) (G.fld rfl (by kernel_rfl) opn3)
theorem gl_of_laid {W : World} (hL : laidMetH Tryz.prog [("unicode/utf8.acceptRanges", Rows.laid_unicode_utf8_acceptRanges), ("unicode/utf8.first", Rows.laid_unicode_utf8_first)] W) (hsh : W.ShapedOpen Tryz.prog) : GL W := by
  rw [MakeChecks.laidMetH_plain _ _ _ (by kernel_rfl)] at hL
  exact ⟨Go.Proofs.cell_of_shapedOpen_int (zero := #[.int .i64 0]) (t := 3) hsh (of_decide_eq_true (by kernel_rfl)) (by kernel_rfl) rfl (by kernel_rfl) (by kernel_rfl) Tryz.underlying3⟩
set_option maxHeartbeats 1000000 in
theorem lifted (os : Os) (started : os.Started) (H : Type) (enc : TypeId × Value → H) :
    ReturnsInHanded {} Tryz.checked os 5 .any (fun w args => (Rows.fnExactTrieOfBookSpec.pre enc Tryz.prog Tryz.f5 Rows.fnExactTrieOfBookRow.domain false w args ∧ laidMetH Tryz.prog [("unicode/utf8.acceptRanges", Rows.laid_unicode_utf8_acceptRanges), ("unicode/utf8.first", Rows.laid_unicode_utf8_first)] w) ∧ sizedMet enc Tryz.prog Tryz.f5 (OpenSpec.ofChange Rows.fnExactTrieOfBookSpec) false w args) (Rows.fnExactTrieOfBookSpec.post enc Tryz.prog Tryz.f5 false true false false) := by
  refine G.returns_of_laid_shaped (C := Tryz.checked) (X := fun w _ => laidMetH Tryz.prog [("unicode/utf8.acceptRanges", Rows.laid_unicode_utf8_acceptRanges), ("unicode/utf8.first", Rows.laid_unicode_utf8_first)] w) (fun _ _ _ hh h => h.of_heap hh) own started (by kernel_rfl) Tryz.func5
    (ChangeSpec.witness_shaped (enc := enc) (C := Tryz.checked) (os := os) (X := fun w _ => laidMetH Tryz.prog [("unicode/utf8.acceptRanges", Rows.laid_unicode_utf8_acceptRanges), ("unicode/utf8.first", Rows.laid_unicode_utf8_first)] w) false (World.laidAll Tryz.prog os [("unicode/utf8.acceptRanges", Rows.laid_unicode_utf8_acceptRanges), ("unicode/utf8.first", Rows.laid_unicode_utf8_first)]) #[.agg #[.string ByteArray.empty, .string ByteArray.empty, .int .i64 0]] 8 (World.laidAll_os _ _ _)
      (World.shaped_of_ZipB (by kernel_rfl) (by kernel_rfl)) (by kernel_rfl) (by kernel_rfl) (by kernel_rfl)
      (by rw [MakeChecks.laidMetH_plain _ _ _ (by kernel_rfl)]; exact laidMet_laidAll _ (by kernel_rfl) (by kernel_rfl))) ?_
  intro W base args ds gs before hval0 hW hcnd hsz0 hL hsh _
  have hsz : (DataW.weightsEach Tryz.prog (Tryz.f5.params.toList ++ Rows.fnExactTrieOfBookSpec.plain.varTypes Tryz.prog) (ds ++ gs)).all (· ≤ reachBytes) = true := hsz0
  have hval : ∀ (j : Nat) t v, Tryz.f5.params[j]? = some t → args[j]? = some v → Value.okWide Tryz.prog W .any base t v := hval0
  have hW' := hW
  obtain ⟨p, q, hA0, hV, rfl, hfz, hnd⟩ := hW
  have hA : DataW.TrodAll enc Tryz.prog W 0 (fun _ => true) true Tryz.f5.params.toList args.toList ds p := hA0
  rw [Tryz.params5] at hA hval hsz
  obtain ⟨v0, vs0, d0, ds0, p0, q0, hargs, rfl, rfl, h0, r0⟩ := trodAll_cons hA
  obtain ⟨rfl, rfl, rfl⟩ := trodAll_nil r0
  obtain rfl : args = #[v0] := by cases args; simp_all
  obtain ⟨rfl, rfl⟩ := trodVars_none hV
  have k0 := h0
  have lt0 : ∀ x ∈ p0, x.block < W.heap.size := by obtain ⟨m, hm⟩ := k0; exact DataW.trod_lt m _ _ _ hm
  obtain ⟨⟨a0_0, a0_1, a0_2⟩, hK0, ok0⟩ := G.opn_arg opn32 hsz (j := 0) rfl rfl h0
  obtain ⟨_, _, hcs0, rfl, ⟨_, _, rfl, rfl, rfl⟩⟩ := hK0
  obtain ⟨o0_0, o0_1, o0_2⟩ := ok0
  obtain rfl : v0 = .agg #[.string a0_0, .string a0_1, .int .i64 a0_2] := G.arg_agg Tryz.underlying32 (hval 0 32 v0 rfl rfl) hcs0
  clear hA0 hval0 hsz0 hsz
  obtain ⟨k, h⟩ := Pure.FnExactTrieOfBook a0_0 a0_1 a0_2 o0_0 o0_1 o0_2
  refine (X.laws_FnExactTrieOfBook.calls k a0_0 a0_1 a0_2 true W  (gl_of_laid hL hsh) h rfl).mono fun e W' ⟨he, bel0⟩ => ?_
  have bel : Below W.heap.size W W' := bel0
  subst he
  exact ⟨_, rfl, _, _, _, [], _, [], hW', trodAll_mk1 (shut_bool Tryz.underlying4 _), (trodAll_cons_mk (Below.trod laidOut (by kernel_rfl) (of_decide_eq_true (by kernel_rfl)) k0 bel lt0) trodAll_mk0), rfl, bel.frame _, fun h => by cases h⟩
theorem over : Rows.fnExactTrieOfBookRow.holds Tryz.pinned (OpenSpec.ofChange Rows.fnExactTrieOfBookSpec) :=
  OpenClaim.holds_of_wide 5 Tryz.f5 rfl rfl rfl rfl rfl rfl rfl ⟨rfl, rfl, rfl, rfl, rfl⟩ rfl rfl rfl rfl rfl (by kernel_rfl) Tryz.func5 (by kernel_rfl)
    (of_decide_eq_true (by kernel_rfl)) (by unfold Func.isWrapper; first | (rw [if_pos (by decide +kernel)]; kernel_rfl) | (rw [if_neg (by decide +kernel)]; exact ⟨rfl, rfl⟩))
    (fun os started H enc _ => lifted os started H enc)
theorem card_holds : Rows.FnExactTrieOfBookCardSaid :=
  Claim7.holds_tied_plain_at .later [] [.data, .pinned] true (true, "a8069dd19b5d8f3ca8ece4902bae21614c0363bf97c571983dd6b0645e87aa18") false over (fun _ h => by cases h) (by kernel_rfl) (fun _ h => by cases h) fnExactTrieOfBook_row_tie rfl ⟨rfl, rfl⟩ (by kernel_rfl) rfl
    (fun f fn hf hfn => by
      obtain rfl : f = 5 := Option.some.inj ((show Tryz.prog.funcNamed "loop.example/g01243/laws.FnExactTrieOfBook" = some 5 by kernel_rfl).symm.trans hf) |>.symm
      obtain rfl : fn = Tryz.f5 := (Option.some.inj (Tryz.func5.symm.trans hfn)).symm
      exact ⟨by kernel_rfl, fun j t ht => by
        rw [Tryz.params5] at ht
        have hm : t ∈ [32] := by simpa using Array.mem_of_getElem? ht
        have hall : ([32].all fun u => !Tryz.prog.wantsStandIn u) = true := by kernel_rfl
        exact (show Tryz.prog.wantsStandIn t = false by simpa using List.all_eq_true.1 hall t hm)⟩)
    (by kernel_rfl)
end Go.Proofs.YtmecniejpoopfaaGreatDoor.fnExactTrieOfBook
namespace Go.Proofs.YtmecniejpoopfaaGreatDoor
theorem fnExactTrieOfBook_holds : Rows.FnExactTrieOfBookCardSaid := fnExactTrieOfBook.card_holds
#print axioms fnExactTrieOfBook_holds
end Go.Proofs.YtmecniejpoopfaaGreatDoor

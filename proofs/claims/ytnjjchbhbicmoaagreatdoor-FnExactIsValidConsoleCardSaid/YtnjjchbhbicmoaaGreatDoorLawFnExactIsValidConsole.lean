/- The statement of FnExactIsValidConsole: whatever the input, the law returns true and its arguments read as they did. No conditions. -/
import Derived.HandedShaped
import Derived.Shelf.Vars
import Derived.Test.YtnjjchbhbicmoaaGreatDoorGlob
import Derived.Test.YtnjjchbhbicmoaaGreatDoorTie
import Derived.Test.YtnjjchbhbicmoaaGreatDoorCards
import Derived.LaidMore
import Derived.Lay
import Derived.SevenTiedAt
import Derived.Stop.Joined
import Derived.Stop.LaidErr
import Derived.Lib.LaidTab
import Derived.Test.YtnjjchbhbicmoaaGreatDoorRows
import Derived.Test.YtnjjchbhbicmoaaGreatDoorX17
import Derived.Test.YtnjjchbhbicmoaaGreatDoorPureFnExactIsValidConsole
import Derived.Test.YtnjjchbhbicmoaaGreatDoorBase
import Derived.WalkKit
import Derived.ProofKit
import Derived.OpenShut
import Derived.ShutString
import Derived.ChangeOld
import Derived.Below
import Derived.SizedLaws
namespace Go.Proofs.YtnjjchbhbicmoaaGreatDoor.fnExactIsValidConsole
open Go.ChangeShapes Go.WideShapes Go.ChangeAt Go.RowKit Go.Proofs.YtnjjchbhbicmoaaGreatDoor Go.Proofs.YtnjjchbhbicmoaaGreatDoorW.PrintWords Go.Proofs.YtnjjchbhbicmoaaGreatDoorW.PrintLast Go.Proofs.YtnjjchbhbicmoaaGreatDoorW.PrintMore Go.Proofs.YtnjjchbhbicmoaaGreatDoor.X
set_option linter.unusedVariables false
set_option linter.unusedSimpArgs false
set_option maxRecDepth 100000
theorem own : ownKnob Tryz.prog.godebug = none := by kernel_rfl
theorem laidOut : laidOutB Tryz.prog = true := by kernel_rfl
theorem opn9 : G.Opn Tryz.prog 9 Kd.string (fun x : (ByteArray) => x.size ≤ 140737488351232) := by
  exact G.opn_string Tryz.underlying9
theorem opn3 : G.Opn Tryz.prog 3 (Kd.int .i64) (fun x : (Int) => (Lit.int .i64 x).wf = true) := by
  exact G.opn_int Tryz.underlying3
theorem opn23 : G.Opn Tryz.prog 23 (Kd.pair Kd.string (Kd.pair Kd.string (Kd.int .i64))) (fun x : ((ByteArray) × (ByteArray) × (Int)) => (x.1.size ≤ 140737488351232 ∧ x.2.1.size ≤ 140737488351232 ∧ (Lit.int .i64 x.2.2).wf = true)) := by
  refine G.opn_struct (ok := (fun x : ((ByteArray) × (ByteArray) × (Int)) => (fun x : (ByteArray) => x.size ≤ 140737488351232) x.1 ∧ (fun x : ((ByteArray) × (Int)) => (fun x : (ByteArray) => x.size ≤ 140737488351232) x.1 ∧ (fun x : (Int) => (Lit.int .i64 x).wf = true) x.2) x.2)) Tryz.underlying23 (by kernel_rfl) ?_
  refine G.flds_cons (d := Kd.string) (d2 := (Kd.pair Kd.string (Kd.int .i64))) (ok := (fun x : (ByteArray) => x.size ≤ 140737488351232)) (ok2 := (fun x : ((ByteArray) × (Int)) => (fun x : (ByteArray) => x.size ≤ 140737488351232) x.1 ∧ (fun x : (Int) => (Lit.int .i64 x).wf = true) x.2)) (G.fld rfl (by kernel_rfl) opn9) ?_
  refine G.flds_cons (d := Kd.string) (d2 := (Kd.int .i64)) (ok := (fun x : (ByteArray) => x.size ≤ 140737488351232)) (ok2 := (fun x : (Int) => (Lit.int .i64 x).wf = true)) (G.fld rfl (by kernel_rfl) opn9) ?_
  exact G.flds_one (d := (Kd.int .i64)) (ok := (fun x : (Int) => (Lit.int .i64 x).wf = true)) (G.fld rfl (by kernel_rfl) opn3)
theorem opn25 : G.Opn Tryz.prog 25 (Kd.pair Kd.string (Kd.pair Kd.string (Kd.int .i64))) (fun x : ((ByteArray) × (ByteArray) × (Int)) => (x.1.size ≤ 140737488351232 ∧ x.2.1.size ≤ 140737488351232 ∧ (Lit.int .i64 x.2.2).wf = true)) := by
  refine G.opn_struct (ok := (fun x : ((ByteArray) × (ByteArray) × (Int)) => (fun x : (ByteArray) => x.size ≤ 140737488351232) x.1 ∧ (fun x : ((ByteArray) × (Int)) => (fun x : (ByteArray) => x.size ≤ 140737488351232) x.1 ∧ (fun x : (Int) => (Lit.int .i64 x).wf = true) x.2) x.2)) Tryz.underlying25 (by kernel_rfl) ?_
  refine G.flds_cons (d := Kd.string) (d2 := (Kd.pair Kd.string (Kd.int .i64))) (ok := (fun x : (ByteArray) => x.size ≤ 140737488351232)) (ok2 := (fun x : ((ByteArray) × (Int)) => (fun x : (ByteArray) => x.size ≤ 140737488351232) x.1 ∧ (fun x : (Int) => (Lit.int .i64 x).wf = true) x.2)) (G.fld rfl (by kernel_rfl) opn9) ?_
  refine G.flds_cons (d := Kd.string) (d2 := (Kd.int .i64)) (ok := (fun x : (ByteArray) => x.size ≤ 140737488351232)) (ok2 := (fun x : (Int) => (Lit.int .i64 x).wf = true)) (G.fld rfl (by kernel_rfl) opn9) ?_
  exact G.flds_one (d := (Kd.int .i64)) (ok := (fun x : (Int) => (Lit.int .i64 x).wf = true)) (G.fld rfl (by kernel_rfl) opn3)
theorem opn27 : G.Opn Tryz.prog 27 (Kd.pair (Kd.pair Kd.string (Kd.pair Kd.string (Kd.int .i64))) (Kd.pair Kd.string (Kd.pair Kd.string (Kd.int .i64)))) (fun x : (((ByteArray) × (ByteArray) × (Int)) × ((ByteArray) × (ByteArray) × (Int))) => ((x.1.1.size ≤ 140737488351232 ∧ x.1.2.1.size ≤ 140737488351232 ∧ (Lit.int .i64 x.1.2.2).wf = true) ∧ (x.2.1.size ≤ 140737488351232 ∧ x.2.2.1.size ≤ 140737488351232 ∧ (Lit.int .i64 x.2.2.2).wf = true))) := by
  refine G.opn_struct (ok := (fun x : (((ByteArray) × (ByteArray) × (Int)) × ((ByteArray) × (ByteArray) × (Int))) => (fun x : ((ByteArray) × (ByteArray) × (Int)) => (x.1.size ≤ 140737488351232 ∧ x.2.1.size ≤ 140737488351232 ∧ (Lit.int .i64 x.2.2).wf = true)) x.1 ∧ (fun x : ((ByteArray) × (ByteArray) × (Int)) => (x.1.size ≤ 140737488351232 ∧ x.2.1.size ≤ 140737488351232 ∧ (Lit.int .i64 x.2.2).wf = true)) x.2)) Tryz.underlying27 (by kernel_rfl) ?_
  refine G.flds_cons (d := (Kd.pair Kd.string (Kd.pair Kd.string (Kd.int .i64)))) (d2 := (Kd.pair Kd.string (Kd.pair Kd.string (Kd.int .i64)))) (ok := (fun x : ((ByteArray) × (ByteArray) × (Int)) => (x.1.size ≤ 140737488351232 ∧ x.2.1.size ≤ 140737488351232 ∧ (Lit.int .i64 x.2.2).wf = true))) (ok2 := (fun x : ((ByteArray) × (ByteArray) × (Int)) => (x.1.size ≤ 140737488351232 ∧ x.2.1.size ≤ 140737488351232 ∧ (Lit.int .i64 x.2.2).wf = true))) (G.fld rfl (by kernel_rfl) opn23) ?_
  exact G.flds_one (d := (Kd.pair Kd.string (Kd.pair Kd.string (Kd.int .i64)))) (ok := (fun x : ((ByteArray) × (ByteArray) × (Int)) => (x.1.size ≤ 140737488351232 ∧ x.2.1.size ≤ 140737488351232 ∧ (Lit.int .i64 x.2.2).wf = true))) (G.fld rfl (by kernel_rfl) opn25)
theorem gl_of_laid {W : World} (hL : laidMetH Tryz.prog [("math/bits.deBruijn32tab", Rows.laid_math_bits_deBruijn32tab), ("math/bits.deBruijn64tab", Rows.laid_math_bits_deBruijn64tab), ("internal/strconv.uint64pow10", Rows.laid_internal_strconv_uint64pow10), ("unicode/utf8.acceptRanges", Rows.laid_unicode_utf8_acceptRanges), ("unicode/utf8.first", Rows.laid_unicode_utf8_first)] W) (hsh : W.ShapedOpen Tryz.prog) : GL W := by
  rw [MakeChecks.laidMetH_plain _ _ _ (by kernel_rfl)] at hL
  have e3 : (Rows.laid_internal_strconv_uint64pow10 : DataW Unit) = Lib.tabData .u64 Lib.pow10Tab := by kernel_rfl
  have h3 := hL.tail.tail
  rw [e3] at h3
  exact ⟨Go.Proofs.cell_of_shapedOpen_int (zero := #[.int .i64 0]) (t := 3) hsh (of_decide_eq_true (by kernel_rfl)) (by kernel_rfl) rfl (by kernel_rfl) (by kernel_rfl) Tryz.underlying3, Lib.tabIs_of_head (g := 3) (t := 161) (e := 136) (n := 20) (by kernel_rfl) (by kernel_rfl) Tryz.underlying161 Tryz.underlying136 (by kernel_rfl) (by kernel_rfl) h3⟩
set_option maxHeartbeats 1000000 in
theorem lifted (os : Os) (started : os.Started) (H : Type) (enc : TypeId × Value → H) :
    ReturnsInHanded {} Tryz.checked os 3 .any (fun w args => (Rows.fnExactIsValidConsoleSpec.pre enc Tryz.prog Tryz.f3 Rows.fnExactIsValidConsoleRow.domain false w args ∧ laidMetH Tryz.prog [("math/bits.deBruijn32tab", Rows.laid_math_bits_deBruijn32tab), ("math/bits.deBruijn64tab", Rows.laid_math_bits_deBruijn64tab), ("internal/strconv.uint64pow10", Rows.laid_internal_strconv_uint64pow10), ("unicode/utf8.acceptRanges", Rows.laid_unicode_utf8_acceptRanges), ("unicode/utf8.first", Rows.laid_unicode_utf8_first)] w) ∧ sizedMet enc Tryz.prog Tryz.f3 (OpenSpec.ofChange Rows.fnExactIsValidConsoleSpec) false w args) (Rows.fnExactIsValidConsoleSpec.post enc Tryz.prog Tryz.f3 false true false false) := by
  refine G.returns_of_laid_shaped (C := Tryz.checked) (X := fun w _ => laidMetH Tryz.prog [("math/bits.deBruijn32tab", Rows.laid_math_bits_deBruijn32tab), ("math/bits.deBruijn64tab", Rows.laid_math_bits_deBruijn64tab), ("internal/strconv.uint64pow10", Rows.laid_internal_strconv_uint64pow10), ("unicode/utf8.acceptRanges", Rows.laid_unicode_utf8_acceptRanges), ("unicode/utf8.first", Rows.laid_unicode_utf8_first)] w) (fun _ _ _ hh h => h.of_heap hh) own started (by kernel_rfl) Tryz.func3
    (ChangeSpec.witness_shaped (enc := enc) (C := Tryz.checked) (os := os) (X := fun w _ => laidMetH Tryz.prog [("math/bits.deBruijn32tab", Rows.laid_math_bits_deBruijn32tab), ("math/bits.deBruijn64tab", Rows.laid_math_bits_deBruijn64tab), ("internal/strconv.uint64pow10", Rows.laid_internal_strconv_uint64pow10), ("unicode/utf8.acceptRanges", Rows.laid_unicode_utf8_acceptRanges), ("unicode/utf8.first", Rows.laid_unicode_utf8_first)] w) false (World.laidAll Tryz.prog os [("math/bits.deBruijn32tab", Rows.laid_math_bits_deBruijn32tab), ("math/bits.deBruijn64tab", Rows.laid_math_bits_deBruijn64tab), ("internal/strconv.uint64pow10", Rows.laid_internal_strconv_uint64pow10), ("unicode/utf8.acceptRanges", Rows.laid_unicode_utf8_acceptRanges), ("unicode/utf8.first", Rows.laid_unicode_utf8_first)]) #[.agg #[.string ByteArray.empty, .string ByteArray.empty, .int .i64 0, .string ByteArray.empty, .string ByteArray.empty, .int .i64 0]] 8 (World.laidAll_os _ _ _)
      (World.shaped_of_ZipB (by kernel_rfl) (by kernel_rfl)) (by kernel_rfl) (by kernel_rfl) (by kernel_rfl)
      (by rw [MakeChecks.laidMetH_plain _ _ _ (by kernel_rfl)]; exact laidMet_laidAll _ (by kernel_rfl) (by kernel_rfl))) ?_
  intro W base args ds gs before hval0 hW hcnd hsz0 hL hsh _
  have hsz : (DataW.weightsEach Tryz.prog (Tryz.f3.params.toList ++ Rows.fnExactIsValidConsoleSpec.plain.varTypes Tryz.prog) (ds ++ gs)).all (· ≤ reachBytes) = true := hsz0
  have hval : ∀ (j : Nat) t v, Tryz.f3.params[j]? = some t → args[j]? = some v → Value.okWide Tryz.prog W .any base t v := hval0
  have hW' := hW
  obtain ⟨p, q, hA0, hV, rfl, hfz, hnd⟩ := hW
  have hA : DataW.TrodAll enc Tryz.prog W 0 (fun _ => true) true Tryz.f3.params.toList args.toList ds p := hA0
  rw [Tryz.params3] at hA hval hsz
  obtain ⟨v0, vs0, d0, ds0, p0, q0, hargs, rfl, rfl, h0, r0⟩ := trodAll_cons hA
  obtain ⟨rfl, rfl, rfl⟩ := trodAll_nil r0
  obtain rfl : args = #[v0] := by cases args; simp_all
  obtain ⟨rfl, rfl⟩ := trodVars_none hV
  have k0 := h0
  have lt0 : ∀ x ∈ p0, x.block < W.heap.size := by obtain ⟨m, hm⟩ := k0; exact DataW.trod_lt m _ _ _ hm
  obtain ⟨⟨⟨a0_0, a0_1, a0_2⟩, ⟨a0_3, a0_4, a0_5⟩⟩, hK0, ok0⟩ := G.opn_arg opn27 hsz (j := 0) rfl rfl h0
  obtain ⟨_, _, hcs0, ⟨_, _, rfl, rfl, ⟨_, _, rfl, rfl, rfl⟩⟩, ⟨_, _, rfl, rfl, ⟨_, _, rfl, rfl, rfl⟩⟩⟩ := hK0
  obtain ⟨⟨o0_0, o0_1, o0_2⟩, ⟨o0_3, o0_4, o0_5⟩⟩ := ok0
  obtain rfl : v0 = .agg #[.string a0_0, .string a0_1, .int .i64 a0_2, .string a0_3, .string a0_4, .int .i64 a0_5] := G.arg_agg Tryz.underlying27 (hval 0 27 v0 rfl rfl) hcs0
  clear hA0 hval0 hsz0 hsz
  obtain ⟨k, h⟩ := Pure.FnExactIsValidConsole a0_0 a0_1 a0_2 a0_3 a0_4 a0_5 o0_0 o0_1 o0_2 o0_3 o0_4 o0_5
  refine (X.laws_FnExactIsValidConsole.calls k a0_0 a0_1 a0_2 a0_3 a0_4 a0_5 true W  (gl_of_laid hL hsh) h rfl).mono fun e W' ⟨he, bel0⟩ => ?_
  have bel : Below W.heap.size W W' := bel0
  subst he
  exact ⟨_, rfl, _, _, _, [], _, [], hW', trodAll_mk1 (shut_bool Tryz.underlying4 _), (trodAll_cons_mk (Below.trod laidOut (by kernel_rfl) (of_decide_eq_true (by kernel_rfl)) k0 bel lt0) trodAll_mk0), rfl, bel.frame _, fun h => by cases h⟩
theorem over : Rows.fnExactIsValidConsoleRow.holds Tryz.pinned (OpenSpec.ofChange Rows.fnExactIsValidConsoleSpec) :=
  OpenClaim.holds_of_wide 3 Tryz.f3 rfl rfl rfl rfl rfl rfl rfl ⟨rfl, rfl, rfl, rfl, rfl⟩ rfl rfl rfl rfl rfl (by kernel_rfl) Tryz.func3 (by kernel_rfl)
    (of_decide_eq_true (by kernel_rfl)) (by unfold Func.isWrapper; first | (rw [if_pos (by decide +kernel)]; kernel_rfl) | (rw [if_neg (by decide +kernel)]; exact ⟨rfl, rfl⟩))
    (fun os started H enc _ => lifted os started H enc)
theorem card_holds : Rows.FnExactIsValidConsoleCardSaid :=
  Claim7.holds_tied_plain_at .later [] [.data, .data, .data, .data, .pinned] true (true, "6c97913e3f36f57abf96ab4435e794f1fb2175d8061f9480220a0010f470bd37") false over (fun _ h => by cases h) (by kernel_rfl) (fun _ h => by cases h) fnExactIsValidConsole_row_tie rfl ⟨rfl, rfl⟩ (by kernel_rfl) rfl
    (fun f fn hf hfn => by
      obtain rfl : f = 3 := Option.some.inj ((show Tryz.prog.funcNamed "loop.example/g01243/laws.FnExactIsValidConsole" = some 3 by kernel_rfl).symm.trans hf) |>.symm
      obtain rfl : fn = Tryz.f3 := (Option.some.inj (Tryz.func3.symm.trans hfn)).symm
      exact ⟨by kernel_rfl, fun j t ht => by
        rw [Tryz.params3] at ht
        have hm : t ∈ [27] := by simpa using Array.mem_of_getElem? ht
        have hall : ([27].all fun u => !Tryz.prog.wantsStandIn u) = true := by kernel_rfl
        exact (show Tryz.prog.wantsStandIn t = false by simpa using List.all_eq_true.1 hall t hm)⟩)
    (by kernel_rfl)
end Go.Proofs.YtnjjchbhbicmoaaGreatDoor.fnExactIsValidConsole
namespace Go.Proofs.YtnjjchbhbicmoaaGreatDoor
theorem fnExactIsValidConsole_holds : Rows.FnExactIsValidConsoleCardSaid := fnExactIsValidConsole.card_holds
#print axioms fnExactIsValidConsole_holds
end Go.Proofs.YtnjjchbhbicmoaaGreatDoor

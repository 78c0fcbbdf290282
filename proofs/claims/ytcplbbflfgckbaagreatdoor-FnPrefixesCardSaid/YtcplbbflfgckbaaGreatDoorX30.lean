-- By gen.py (the session's own program over the kit's printer): functions of the program, each with its contract. Lean checks it.
import Derived.Test.YtcplbbflfgckbaaGreatDoorX0
import Derived.Test.YtcplbbflfgckbaaGreatDoorX18
import Derived.Test.YtcplbbflfgckbaaGreatDoorX26
import Derived.Test.YtcplbbflfgckbaaGreatDoorX27
import Derived.Test.YtcplbbflfgckbaaGreatDoorX28
import Derived.Test.YtcplbbflfgckbaaGreatDoorX29
namespace Go.Proofs.YtcplbbflfgckbaaGreatDoor.X
open Go.RowKit Go.Proofs.YtcplbbflfgckbaaGreatDoorW.PrintWords Go.Proofs.YtcplbbflfgckbaaGreatDoorW.PrintLast Go.Proofs.YtcplbbflfgckbaaGreatDoorW.PrintMore
attribute [local go_sem] max2_int min2_int max_two min_two max_three min_three max_four min_four   -- for this text's walks alone
set_option linter.unusedVariables false
set_option linter.unusedSimpArgs false

/-! ### laws_FnPrefixes: function 3 -/
mutual
def laws_FnPrefixes.j0 : Nat → ByteArray → ByteArray → Bool → List ByteArray → ByteArray → Bool → ByteArray → Bool → Bool → List (S74) → List (S74) → Option (Bool)
 | 0, _, _, _, _, _, _, _, _, _, _, _ => none
 | k + 1, x4, x5, x6, x9, x13, x14, x18, x19, x138, x649000, x672000 => if x138 = true then (some false) else (if x19 = true then ((impl_CompleteTo.f k x672000 (⟨#[]⟩ : ByteArray)).bind fun bt677 => ((impl_WordsUnder.f k x672000 x18).bind fun bt679 => ((impl_CountWords.f k x672000).bind fun bt683 => (if bt677.2 = true then (if bt679.2 = true then (if bt683.2 = true then (if bt677.1.toList = x18.toList then (if (bt679.1.length : Int) = bt683.1 then (laws_FnPrefixes.j1 k x4 x5 x6 x9 x13 x14 x649000) else (some false)) else (some false)) else (some false)) else (some false)) else (some false))))) else (laws_FnPrefixes.j1 k x4 x5 x6 x9 x13 x14 x649000))
def laws_FnPrefixes.j1 : Nat → ByteArray → ByteArray → Bool → List ByteArray → ByteArray → Bool → List (S74) → Option (Bool)
 | 0, _, _, _, _, _, _, _ => none
 | k + 1, x4, x5, x6, x9, x13, x14, x649000 => if x6 = true then ((impl_WordsUnder.f k x649000 x5).bind fun bt685 => (if bt685.2 = true then (if (x5.size : Int) > (x4.size : Int) then (laws_FnPrefixes.j2 k x4 x5 x9 x13 x14 true x649000) else (if 0 ≤ (x5.size : Int) then (if (x5.size : Int) ≤ (x4.size : Int) then (if (x4.extract 0 x5.size).toList = x5.toList then (if x5.toList = x4.toList then (laws_FnPrefixes.j2 k x4 x5 x9 x13 x14 false x649000) else (laws_FnPrefixes.j2 k x4 x5 x9 x13 x14 ((bt685.1.length : Int) != 1) x649000)) else (laws_FnPrefixes.j2 k x4 x5 x9 x13 x14 true x649000)) else (none)) else (none))) else (laws_FnPrefixes.j2 k x4 x5 x9 x13 x14 true x649000))) else (laws_FnPrefixes.j3 k x4 x9 x13 x14 x649000)
def laws_FnPrefixes.j3 : Nat → ByteArray → List ByteArray → ByteArray → Bool → List (S74) → Option (Bool)
 | 0, _, _, _, _, _ => none
 | k + 1, x4, x9, x13, x14, x649000 => if x14 = true then ((impl_WordsUnder.f k x649000 x13).bind fun bt693 => (if bt693.2 = true then (if (x13.size : Int) ≥ (x4.size : Int) then (if 0 ≤ (x4.size : Int) then (if (x4.size : Int) ≤ (x13.size : Int) then (if (x13.extract 0 x4.size).toList = x4.toList then ((laws_vTexts.f k bt693.1 x9).bind fun t697 => (some t697)) else (some false)) else (none)) else (none)) else (some false)) else (some false))) else (some true)
def laws_FnPrefixes.j2 : Nat → ByteArray → ByteArray → List ByteArray → ByteArray → Bool → Bool → List (S74) → Option (Bool)
 | 0, _, _, _, _, _, _, _ => none
 | k + 1, x4, x5, x9, x13, x14, x210, x649000 => if x210 = true then (some false) else (if (x5.size : Int) > 0 then (if 0 ≤ (wrap64 ((x5.size : Int) - 1)) then (if (wrap64 ((x5.size : Int) - 1)) ≤ (x5.size : Int) then ((impl_WordsUnder.f k x649000 (x5.extract 0 ((wrap64 ((x5.size : Int) - 1)) : Int).toNat)).bind fun bt689 => (if bt689.2 = true then (if (bt689.1.length : Int) < 2 then (some false) else (laws_FnPrefixes.j3 k x4 x9 x13 x14 x649000)) else (some false))) else (none)) else (none)) else (laws_FnPrefixes.j3 k x4 x9 x13 x14 x649000))
end
def laws_FnPrefixes.f (k : Nat) (l0 : List Int) : Option (Bool) := (laws_vBig.f l0).bind fun t643 => (if t643 = true then (some true) else ((spec_DrawUniquePrefix.f k l0).bind fun bt644 => ((impl_UniquePrefix.f k bt644.1 bt644.2).bind fun bt649 => ((spec_UniquePrefix.f k bt644.1 bt644.2).bind fun bt651 => ((impl_WordsUnder.f k bt644.1 bt644.2).bind fun bt653 => ((spec_WordsUnder.f k bt644.1 bt644.2).bind fun bt657 => ((impl_CompleteTo.f k bt644.1 bt644.2).bind fun bt661 => ((spec_CompleteTo.f k bt644.1 bt644.2).bind fun bt663 => ((laws_vCut.f l0 1).bind fun t665 => ((spec_DrawSharedPrefix.f k t665).bind fun t668 => ((impl_SharedPrefix.f k t668).bind fun bt672 => ((spec_SharedPrefix.f k t668).bind fun bt674 => (if bt649.1.toList = bt651.1.toList then (if (bt649.2 != bt651.2) = true then (laws_FnPrefixes.j0 k bt644.2 bt649.1 bt649.2 bt653.1 bt661.1 bt661.2 bt672.1 bt672.2 true bt644.1 t668) else (if (bt653.2 != bt657.2) = true then (laws_FnPrefixes.j0 k bt644.2 bt649.1 bt649.2 bt653.1 bt661.1 bt661.2 bt672.1 bt672.2 true bt644.1 t668) else ((laws_vTexts.f k bt653.1 bt657.1).bind fun t676 => (if t676 = true then (if bt661.1.toList = bt663.1.toList then (if (bt661.2 != bt663.2) = true then (laws_FnPrefixes.j0 k bt644.2 bt649.1 bt649.2 bt653.1 bt661.1 bt661.2 bt672.1 bt672.2 true bt644.1 t668) else (if bt672.1.toList = bt674.1.toList then (if (bt672.2 != bt674.2) = true then (laws_FnPrefixes.j0 k bt644.2 bt649.1 bt649.2 bt653.1 bt661.1 bt661.2 bt672.1 bt672.2 true bt644.1 t668) else (if bt653.2 = true then (laws_FnPrefixes.j0 k bt644.2 bt649.1 bt649.2 bt653.1 bt661.1 bt661.2 bt672.1 bt672.2 (bt661.2 != (decide ((bt653.1.length : Int) > 0))) bt644.1 t668) else (laws_FnPrefixes.j0 k bt644.2 bt649.1 bt649.2 bt653.1 bt661.1 bt661.2 bt672.1 bt672.2 (bt661.2 != false) bt644.1 t668))) else (laws_FnPrefixes.j0 k bt644.2 bt649.1 bt649.2 bt653.1 bt661.1 bt661.2 bt672.1 bt672.2 true bt644.1 t668))) else (laws_FnPrefixes.j0 k bt644.2 bt649.1 bt649.2 bt653.1 bt661.1 bt661.2 bt672.1 bt672.2 true bt644.1 t668)) else (laws_FnPrefixes.j0 k bt644.2 bt649.1 bt649.2 bt653.1 bt661.1 bt661.2 bt672.1 bt672.2 true bt644.1 t668))))) else (laws_FnPrefixes.j0 k bt644.2 bt649.1 bt649.2 bt653.1 bt661.1 bt661.2 bt672.1 bt672.2 true bt644.1 t668))))))))))))))
theorem laws_FnPrefixes.mono_l : ∀ k, (∀ y0 y1 y2 y3 y4 y5 y6 y7 y8 y9 y10, LeO (laws_FnPrefixes.j0 k y0 y1 y2 y3 y4 y5 y6 y7 y8 y9 y10) (laws_FnPrefixes.j0 (k + 1) y0 y1 y2 y3 y4 y5 y6 y7 y8 y9 y10)) ∧ (∀ y0 y1 y2 y3 y4 y5 y6, LeO (laws_FnPrefixes.j1 k y0 y1 y2 y3 y4 y5 y6) (laws_FnPrefixes.j1 (k + 1) y0 y1 y2 y3 y4 y5 y6)) ∧ (∀ y0 y1 y2 y3 y4, LeO (laws_FnPrefixes.j3 k y0 y1 y2 y3 y4) (laws_FnPrefixes.j3 (k + 1) y0 y1 y2 y3 y4)) ∧ (∀ y0 y1 y2 y3 y4 y5 y6, LeO (laws_FnPrefixes.j2 k y0 y1 y2 y3 y4 y5 y6) (laws_FnPrefixes.j2 (k + 1) y0 y1 y2 y3 y4 y5 y6))
 | 0 => ⟨fun _ _ _ _ _ _ _ _ _ _ _ r h => by simp [laws_FnPrefixes.j0] at h, fun _ _ _ _ _ _ _ r h => by simp [laws_FnPrefixes.j1] at h, fun _ _ _ _ _ r h => by simp [laws_FnPrefixes.j3] at h, fun _ _ _ _ _ _ _ r h => by simp [laws_FnPrefixes.j2] at h⟩
 | k + 1 => by
  obtain ⟨ih0, ih1, ih2, ih3⟩ := laws_FnPrefixes.mono_l k
  refine ⟨?_, ?_, ?_, ?_⟩ <;> intros
  all_goals (first | unfold laws_FnPrefixes.j0 | unfold laws_FnPrefixes.j1 | unfold laws_FnPrefixes.j3 | unfold laws_FnPrefixes.j2)
  all_goals (repeat' first | (with_reducible first | exact ih0 .. | exact ih1 .. | exact ih2 .. | exact ih3 .. | exact impl_CompleteTo.mono .. | exact impl_CountWords.mono .. | exact impl_SharedPrefix.mono .. | exact impl_UniquePrefix.mono .. | exact impl_WordsUnder.mono .. | exact laws_vTexts.mono .. | exact spec_CompleteTo.mono .. | exact spec_DrawSharedPrefix.mono .. | exact spec_DrawUniquePrefix.mono .. | exact spec_SharedPrefix.mono .. | exact spec_UniquePrefix.mono .. | exact spec_WordsUnder.mono .. | exact LeO.refl _ | exact LeO.none _ | refine LeO.ite ?_ ?_ | refine LeO.bind ?_ (fun _ => ?_)) | exact ih0 .. | exact ih1 .. | exact ih2 .. | exact ih3 .. | exact impl_CompleteTo.mono .. | exact impl_CountWords.mono .. | exact impl_SharedPrefix.mono .. | exact impl_UniquePrefix.mono .. | exact impl_WordsUnder.mono .. | exact laws_vTexts.mono .. | exact spec_CompleteTo.mono .. | exact spec_DrawSharedPrefix.mono .. | exact spec_DrawUniquePrefix.mono .. | exact spec_SharedPrefix.mono .. | exact spec_UniquePrefix.mono .. | exact spec_WordsUnder.mono .. | exact LeO.none _ | refine LeO.ite ?_ ?_ | refine LeO.bind ?_ (fun _ => ?_))
theorem laws_FnPrefixes.mono : ∀ a0 k, LeO (laws_FnPrefixes.f k a0) (laws_FnPrefixes.f (k + 1) a0) := by
 intro a0 k
 obtain ⟨ih0, ih1, ih2, ih3⟩ := laws_FnPrefixes.mono_l k
 unfold laws_FnPrefixes.f
 repeat' first | (with_reducible first | exact ih0 .. | exact ih1 .. | exact ih2 .. | exact ih3 .. | exact impl_CompleteTo.mono .. | exact impl_CountWords.mono .. | exact impl_SharedPrefix.mono .. | exact impl_UniquePrefix.mono .. | exact impl_WordsUnder.mono .. | exact laws_vTexts.mono .. | exact spec_CompleteTo.mono .. | exact spec_DrawSharedPrefix.mono .. | exact spec_DrawUniquePrefix.mono .. | exact spec_SharedPrefix.mono .. | exact spec_UniquePrefix.mono .. | exact spec_WordsUnder.mono .. | exact LeO.refl _ | exact LeO.none _ | refine LeO.ite ?_ ?_ | refine LeO.bind ?_ (fun _ => ?_)) | exact ih0 .. | exact ih1 .. | exact ih2 .. | exact ih3 .. | exact impl_CompleteTo.mono .. | exact impl_CountWords.mono .. | exact impl_SharedPrefix.mono .. | exact impl_UniquePrefix.mono .. | exact impl_WordsUnder.mono .. | exact laws_vTexts.mono .. | exact spec_CompleteTo.mono .. | exact spec_DrawSharedPrefix.mono .. | exact spec_DrawUniquePrefix.mono .. | exact spec_SharedPrefix.mono .. | exact spec_UniquePrefix.mono .. | exact spec_WordsUnder.mono .. | exact LeO.none _ | refine LeO.ite ?_ ?_ | refine LeO.bind ?_ (fun _ => ?_)
def laws_FnPrefixes.T26 : Bool × List (List Nat × List Nat) := (true, [([], []), ([], []), ([], []), ([2], [2]), ([3], [3]), ([1, 4], [1, 4]), ([0, 5], [0, 5]), ([6], [6]), ([7], [7]), ([7], [7]), ([8, 6, 0, 1, 2, 3, 4, 5, 6, 7, 8], [8]), ([9, 10, 0, 1, 2, 3, 4, 5, 6, 7, 8, 9, 10], [9])])
def laws_FnPrefixes.B26 : List Nat := [0, 0, 0, 4, 12, 30, 63, 127, 255, 255, 511, 2047]
theorem laws_FnPrefixes.tab26 : rtab .any (opsOf Tryz.f3 26) = laws_FnPrefixes.T26 := by kernel_rfl
theorem laws_FnPrefixes.bits26 : waitsOk laws_FnPrefixes.T26.2 laws_FnPrefixes.B26 = true := by kernel_rfl
set_option maxHeartbeats 8000000 in
set_option maxRecDepth 100000 in
theorem laws_FnPrefixes.calls (k : Nat) (A0 : Option Addr) (c0 : Nat) (l0 : List Int) (r : Bool) (w : World) (hr0 : Kd.C (Kd.int .u8) w A0 l0.length l0) (hc0 : l0.length ≤ c0) (h : laws_FnPrefixes.f k l0 = some r) (hr_ : r = true) :
  Calls Tryz.prog 3 #[.slice A0 l0.length c0] w fun e w' => e = .returned (.bool r) ∧ Below w.heap.size w w' := by
 have hu26 := Tryz.underlying26; have HR0 := Aside0.mk hr0; have HC0 := Aside0.mk hc0; clear hr0 hc0; have HB := Aside0.mk (Below.refl w.heap.size w); have HRT := Aside0.mk hr_; clear hr_
 have H : ((laws_vBig.f l0).bind fun t643 => (if t643 = true then (some true) else ((spec_DrawUniquePrefix.f k l0).bind fun bt644 => ((impl_UniquePrefix.f k bt644.1 bt644.2).bind fun bt649 => ((spec_UniquePrefix.f k bt644.1 bt644.2).bind fun bt651 => ((impl_WordsUnder.f k bt644.1 bt644.2).bind fun bt653 => ((spec_WordsUnder.f k bt644.1 bt644.2).bind fun bt657 => ((impl_CompleteTo.f k bt644.1 bt644.2).bind fun bt661 => ((spec_CompleteTo.f k bt644.1 bt644.2).bind fun bt663 => ((laws_vCut.f l0 1).bind fun t665 => ((spec_DrawSharedPrefix.f k t665).bind fun t668 => ((impl_SharedPrefix.f k t668).bind fun bt672 => ((spec_SharedPrefix.f k t668).bind fun bt674 => (if bt649.1.toList = bt651.1.toList then (if (bt649.2 != bt651.2) = true then (laws_FnPrefixes.j0 k bt644.2 bt649.1 bt649.2 bt653.1 bt661.1 bt661.2 bt672.1 bt672.2 true bt644.1 t668) else (if (bt653.2 != bt657.2) = true then (laws_FnPrefixes.j0 k bt644.2 bt649.1 bt649.2 bt653.1 bt661.1 bt661.2 bt672.1 bt672.2 true bt644.1 t668) else ((laws_vTexts.f k bt653.1 bt657.1).bind fun t676 => (if t676 = true then (if bt661.1.toList = bt663.1.toList then (if (bt661.2 != bt663.2) = true then (laws_FnPrefixes.j0 k bt644.2 bt649.1 bt649.2 bt653.1 bt661.1 bt661.2 bt672.1 bt672.2 true bt644.1 t668) else (if bt672.1.toList = bt674.1.toList then (if (bt672.2 != bt674.2) = true then (laws_FnPrefixes.j0 k bt644.2 bt649.1 bt649.2 bt653.1 bt661.1 bt661.2 bt672.1 bt672.2 true bt644.1 t668) else (if bt653.2 = true then (laws_FnPrefixes.j0 k bt644.2 bt649.1 bt649.2 bt653.1 bt661.1 bt661.2 bt672.1 bt672.2 (bt661.2 != (decide ((bt653.1.length : Int) > 0))) bt644.1 t668) else (laws_FnPrefixes.j0 k bt644.2 bt649.1 bt649.2 bt653.1 bt661.1 bt661.2 bt672.1 bt672.2 (bt661.2 != false) bt644.1 t668))) else (laws_FnPrefixes.j0 k bt644.2 bt649.1 bt649.2 bt653.1 bt661.1 bt661.2 bt672.1 bt672.2 true bt644.1 t668))) else (laws_FnPrefixes.j0 k bt644.2 bt649.1 bt649.2 bt653.1 bt661.1 bt661.2 bt672.1 bt672.2 true bt644.1 t668)) else (laws_FnPrefixes.j0 k bt644.2 bt649.1 bt649.2 bt653.1 bt661.1 bt661.2 bt672.1 bt672.2 true bt644.1 t668))))) else (laws_FnPrefixes.j0 k bt644.2 bt649.1 bt649.2 bt653.1 bt661.1 bt661.2 bt672.1 bt672.2 true bt644.1 t668))))))))))))))) = some r := h
 clear h
 obtain ⟨t643, A2, H⟩ := bs H
 by_cases c3 : t643 = true
 ·subst c3
  rw [if_pos rfl] at H
  as_aux_lemma =>
   obtain rfl := Option.some.inj H
   go_enter Tryz.func3, Tryz.ntmps3
   go_wp2_with (first | ((with_reducible refine gd 35 9 ?_); refine gc 35 Tryz.func9 #[.slice A0 l0.length c0] (laws_vBig.calls _ _ l0 true _ ax239 (HC0.out) A2.out) ?_; rintro e w' ⟨rfl, ⟨nd, rfl⟩⟩; refine ⟨_, rfl, ?_⟩))
   go_ret
   exact ⟨ax26, by repeat (first | (with_reducible first | exact HB.out | apply below_alloc | apply pw_below_drewN | apply below_drew1) | exact HB.out)⟩
 ·replace c3 := Bool.eq_false_iff.mpr c3
  subst c3
  rw [if_neg (show ¬ (false = true) by decide)] at H
  obtain ⟨⟨t644, t647⟩, A4, H⟩ := bs H
  obtain ⟨⟨t649, t650⟩, A5, H⟩ := bs H
  obtain ⟨⟨t651, t652⟩, A6, H⟩ := bs H
  obtain ⟨⟨t653, t656⟩, A7, H⟩ := bs H
  obtain ⟨⟨t657, t660⟩, A8, H⟩ := bs H
  obtain ⟨⟨t661, t662⟩, A9, H⟩ := bs H
  obtain ⟨⟨t663, t664⟩, A10, H⟩ := bs H
  obtain ⟨t665, A11, H⟩ := bs H
  obtain ⟨t668, A12, H⟩ := bs H
  obtain ⟨⟨t672, t673⟩, A13, H⟩ := bs H
  obtain ⟨⟨t674, t675⟩, A14, H⟩ := bs H
  have HC15 := Aside0.mk H; clear H
  go_enter Tryz.func3, Tryz.ntmps3
  go_upto_region 13 with (first | ((with_reducible refine gd 35 9 ?_); refine gc 35 Tryz.func9 #[.slice A0 l0.length c0] (laws_vBig.calls _ _ l0 false _ ax239 (HC0.out) A2.out) ?_; rintro e w' ⟨rfl, ⟨nd, rfl⟩⟩; refine ⟨_, rfl, ?_⟩) | ((with_reducible refine gd 38 10 ?_); refine gc 38 Tryz.func10 #[.slice A0 l0.length c0] (spec_DrawUniquePrefix.calls k _ _ l0 t644 t647 _ ax239 (HC0.out) A4.out) ?_; rintro e w16 ⟨v645, rfl, ho0, hb⟩; refine ⟨_, rfl, ?_⟩; have HO646 := uL ho0 HB; replace HB := uB HB hb; (try clear hb); (try clear hb2); (try clear hk); (try clear hi); (try clear ho0)) | ((with_reducible refine gate_dst (N := 3) rfl ?_); (try (refine gate_guard (by rfl) ?_; dsimp only)); refine box_event ?hg (N := 3) ?hd (cs := #[.slice none 0 0]) (t := 26) ?hr ?_; (case hd => rfl); (case hg => rfl); (case hr => exact ax31); intro gb648 hg w17 hbox hb; replace HO646 := uR HO646 hb; have BK648 := Aside0.mk (hbox); have GW648 := uG hg HB; have GE648 := uG hg HB; replace HB := uB HB hb; clear hb hbox hg; obtain ⟨Ao18, co18, eo18⟩ := Kd.R_slice HO646.out; subst eo18; have hcz19_0 := bc (.slice none 0 0) BK648 0; have hfz19_0 := blk_frozen BK648.out 0) | ((with_reducible refine gd 44 11 ?_); refine gc 44 Tryz.func11 #[.agg #[.slice Ao18 t644.length co18], .string t647] (impl_UniquePrefix.calls k _ _ t644 t647 t649 t650 _ (by refine (Kd.R_reads' (e := 74) (base := w.heap.size) (ok := fun k_ => True) (n := t644.length) (c := co18) ?_).2.2; exact ax387) ((Kd.R_reads' HO646.out).2.1) A5.out) ?_; rintro e w20 ⟨rfl, hb⟩; refine ⟨_, rfl, ?_⟩; replace HO646 := Aside0.mk (Kd.R_below ax387 hb); replace BK648 := Aside0.mk (blk_below (g := gb648) (o := .cells #[.slice Ao18 t644.length co18] 26 (0, 0)) (by (with_reducible repeat (first | refine blk_drewN ?_ _ | refine blk_drew ?_ | refine blk_alloc ?_ _)); refine blk_put (cs := #[.slice none 0 0]) ?_ 0 _ rfl; (with_reducible repeat (first | refine blk_drewN ?_ _ | refine blk_drew ?_ | refine blk_alloc ?_ _)); exact BK648.out) hb); replace HB := Aside0.mk (below_step ax388 hb); (try clear hb); (try clear hb2); (try clear hk); (try clear hi); have hcz21_0 := bc (.slice Ao18 t644.length co18) BK648 0; have hfz21_0 := blk_frozen BK648.out 0) | ((with_reducible refine gd 50 12 ?_); refine gc 50 Tryz.func12 #[.agg #[.slice Ao18 t644.length co18], .string t647] (spec_UniquePrefix.calls k _ _ t644 t647 t651 t652 _ ax389 ((Kd.R_reads' HO646.out).2.1) A6.out) ?_; rintro e w22 ⟨rfl, hb⟩; refine ⟨_, rfl, ?_⟩; replace HO646 := uR HO646 hb; replace BK648 := ub BK648 hb; replace HB := Aside0.mk (below_step ax388 hb); (try clear hb); (try clear hb2); (try clear hk); (try clear hi); have hcz23_0 := bc (.slice Ao18 t644.length co18) BK648 0; have hfz23_0 := blk_frozen BK648.out 0) | ((with_reducible refine gd 56 13 ?_); refine gc 56 Tryz.func13 #[.agg #[.slice Ao18 t644.length co18], .string t647] (impl_WordsUnder.calls k _ _ t644 t647 t653 t656 _ ax389 ((Kd.R_reads' HO646.out).2.1) A7.out) ?_; rintro e w24 ⟨v654, rfl, ho0, hb⟩; refine ⟨_, rfl, ?_⟩; replace HO646 := uR HO646 hb; have HO655 := Aside0.mk (Kd.R_lower ho0 (below_size ax388)); replace BK648 := ub BK648 hb; replace HB := Aside0.mk (below_step ax388 hb); (try clear hb); (try clear hb2); (try clear hk); (try clear hi); (try clear ho0); have hcz25_0 := bc (.slice Ao18 t644.length co18) BK648 0; have hfz25_0 := blk_frozen BK648.out 0) | ((with_reducible refine gd 62 14 ?_); refine gc 62 Tryz.func14 #[.agg #[.slice Ao18 t644.length co18], .string t647] (spec_WordsUnder.calls k _ _ t644 t647 t657 t660 _ ax389 ((Kd.R_reads' HO646.out).2.1) A8.out) ?_; rintro e w26 ⟨v658, rfl, ho0, hb⟩; refine ⟨_, rfl, ?_⟩; replace HO646 := uR HO646 hb; replace HO655 := uR HO655 hb; have HO659 := Aside0.mk (Kd.R_lower ho0 (below_size ax388)); replace BK648 := ub BK648 hb; replace HB := Aside0.mk (below_step ax388 hb); (try clear hb); (try clear hb2); (try clear hk); (try clear hi); (try clear ho0); have hcz27_0 := bc (.slice Ao18 t644.length co18) BK648 0; have hfz27_0 := blk_frozen BK648.out 0) | ((with_reducible refine gd 68 15 ?_); refine gc 68 Tryz.func15 #[.agg #[.slice Ao18 t644.length co18], .string t647] (impl_CompleteTo.calls k _ _ t644 t647 t661 t662 _ ax389 ((Kd.R_reads' HO646.out).2.1) A9.out) ?_; rintro e w28 ⟨rfl, hb⟩; refine ⟨_, rfl, ?_⟩; replace HO646 := uR HO646 hb; replace HO655 := uR HO655 hb; replace HO659 := uR HO659 hb; replace BK648 := ub BK648 hb; replace HB := Aside0.mk (below_step ax388 hb); (try clear hb); (try clear hb2); (try clear hk); (try clear hi); have hcz29_0 := bc (.slice Ao18 t644.length co18) BK648 0; have hfz29_0 := blk_frozen BK648.out 0) | ((with_reducible refine gd 74 16 ?_); refine gc 74 Tryz.func16 #[.agg #[.slice Ao18 t644.length co18], .string t647] (spec_CompleteTo.calls k _ _ t644 t647 t663 t664 _ ax389 ((Kd.R_reads' HO646.out).2.1) A10.out) ?_; rintro e w30 ⟨rfl, hb⟩; refine ⟨_, rfl, ?_⟩; replace HO646 := uR HO646 hb; replace HO655 := uR HO655 hb; replace HO659 := uR HO659 hb; replace BK648 := ub BK648 hb; replace HB := Aside0.mk (below_step ax388 hb); (try clear hb); (try clear hb2); (try clear hk); (try clear hi)) | ((with_reducible refine gd 78 18 ?_); refine gc 78 Tryz.func18 #[.slice A0 l0.length c0, .int .i64 1] (laws_vCut.calls _ _ l0 1 t665 _ ax33 (HC0.out) A11.out) ?_; rintro e w31 ⟨v666, rfl, ho0, hb⟩; refine ⟨_, rfl, ?_⟩; replace HO646 := uR HO646 hb; replace HO655 := uR HO655 hb; replace HO659 := uR HO659 hb; have HO667 := Aside0.mk (Kd.R_lower ho0 (below_size ax388)); replace BK648 := ub BK648 hb; replace HB := Aside0.mk (below_step ax388 hb); (try clear hb); (try clear hb2); (try clear hk); (try clear hi); (try clear ho0); obtain ⟨Ao32, co32, eo32⟩ := Kd.R_slice HO667.out; subst eo32) | ((with_reducible refine gd 79 17 ?_); refine gc 79 Tryz.func17 #[.slice Ao32 t665.length co32] (spec_DrawSharedPrefix.calls k _ _ t665 t668 _ (by repeat (first | exact (Kd.R_reads' HO667.out).2.2 | (with_reducible refine Kd.C_alloc ?_ _) | (with_reducible refine Kd.C_drewN ?_ _) | (with_reducible refine Kd.C_drew ?_))) ((Kd.R_reads' HO667.out).2.1) A12.out) ?_; rintro e w33 ⟨v669, rfl, ho0, hb⟩; refine ⟨_, rfl, ?_⟩; replace HO646 := uR HO646 hb; replace HO655 := uR HO655 hb; replace HO659 := uR HO659 hb; replace HO667 := uR HO667 hb; have HO670 := Aside0.mk (Kd.R_lower ho0 (below_size ax388)); replace BK648 := ub BK648 hb; replace HB := Aside0.mk (below_step ax388 hb); (try clear hb); (try clear hb2); (try clear hk); (try clear hi); (try clear ho0)) | ((with_reducible refine gate_dst (N := 17) rfl ?_); (try (refine gate_guard (by rfl) ?_; dsimp only)); refine box_event ?hg (N := 17) ?hd (cs := #[.slice none 0 0]) (t := 26) ?hr ?_; (case hd => rfl); (case hg => rfl); (case hr => exact ax31); intro gb671 hg w34 hbox hb; replace HO646 := uR HO646 hb; replace HO655 := uR HO655 hb; replace HO659 := uR HO659 hb; replace HO667 := uR HO667 hb; replace HO670 := uR HO670 hb; have BK671 := Aside0.mk (hbox); have GW671 := Aside0.mk ((ax390 : w.heap.size ≤ gb671)); have GE671 := Aside0.mk ((ax390 : w.heap.size ≤ gb671)); replace HB := Aside0.mk (below_step ax388 hb); have NB648_671 := uN hg BK648; have NB671_648 := uM hg BK648; replace BK648 := ub BK648 hb; clear hb hbox hg; obtain ⟨Ao35, co35, eo35⟩ := Kd.R_slice HO670.out; subst eo35; have hnb36 := NB671_648.out; have hnc36 := NB648_671.out; have hcz37_0 := bc (.slice none 0 0) BK671 0; have hfz37_0 := blk_frozen BK671.out 0) | ((with_reducible refine gd 82 19 ?_); refine gc 82 Tryz.func19 #[.agg #[.slice Ao35 t668.length co35]] (impl_SharedPrefix.calls k _ _ t668 t672 t673 _ (by refine (Kd.R_reads' (e := 74) (base := w.heap.size) (ok := fun k_ => True) (n := t668.length) (c := co35) ?_).2.2; exact ax391) ((Kd.R_reads' HO670.out).2.1) A13.out) ?_; rintro e w38 ⟨rfl, hb⟩; refine ⟨_, rfl, ?_⟩; replace HO646 := Aside0.mk (Kd.R_below (by (with_reducible repeat (first | apply Kd.R_alloc | apply Kd.R_drewN | apply Kd.R_drew)); exact (Kd.R_mono (Kd.R_far (p := ⟨gb671, 0, none⟩) (Kd.R_types HO646.out BK671.out (by decide)) (fun _ hk => hk.2) (.slice Ao35 t668.length co35)) (fun _ h_ => h_.1))) hb); replace HO655 := Aside0.mk (Kd.R_below (by (with_reducible repeat (first | apply Kd.R_alloc | apply Kd.R_drewN | apply Kd.R_drew)); exact (Kd.R_mono (Kd.R_far (p := ⟨gb671, 0, none⟩) (Kd.R_types HO655.out BK671.out (by decide)) (fun _ hk => hk.2) (.slice Ao35 t668.length co35)) (fun _ h_ => h_.1))) hb); replace HO659 := Aside0.mk (Kd.R_below (by (with_reducible repeat (first | apply Kd.R_alloc | apply Kd.R_drewN | apply Kd.R_drew)); exact (Kd.R_mono (Kd.R_far (p := ⟨gb671, 0, none⟩) (Kd.R_types HO659.out BK671.out (by decide)) (fun _ hk => hk.2) (.slice Ao35 t668.length co35)) (fun _ h_ => h_.1))) hb); replace HO667 := Aside0.mk (Kd.R_below (by (with_reducible repeat (first | apply Kd.R_alloc | apply Kd.R_drewN | apply Kd.R_drew)); exact (Kd.R_mono (Kd.R_far (p := ⟨gb671, 0, none⟩) (Kd.R_types HO667.out BK671.out (by decide)) (fun _ hk => hk.2) (.slice Ao35 t668.length co35)) (fun _ h_ => h_.1))) hb); replace HO670 := Aside0.mk (Kd.R_below ax391 hb); replace BK648 := Aside0.mk (blk_below (g := gb648) (o := .cells #[.slice Ao18 t644.length co18] 26 (0, 0)) (by (with_reducible repeat (first | refine blk_drewN ?_ _ | refine blk_drew ?_ | refine blk_alloc ?_ _)); refine blk_far ?_ NB648_671.out _; (with_reducible repeat (first | refine blk_drewN ?_ _ | refine blk_drew ?_ | refine blk_alloc ?_ _)); exact BK648.out) hb); replace BK671 := Aside0.mk (blk_below (g := gb671) (o := .cells #[.slice Ao35 t668.length co35] 26 (0, 0)) (by (with_reducible repeat (first | refine blk_drewN ?_ _ | refine blk_drew ?_ | refine blk_alloc ?_ _)); refine blk_put (cs := #[.slice none 0 0]) ?_ 0 _ rfl; (with_reducible repeat (first | refine blk_drewN ?_ _ | refine blk_drew ?_ | refine blk_alloc ?_ _)); exact BK671.out) hb); replace HB := Aside0.mk (below_step ax392 hb); (try clear hb); (try clear hb2); (try clear hk); (try clear hi); have hcz39_0 := bc (.slice Ao35 t668.length co35) BK671 0; have hfz39_0 := blk_frozen BK671.out 0) | ((with_reducible refine gd 87 20 ?_); refine gc 87 Tryz.func20 #[.agg #[.slice Ao35 t668.length co35]] (spec_SharedPrefix.calls k _ _ t668 t674 t675 _ (by repeat (first | exact (Kd.R_reads' HO670.out).2.2 | (with_reducible refine Kd.C_alloc ?_ _) | (with_reducible refine Kd.C_drewN ?_ _) | (with_reducible refine Kd.C_drew ?_))) ((Kd.R_reads' HO670.out).2.1) A14.out) ?_; rintro e w40 ⟨rfl, hb⟩; refine ⟨_, rfl, ?_⟩; replace HO646 := uR HO646 hb; replace HO655 := uR HO655 hb; replace HO659 := uR HO659 hb; replace HO667 := uR HO667 hb; replace HO670 := uR HO670 hb; replace BK648 := ub BK648 hb; replace BK671 := ub BK671 hb; replace HB := Aside0.mk (below_step ax392 hb); (try clear hb); (try clear hb2); (try clear hk); (try clear hi)))
  (try simp only [Act.put, List.setIfInBounds_toArray, List.set_cons_zero, List.set_cons_succ])
  go_cut [138] (fun v138 wc => ∃ (kq : Nat) (x138_14 : Bool), v138 = .bool x138_14 ∧ Aside0 (laws_FnPrefixes.j0 kq t647 t649 t650 t653 t661 t662 t672 t673 x138_14 t644 t668 = some r) ∧ Aside0 (kq ≤ k) ∧ Aside0 (Kd.R Kd.string 9 wc w.heap.size (fun _ => True) v654 t653) ∧ Aside0 (Kd.R k74 74 wc w.heap.size (fun _ => True) (.slice Ao18 t644.length co18) t644) ∧ Aside0 (Kd.R k74 74 wc w.heap.size (fun _ => True) (.slice Ao35 t668.length co35) t668) ∧ Aside0 (wc.heap[gb648]? = some (.cells #[(.slice Ao18 t644.length co18)] 26 (0, 0))) ∧ Aside0 (wc.heap[gb671]? = some (.cells #[(.slice Ao35 t668.length co35)] 26 (0, 0))) ∧ Aside0 (Below w.heap.size w wc))
  case first =>
   have H := HC15.out; clear HC15
   by_cases c41 : t649.toList = t651.toList
   ·rw [if_pos c41] at H
    have c41b0 : (t649.toList == t651.toList) = true := beq_iff_eq.mpr c41
    have c41b1 : (t649.toList != t651.toList) = false := bne_eq_false_iff_eq.mpr c41
    clear c41
    (first | rw [c41b0] | (simp only [i64_w, i32_w]; rw [c41b0]) | skip)
    by_cases c42 : (t650 != t652) = true
    ·rw [if_pos c42] at H
     have c42b0 : (t650 != t652) = true := c42
     (try (have c42b1 : decide (t650 = t652) = false := by simpa using c42))
     (try (have c42b2 : (t650 == t652) = false := by simpa using c42))
     (try (have c42b3 : ¬ (t650 = t652) := by simpa using c42))
     clear c42
     as_aux_lemma =>
      have H' := Aside0.mk H
      clear H
      go_wp2
      go_meet
      case rel => exact ⟨_, (true), ax30, H', ⟨by first | omega | exact Nat.le_refl _⟩, ⟨ax393⟩, ⟨ax394⟩, ⟨ax395⟩, ⟨ax396⟩, ⟨ax397⟩, ⟨ax392⟩⟩
    ·rw [if_neg c42] at H
     have c42b0 : (t650 != t652) = false := by simpa using c42
     (try (have c42b1 : decide (t650 = t652) = true := by simpa using c42))
     (try (have c42b2 : (t650 == t652) = true := by simpa using c42))
     clear c42
     by_cases c43 : (t656 != t660) = true
     ·rw [if_pos c43] at H
      have c43b0 : (t656 != t660) = true := c43
      (try (have c43b1 : decide (t656 = t660) = false := by simpa using c43))
      (try (have c43b2 : (t656 == t660) = false := by simpa using c43))
      (try (have c43b3 : ¬ (t656 = t660) := by simpa using c43))
      clear c43
      as_aux_lemma =>
       have H' := Aside0.mk H
       clear H
       go_wp2
       go_meet
       case rel => exact ⟨_, (true), ax30, H', ⟨by first | omega | exact Nat.le_refl _⟩, ⟨ax393⟩, ⟨ax394⟩, ⟨ax395⟩, ⟨ax396⟩, ⟨ax397⟩, ⟨ax392⟩⟩
     ·rw [if_neg c43] at H
      have c43b0 : (t656 != t660) = false := by simpa using c43
      (try (have c43b1 : decide (t656 = t660) = true := by simpa using c43))
      (try (have c43b2 : (t656 == t660) = true := by simpa using c43))
      clear c43
      obtain ⟨t676, A44, H⟩ := bs H
      by_cases c45 : t676 = true
      ·subst c45
       rw [if_pos rfl] at H
       by_cases c46 : t661.toList = t663.toList
       ·rw [if_pos c46] at H
        have c46b0 : (t661.toList == t663.toList) = true := beq_iff_eq.mpr c46
        have c46b1 : (t661.toList != t663.toList) = false := bne_eq_false_iff_eq.mpr c46
        clear c46
        by_cases c47 : (t662 != t664) = true
        ·rw [if_pos c47] at H
         have c47b0 : (t662 != t664) = true := c47
         (try (have c47b1 : decide (t662 = t664) = false := by simpa using c47))
         (try (have c47b2 : (t662 == t664) = false := by simpa using c47))
         (try (have c47b3 : ¬ (t662 = t664) := by simpa using c47))
         clear c47
         as_aux_lemma =>
          have H' := Aside0.mk H
          clear H
          obtain ⟨Ao48, co48, eo48⟩ := Kd.R_slice HO655.out
          subst eo48
          obtain ⟨Ao49, co49, eo49⟩ := Kd.R_slice HO659.out
          subst eo49
          go_wp2_with (first | (go_at_call 21; (with_reducible refine (laws_vTexts.calls k _ _ t653 _ _ t657 true _ ?side1 ?side2 ?side3 ?side4 A44.out).mono ?_); (case side1 => exact ax398); (case side2 => exact ax399); (case side3 => exact ax400); (case side4 => exact ax401); rintro e w' ⟨rfl, ⟨nd, rfl⟩⟩))
          go_meet
          case rel => exact ⟨_, (true), ax30, H', ⟨by first | omega | exact Nat.le_refl _⟩, ⟨ax393⟩, ⟨ax394⟩, ⟨ax395⟩, ⟨ax396⟩, ⟨ax397⟩, ⟨ax392⟩⟩
        ·rw [if_neg c47] at H
         have c47b0 : (t662 != t664) = false := by simpa using c47
         (try (have c47b1 : decide (t662 = t664) = true := by simpa using c47))
         (try (have c47b2 : (t662 == t664) = true := by simpa using c47))
         clear c47
         by_cases c50 : t672.toList = t674.toList
         ·rw [if_pos c50] at H
          have c50b0 : (t672.toList == t674.toList) = true := beq_iff_eq.mpr c50
          have c50b1 : (t672.toList != t674.toList) = false := bne_eq_false_iff_eq.mpr c50
          clear c50
          by_cases c51 : (t673 != t675) = true
          ·rw [if_pos c51] at H
           have c51b0 : (t673 != t675) = true := c51
           (try (have c51b1 : decide (t673 = t675) = false := by simpa using c51))
           (try (have c51b2 : (t673 == t675) = false := by simpa using c51))
           (try (have c51b3 : ¬ (t673 = t675) := by simpa using c51))
           clear c51
           as_aux_lemma =>
            have H' := Aside0.mk H
            clear H
            obtain ⟨Ao52, co52, eo52⟩ := Kd.R_slice HO655.out
            subst eo52
            obtain ⟨Ao53, co53, eo53⟩ := Kd.R_slice HO659.out
            subst eo53
            go_wp2_with (first | (go_at_call 21; (with_reducible refine (laws_vTexts.calls k _ _ t653 _ _ t657 true _ ?side1 ?side2 ?side3 ?side4 A44.out).mono ?_); (case side1 => exact ax398); (case side2 => exact ax399); (case side3 => exact ax400); (case side4 => exact ax401); rintro e w' ⟨rfl, ⟨nd, rfl⟩⟩))
            go_meet
            case rel => exact ⟨_, (true), ax30, H', ⟨by first | omega | exact Nat.le_refl _⟩, ⟨ax393⟩, ⟨ax394⟩, ⟨ax395⟩, ⟨ax396⟩, ⟨ax397⟩, ⟨ax392⟩⟩
          ·rw [if_neg c51] at H
           have c51b0 : (t673 != t675) = false := by simpa using c51
           (try (have c51b1 : decide (t673 = t675) = true := by simpa using c51))
           (try (have c51b2 : (t673 == t675) = true := by simpa using c51))
           clear c51
           by_cases c54 : t656 = true
           ·subst c54
            rw [if_pos rfl] at H
            as_aux_lemma =>
             have H' := Aside0.mk H
             clear H
             obtain ⟨Ao55, co55, eo55⟩ := Kd.R_slice HO655.out
             subst eo55
             obtain ⟨Ao56, co56, eo56⟩ := Kd.R_slice HO659.out
             subst eo56
             go_wp2_with (first | (go_at_call 21; (with_reducible refine (laws_vTexts.calls k _ _ t653 _ _ t657 true _ ?side1 ?side2 ?side3 ?side4 A44.out).mono ?_); (case side1 => exact ax398); (case side2 => exact ax399); (case side3 => exact ax400); (case side4 => exact ax401); rintro e w' ⟨rfl, ⟨nd, rfl⟩⟩))
             go_meet
             case rel => exact ⟨_, ((t662 != (decide ((t653.length : Int) > 0)))), ax30, H', ⟨by first | omega | exact Nat.le_refl _⟩, ⟨ax393⟩, ⟨ax394⟩, ⟨ax395⟩, ⟨ax396⟩, ⟨ax397⟩, ⟨ax392⟩⟩
           ·replace c54 := Bool.eq_false_iff.mpr c54
            subst c54
            rw [if_neg (show ¬ (false = true) by decide)] at H
            as_aux_lemma =>
             have H' := Aside0.mk H
             clear H
             obtain ⟨Ao57, co57, eo57⟩ := Kd.R_slice HO655.out
             subst eo57
             obtain ⟨Ao58, co58, eo58⟩ := Kd.R_slice HO659.out
             subst eo58
             go_wp2_with (first | (go_at_call 21; (with_reducible refine (laws_vTexts.calls k _ _ t653 _ _ t657 true _ ?side1 ?side2 ?side3 ?side4 A44.out).mono ?_); (case side1 => exact ax398); (case side2 => exact ax399); (case side3 => exact ax400); (case side4 => exact ax401); rintro e w' ⟨rfl, ⟨nd, rfl⟩⟩))
             go_meet
             case rel => exact ⟨_, ((t662 != false)), ax30, H', ⟨by first | omega | exact Nat.le_refl _⟩, ⟨ax393⟩, ⟨ax394⟩, ⟨ax395⟩, ⟨ax396⟩, ⟨ax397⟩, ⟨ax392⟩⟩
         ·rw [if_neg c50] at H
          have c50b0 : (t672.toList == t674.toList) = false := beq_eq_false_iff_ne.mpr c50
          have c50b1 : (t672.toList != t674.toList) = true := bne_iff_ne.mpr c50
          as_aux_lemma =>
           have H' := Aside0.mk H
           clear H
           obtain ⟨Ao59, co59, eo59⟩ := Kd.R_slice HO655.out
           subst eo59
           obtain ⟨Ao60, co60, eo60⟩ := Kd.R_slice HO659.out
           subst eo60
           go_wp2_with (first | (go_at_call 21; (with_reducible refine (laws_vTexts.calls k _ _ t653 _ _ t657 true _ ?side1 ?side2 ?side3 ?side4 A44.out).mono ?_); (case side1 => exact ax398); (case side2 => exact ax399); (case side3 => exact ax400); (case side4 => exact ax401); rintro e w' ⟨rfl, ⟨nd, rfl⟩⟩))
           go_meet
           case rel => exact ⟨_, (true), ax30, H', ⟨by first | omega | exact Nat.le_refl _⟩, ⟨ax393⟩, ⟨ax394⟩, ⟨ax395⟩, ⟨ax396⟩, ⟨ax397⟩, ⟨ax392⟩⟩
       ·rw [if_neg c46] at H
        have c46b0 : (t661.toList == t663.toList) = false := beq_eq_false_iff_ne.mpr c46
        have c46b1 : (t661.toList != t663.toList) = true := bne_iff_ne.mpr c46
        as_aux_lemma =>
         have H' := Aside0.mk H
         clear H
         obtain ⟨Ao61, co61, eo61⟩ := Kd.R_slice HO655.out
         subst eo61
         obtain ⟨Ao62, co62, eo62⟩ := Kd.R_slice HO659.out
         subst eo62
         go_wp2_with (first | (go_at_call 21; (with_reducible refine (laws_vTexts.calls k _ _ t653 _ _ t657 true _ ?side1 ?side2 ?side3 ?side4 A44.out).mono ?_); (case side1 => exact ax398); (case side2 => exact ax399); (case side3 => exact ax400); (case side4 => exact ax401); rintro e w' ⟨rfl, ⟨nd, rfl⟩⟩))
         go_meet
         case rel => exact ⟨_, (true), ax30, H', ⟨by first | omega | exact Nat.le_refl _⟩, ⟨ax393⟩, ⟨ax394⟩, ⟨ax395⟩, ⟨ax396⟩, ⟨ax397⟩, ⟨ax392⟩⟩
      ·replace c45 := Bool.eq_false_iff.mpr c45
       subst c45
       rw [if_neg (show ¬ (false = true) by decide)] at H
       as_aux_lemma =>
        have H' := Aside0.mk H
        clear H
        obtain ⟨Ao63, co63, eo63⟩ := Kd.R_slice HO655.out
        subst eo63
        obtain ⟨Ao64, co64, eo64⟩ := Kd.R_slice HO659.out
        subst eo64
        go_wp2_with (first | (go_at_call 21; (with_reducible refine (laws_vTexts.calls k _ _ t653 _ _ t657 false _ ?side1 ?side2 ?side3 ?side4 A44.out).mono ?_); (case side1 => exact ax398); (case side2 => exact ax399); (case side3 => exact ax400); (case side4 => exact ax401); rintro e w' ⟨rfl, ⟨nd, rfl⟩⟩))
        go_meet
        case rel => exact ⟨_, (true), ax30, H', ⟨by first | omega | exact Nat.le_refl _⟩, ⟨ax393⟩, ⟨ax394⟩, ⟨ax395⟩, ⟨ax396⟩, ⟨ax397⟩, ⟨ax392⟩⟩
   ·rw [if_neg c41] at H
    have c41b0 : (t649.toList == t651.toList) = false := beq_eq_false_iff_ne.mpr c41
    have c41b1 : (t649.toList != t651.toList) = true := bne_iff_ne.mpr c41
    (first | rw [c41b0] | (simp only [i64_w, i32_w]; rw [c41b0]) | skip)
    as_aux_lemma =>
     have H' := Aside0.mk H
     clear H
     go_wp2
     go_meet
     case rel => exact ⟨_, (true), ax30, H', ⟨by first | omega | exact Nat.le_refl _⟩, ⟨ax393⟩, ⟨ax394⟩, ⟨ax395⟩, ⟨ax396⟩, ⟨ax397⟩, ⟨ax392⟩⟩
  case rest =>
   clear HC15
   (try clear c0);(try clear hcz19_0);(try clear hfz19_0);(try clear hcz21_0);(try clear hfz21_0);(try clear hcz23_0);(try clear hfz23_0);(try clear hcz25_0);(try clear hfz25_0);(try clear hcz27_0);(try clear hfz27_0);(try clear hcz29_0);(try clear hfz29_0);(try clear hcz37_0);(try clear hfz37_0);(try clear hcz39_0);(try clear hfz39_0);(try clear c3)
   obtain ⟨kq, x138_14, rfl, HA, HJ14, HO_9, HO_649000, HO_672000, BK648, BK671, HB⟩ := hcut
   cases kq with
   | zero => exact absurd HA.out (by simp [laws_FnPrefixes.j0])
   | succ kj14 =>
    have H := HA.out; clear HA
    simp only [laws_FnPrefixes.j0] at H
    by_cases c65 : x138_14 = true
    ·subst c65
     rw [if_pos rfl] at H
     as_aux_lemma =>
      exact absurd ((Option.some.inj H).trans HRT.out) (by decide)
    ·replace c65 := Bool.eq_false_iff.mpr c65
     subst c65
     rw [if_neg (show ¬ (false = true) by decide)] at H
     have HC66 := Aside0.mk H; clear H
     go_upto_if 139 with (fail)
     go_cut [] (fun wc => ∃ (kq : Nat), Aside0 (laws_FnPrefixes.j1 kq t647 t649 t650 t653 t661 t662 t644 = some r) ∧ Aside0 (kq ≤ kj14) ∧ Aside0 (Kd.R Kd.string 9 wc w.heap.size (fun _ => True) v654 t653) ∧ Aside0 (Kd.R k74 74 wc w.heap.size (fun _ => True) (.slice Ao18 t644.length co18) t644) ∧ Aside0 (wc.heap[gb648]? = some (.cells #[(.slice Ao18 t644.length co18)] 26 (0, 0))) ∧ Aside0 (Below w.heap.size w wc))
     case first =>
      have H := HC66.out; clear HC66
      by_cases c67 : t673 = true
      ·subst c67
       rw [if_pos rfl] at H
       obtain ⟨⟨t677, t678⟩, A68, H⟩ := bs H
       obtain ⟨⟨t679, t682⟩, A69, H⟩ := bs H
       obtain ⟨⟨t683, t684⟩, A70, H⟩ := bs H
       by_cases c71 : t678 = true
       ·subst c71
        rw [if_pos rfl] at H
        by_cases c72 : t682 = true
        ·subst c72
         rw [if_pos rfl] at H
         by_cases c73 : t684 = true
         ·subst c73
          rw [if_pos rfl] at H
          by_cases c74 : t677.toList = t672.toList
          ·rw [if_pos c74] at H
           have c74b0 : (t677.toList == t672.toList) = true := beq_iff_eq.mpr c74
           have c74b1 : (t677.toList != t672.toList) = false := bne_eq_false_iff_eq.mpr c74
           clear c74
           (first | rw [c74b0] | (simp only [i64_w, i32_w]; rw [c74b0]) | skip)
           by_cases c75 : (t679.length : Int) = t683
           ·rw [if_pos c75] at H
            have c75b0 : ((t679.length : Int) == t683) = true := beq_iff_eq.mpr c75
            have c75b1 : ((t679.length : Int) != t683) = false := bne_eq_false_iff_eq.mpr c75
            clear c75
            as_aux_lemma =>
             have H' := Aside0.mk H
             clear H; have hnb76 := NB671_648.out; have hnc76 := NB648_671.out; have hcz77_0 := bc (.slice Ao35 t668.length co35) BK671 0; have hfz77_0 := blk_frozen BK671.out 0
             go_wp2_with (first | ((with_reducible refine gd 142 15 ?_); refine gc 142 Tryz.func15 #[.agg #[.slice Ao35 t668.length co35], .string (⟨#[]⟩ : ByteArray)] (impl_CompleteTo.calls kj14 _ _ t668 (⟨#[]⟩ : ByteArray) t677 true _ ax402 ((Kd.R_reads' HO_672000.out).2.1) A68.out) ?_; rintro e w78 ⟨rfl, hb⟩; refine ⟨_, rfl, ?_⟩; replace HO_9 := uR HO_9 hb; replace HO_649000 := uR HO_649000 hb; replace HO_672000 := uR HO_672000 hb; replace BK648 := ub BK648 hb; replace BK671 := ub BK671 hb; replace HB := Aside0.mk (below_step ax392 hb); (try clear hb); (try clear hb2); (try clear hk); (try clear hi); have hcz79_0 := bc (.slice Ao35 t668.length co35) BK671 0; have hfz79_0 := blk_frozen BK671.out 0) | ((with_reducible refine gd 148 13 ?_); refine gc 148 Tryz.func13 #[.agg #[.slice Ao35 t668.length co35], .string t672] (impl_WordsUnder.calls kj14 _ _ t668 t672 t679 true _ ax402 ((Kd.R_reads' HO_672000.out).2.1) A69.out) ?_; rintro e w80 ⟨v680, rfl, ho0, hb⟩; refine ⟨_, rfl, ?_⟩; replace HO_9 := uR HO_9 hb; replace HO_649000 := uR HO_649000 hb; replace HO_672000 := uR HO_672000 hb; have HO681 := Aside0.mk (Kd.R_lower ho0 (below_size ax392)); replace BK648 := ub BK648 hb; replace BK671 := ub BK671 hb; replace HB := Aside0.mk (below_step ax392 hb); (try clear hb); (try clear hb2); (try clear hk); (try clear hi); (try clear ho0); have hcz81_0 := bc (.slice Ao35 t668.length co35) BK671 0; have hfz81_0 := blk_frozen BK671.out 0) | ((with_reducible refine gd 153 22 ?_); refine gc 153 Tryz.func22 #[.agg #[.slice Ao35 t668.length co35]] (impl_CountWords.calls kj14 _ _ t668 t683 true _ ax402 ((Kd.R_reads' HO_672000.out).2.1) A70.out) ?_; rintro e w82 ⟨rfl, hb⟩; refine ⟨_, rfl, ?_⟩; replace HO_9 := uR HO_9 hb; replace HO_649000 := uR HO_649000 hb; replace HO_672000 := uR HO_672000 hb; replace HO681 := uR HO681 hb; replace BK648 := ub BK648 hb; replace BK671 := ub BK671 hb; replace HB := Aside0.mk (below_step ax392 hb); (try clear hb); (try clear hb2); (try clear hk); (try clear hi); obtain ⟨Ao83, co83, eo83⟩ := Kd.R_slice HO681.out; subst eo83))
             go_meet
             case rel => exact ⟨_, H', ⟨ax403⟩, ⟨ax404⟩, ⟨ax405⟩, ⟨ax396⟩, ⟨ax392⟩⟩
           ·rw [if_neg c75] at H
            have c75b0 : ((t679.length : Int) == t683) = false := beq_eq_false_iff_ne.mpr c75
            have c75b1 : ((t679.length : Int) != t683) = true := bne_iff_ne.mpr c75
            as_aux_lemma =>
             exact absurd ((Option.some.inj H).trans HRT.out) (by decide)
          ·rw [if_neg c74] at H
           have c74b0 : (t677.toList == t672.toList) = false := beq_eq_false_iff_ne.mpr c74
           have c74b1 : (t677.toList != t672.toList) = true := bne_iff_ne.mpr c74
           (first | rw [c74b0] | (simp only [i64_w, i32_w]; rw [c74b0]) | skip)
           as_aux_lemma =>
            exact absurd ((Option.some.inj H).trans HRT.out) (by decide)
         ·replace c73 := Bool.eq_false_iff.mpr c73
          subst c73
          rw [if_neg (show ¬ (false = true) by decide)] at H
          as_aux_lemma =>
           exact absurd ((Option.some.inj H).trans HRT.out) (by decide)
        ·replace c72 := Bool.eq_false_iff.mpr c72
         subst c72
         rw [if_neg (show ¬ (false = true) by decide)] at H
         as_aux_lemma =>
          exact absurd ((Option.some.inj H).trans HRT.out) (by decide)
       ·replace c71 := Bool.eq_false_iff.mpr c71
        subst c71
        rw [if_neg (show ¬ (false = true) by decide)] at H
        as_aux_lemma =>
         exact absurd ((Option.some.inj H).trans HRT.out) (by decide)
      ·replace c67 := Bool.eq_false_iff.mpr c67
       subst c67
       rw [if_neg (show ¬ (false = true) by decide)] at H
       as_aux_lemma =>
        have H' := Aside0.mk H
        clear H
        go_wp2
        go_meet
        case rel => exact ⟨_, H', ⟨ax403⟩, ⟨ax404⟩, ⟨ax405⟩, ⟨ax396⟩, ⟨ax392⟩⟩
     case rest =>
      clear HC66; (try clear c65)
      obtain ⟨kq, HA, HJ65, HO_9, HO_649000, BK648, HB⟩ := hcut
      cases kq with
      | zero => exact absurd HA.out (by simp [laws_FnPrefixes.j1])
      | succ kj65 =>
       have H := HA.out; clear HA
       simp only [laws_FnPrefixes.j1] at H
       have HC84 := Aside0.mk H; clear H
       go_upto_if 177 with (fail)
       go_cut [] (fun wc => ∃ (kq : Nat), Aside0 (laws_FnPrefixes.j3 kq t647 t653 t661 t662 t644 = some r) ∧ Aside0 (kq ≤ kj65) ∧ Aside0 (Kd.R Kd.string 9 wc w.heap.size (fun _ => True) v654 t653) ∧ Aside0 (Kd.R k74 74 wc w.heap.size (fun _ => True) (.slice Ao18 t644.length co18) t644) ∧ Aside0 (wc.heap[gb648]? = some (.cells #[(.slice Ao18 t644.length co18)] 26 (0, 0))) ∧ Aside0 (Below w.heap.size w wc))
       case first =>
        have H := HC84.out; clear HC84
        by_cases c85 : t650 = true
        ·subst c85
         rw [if_pos rfl] at H
         obtain ⟨⟨t685, t688⟩, A86, H⟩ := bs H
         have HC87 := Aside0.mk H; clear H; have hcz88_0 := bc (.slice Ao18 t644.length co18) BK648 0; have hfz88_0 := blk_frozen BK648.out 0
         go_upto_region 23 with (first | ((with_reducible refine gd 181 13 ?_); refine gc 181 Tryz.func13 #[.agg #[.slice Ao18 t644.length co18], .string t649] (impl_WordsUnder.calls kj65 _ _ t644 t649 t685 t688 _ ax406 ((Kd.R_reads' HO_649000.out).2.1) A86.out) ?_; rintro e w89 ⟨v686, rfl, ho0, hb⟩; refine ⟨_, rfl, ?_⟩; replace HO_9 := uR HO_9 hb; replace HO_649000 := uR HO_649000 hb; have HO687 := Aside0.mk (Kd.R_lower ho0 (below_size ax388)); replace BK648 := ub BK648 hb; replace HB := Aside0.mk (below_step ax388 hb); (try clear hb); (try clear hb2); (try clear hk); (try clear hi); (try clear ho0)))
         (try simp only [Act.put, List.setIfInBounds_toArray, List.set_cons_zero, List.set_cons_succ])
         go_cut [210] (fun v210 wc => ∃ (kq : Nat) (x210_86 : Bool), v210 = .bool x210_86 ∧ Aside0 (laws_FnPrefixes.j2 kq t647 t649 t653 t661 t662 x210_86 t644 = some r) ∧ Aside0 (kq ≤ kj65) ∧ Aside0 (Kd.R Kd.string 9 wc w.heap.size (fun _ => True) v654 t653) ∧ Aside0 (Kd.R k74 74 wc w.heap.size (fun _ => True) (.slice Ao18 t644.length co18) t644) ∧ Aside0 (wc.heap[gb648]? = some (.cells #[(.slice Ao18 t644.length co18)] 26 (0, 0))) ∧ Aside0 (Below w.heap.size w wc))
         case first =>
          have H := HC87.out; clear HC87
          by_cases c90 : t688 = true
          ·subst c90
           rw [if_pos rfl] at H
           by_cases c91 : (t649.size : Int) > (t647.size : Int)
           ·rw [if_pos c91] at H
            have c91b0 : decide ((t647.size : Int) < (t649.size : Int)) = true := decide_eq_true c91
            have c91b1 : decide (t647.size < t649.size) = true := decide_eq_true (Int.ofNat_lt.mp c91)
            clear c91
            (first | rw [c91b0] | (simp only [i64_w, i32_w]; rw [c91b0]) | skip)
            as_aux_lemma =>
             have H' := Aside0.mk H
             clear H
             go_wp2
             go_meet
             case rel => exact ⟨_, (true), ax30, H', ⟨ax407⟩, ⟨ax404⟩, ⟨ax405⟩, ⟨ax396⟩, ⟨ax388⟩⟩
           ·rw [if_neg c91] at H
            have c91b0 : decide ((t647.size : Int) < (t649.size : Int)) = false := decide_eq_false c91
            have c91b1 : decide (t647.size < t649.size) = false := decide_eq_false (fun h => c91 (Int.ofNat_lt.mpr h))
            clear c91
            (first | rw [c91b0] | (simp only [i64_w, i32_w]; rw [c91b0]) | skip)
            by_cases c92 : 0 ≤ (t649.size : Int)
            ·rw [if_pos c92] at H
             have c92b0 := eq_true c92
             have c92b1 : decide (0 ≤ (t649.size : Int)) = true := decide_eq_true c92
             clear c92
             by_cases c93 : (t649.size : Int) ≤ (t647.size : Int)
             ·rw [if_pos c93] at H
              have c93b0 := eq_true c93
              have c93b1 : decide ((t649.size : Int) ≤ (t647.size : Int)) = true := decide_eq_true c93
              clear c93
              obtain ⟨js94, hjs94⟩ : ∃ j_ : ByteArray, (t647.extract 0 t649.size) = j_ := ⟨_, rfl⟩
              replace H : (if js94.toList = t649.toList then (if t649.toList = t647.toList then (laws_FnPrefixes.j2 kj65 t647 t649 t653 t661 t662 false t644) else (laws_FnPrefixes.j2 kj65 t647 t649 t653 t661 t662 ((t685.length : Int) != 1) t644)) else (laws_FnPrefixes.j2 kj65 t647 t649 t653 t661 t662 true t644)) = some r := by first | (rw [hjs94] at H; exact H) | (simp only [hjs94] at H ⊢; exact H)
              by_cases c95 : js94.toList = t649.toList
              ·rw [if_pos c95] at H
               have c95b0 : (js94.toList == t649.toList) = true := beq_iff_eq.mpr c95
               have c95b1 : (js94.toList != t649.toList) = false := bne_eq_false_iff_eq.mpr c95
               clear c95
               by_cases c96 : t649.toList = t647.toList
               ·rw [if_pos c96] at H
                have c96b0 : (t649.toList == t647.toList) = true := beq_iff_eq.mpr c96
                have c96b1 : (t649.toList != t647.toList) = false := bne_eq_false_iff_eq.mpr c96
                clear c96
                as_aux_lemma =>
                 have H' := Aside0.mk H
                 clear H
                 go_wp2
                 go_meet
                 case rel => exact ⟨_, (false), ax30, H', ⟨ax407⟩, ⟨ax404⟩, ⟨ax405⟩, ⟨ax396⟩, ⟨ax388⟩⟩
               ·rw [if_neg c96] at H
                have c96b0 : (t649.toList == t647.toList) = false := beq_eq_false_iff_ne.mpr c96
                have c96b1 : (t649.toList != t647.toList) = true := bne_iff_ne.mpr c96
                as_aux_lemma =>
                 have H' := Aside0.mk H
                 clear H
                 obtain ⟨Ao97, co97, eo97⟩ := Kd.R_slice HO687.out
                 subst eo97
                 go_wp2
                 go_meet
                 case rel => exact ⟨_, (((t685.length : Int) != 1)), ax30, H', ⟨ax407⟩, ⟨ax404⟩, ⟨ax405⟩, ⟨ax396⟩, ⟨ax388⟩⟩
              ·rw [if_neg c95] at H
               have c95b0 : (js94.toList == t649.toList) = false := beq_eq_false_iff_ne.mpr c95
               have c95b1 : (js94.toList != t649.toList) = true := bne_iff_ne.mpr c95
               as_aux_lemma =>
                have H' := Aside0.mk H
                clear H
                go_wp2
                go_meet
                case rel => exact ⟨_, (true), ax30, H', ⟨ax407⟩, ⟨ax404⟩, ⟨ax405⟩, ⟨ax396⟩, ⟨ax388⟩⟩
             ·rw [if_neg c93] at H
              exact absurd H (by simp)
            ·rw [if_neg c92] at H
             exact absurd H (by simp)
          ·replace c90 := Bool.eq_false_iff.mpr c90
           subst c90
           rw [if_neg (show ¬ (false = true) by decide)] at H
           as_aux_lemma =>
            have H' := Aside0.mk H
            clear H
            go_wp2
            go_meet
            case rel => exact ⟨_, (true), ax30, H', ⟨ax407⟩, ⟨ax404⟩, ⟨ax405⟩, ⟨ax396⟩, ⟨ax388⟩⟩
         case rest =>
          clear HC87
          (try clear hfz88_0);(try clear hcz88_0);(try clear c85)
          obtain ⟨kq, x210_86, rfl, HA, HJ86, HO_9, HO_649000, BK648, HB⟩ := hcut
          cases kq with
          | zero => exact absurd HA.out (by simp [laws_FnPrefixes.j2])
          | succ kj86 =>
           have H := HA.out; clear HA
           simp only [laws_FnPrefixes.j2] at H
           by_cases c98 : x210_86 = true
           ·subst c98
            rw [if_pos rfl] at H
            as_aux_lemma =>
             exact absurd ((Option.some.inj H).trans HRT.out) (by decide)
           ·replace c98 := Bool.eq_false_iff.mpr c98
            subst c98
            rw [if_neg (show ¬ (false = true) by decide)] at H
            by_cases c99 : (t649.size : Int) > 0
            ·rw [if_pos c99] at H
             have c99b0 : decide (0 < (t649.size : Int)) = true := decide_eq_true c99
             have c99b1 : decide (0 < t649.size) = true := decide_eq_true (by omega)
             clear c99
             obtain ⟨ji100, hji100⟩ : ∃ j_ : Int, (wrap64 ((t649.size : Int) - 1)) = j_ := ⟨_, rfl⟩
             replace H : (if 0 ≤ (ji100) then (if (ji100) ≤ (t649.size : Int) then ((impl_WordsUnder.f kj86 t644 (t649.extract 0 ((ji100) : Int).toNat)).bind fun bt689 => (if bt689.2 = true then (if (bt689.1.length : Int) < 2 then (some false) else (laws_FnPrefixes.j3 kj86 t647 t653 t661 t662 t644)) else (some false))) else (none)) else (none)) = some r := by first | (rw [hji100] at H; exact H) | (simp only [hji100] at H ⊢; exact H)
             have hji100w : (IntKind.i64.wrap ((t649.size : Int) - 1)) = ji100 := (i64_w _).trans hji100
             by_cases c101 : 0 ≤ (ji100)
             ·rw [if_pos c101] at H
              have c101b0 := eq_true c101
              have c101b1 : decide (0 ≤ (ji100)) = true := decide_eq_true c101
              clear c101
              by_cases c102 : (ji100) ≤ (t649.size : Int)
              ·rw [if_pos c102] at H
               have c102b0 := eq_true c102
               have c102b1 : decide ((ji100) ≤ (t649.size : Int)) = true := decide_eq_true c102
               clear c102
               obtain ⟨js103, hjs103⟩ : ∃ j_ : ByteArray, (t649.extract 0 ((ji100) : Int).toNat) = j_ := ⟨_, rfl⟩
               replace H : ((impl_WordsUnder.f kj86 t644 js103).bind fun bt689 => (if bt689.2 = true then (if (bt689.1.length : Int) < 2 then (some false) else (laws_FnPrefixes.j3 kj86 t647 t653 t661 t662 t644)) else (some false))) = some r := by first | (rw [hjs103] at H; exact H) | (simp only [hjs103] at H ⊢; exact H)
               obtain ⟨⟨t689, t692⟩, A104, H⟩ := bs H
               by_cases c105 : t692 = true
               ·subst c105
                rw [if_pos rfl] at H
                by_cases c106 : (t689.length : Int) < 2
                ·rw [if_pos c106] at H
                 have c106b0 : decide ((t689.length : Int) < 2) = true := decide_eq_true c106
                 have c106b1 : decide (t689.length < 2) = true := decide_eq_true (by omega)
                 clear c106
                 as_aux_lemma =>
                  exact absurd ((Option.some.inj H).trans HRT.out) (by decide)
                ·rw [if_neg c106] at H
                 have c106b0 : decide ((t689.length : Int) < 2) = false := decide_eq_false c106
                 have c106b1 : decide (t689.length < 2) = false := decide_eq_false (by omega)
                 clear c106
                 as_aux_lemma =>
                  have H' := Aside0.mk H
                  clear H
                  try go_wp2
                  replace HO_9 := Aside0.mk (Kd.R_drew HO_9.out); replace HO_649000 := Aside0.mk (Kd.R_drew HO_649000.out); replace BK648 := Aside0.mk (blk_drew BK648.out); replace HB := Aside0.mk (below_drew1 HB.out)
                  refine start_ (n := 12) (S := fun w' => w'.cell? ⟨gb648, 0, none⟩ = some (.slice Ao18 t644.length co18)) (ds := []) (ob 12 0) (by kernel_rfl) rfl rfl ((blk_cell BK648.out 0).trans rfl) (fun hHeld => ?_); refine with_tabW laws_FnPrefixes.tab26 laws_FnPrefixes.bits26 (fun HT_ HW_ => ?_)
                  generalize wc.drew = w107 at HO_9 HO_649000 BK648 HB hHeld ⊢
                  refine pu 1 216 ?_; refine pu 2 217 ?_; refine pu 3 218 ?_; refine pu 4 219 ?_; refine pu 5 220 ?_
                  refine take_ (i := 0) (N := some 215) (v := ?_) (a' := ?_) (ob 12 63) rfl rfl (take_ofW HT_.out HW_.out (by kernel_rfl)) (fun _ _ _ h => h) (Or.inl ⟨by rfl, ?_⟩) hHeld ?_ ?_; rotate_left; exact ax13; rotate_left; exact ax14
                  refine one_ (i := 6) (N := some 221) (ob 12 127) rfl rfl (one_of HT_.out (by kernel_rfl)) (by decide) (fun K hK => ?_)
                  refine goes_ Tryz.func13 (by kernel_rfl) rfl #[.agg #[.slice Ao18 t644.length co18], .string js103] (by rfl) rfl rfl ax40 ?_
                  with_reducible refine (impl_WordsUnder.calls kj86 _ _ t644 js103 t689 true _ ?side1 ?side2 A104.out).mono ?_
                  (case side1 => exact ax406)
                  (case side2 => exact (Kd.R_reads' HO_649000.out).2.1)
                  rintro e w108 ⟨v690, rfl, ho0, hb⟩
                  refine ⟨_, rfl, ?_⟩
                  replace HO_9 := uR HO_9 hb; replace HO_649000 := uR HO_649000 hb; have HO691 := Aside0.mk (Kd.R_lower ho0 (below_size ax388)); replace BK648 := ub BK648 hb; replace HB := Aside0.mk (below_step ax388 hb); (try clear hb); (try clear hb2); (try clear hk); (try clear hi); (try clear ho0)
                  refine hK.out _ _ ((blk_cell BK648.out 0).trans rfl) (fun hHeld => ?_)
                  clear hK K
                  refine nm 221 ?_
                  refine pu 7 214 ?_; refine pu 8 222 ?_; refine pu 9 223 ?_; refine pu 10 30 ?_; refine pu 11 31 ?_
                  refine dn ?_
                  obtain ⟨Ao109, co109, eo109⟩ := Kd.R_slice HO691.out
                  subst eo109
                  try go_wp2
                  go_meet
                  case rel => exact ⟨_, H', ⟨ax408⟩, ⟨ax404⟩, ⟨ax405⟩, ⟨ax396⟩, ⟨ax388⟩⟩
               ·replace c105 := Bool.eq_false_iff.mpr c105
                subst c105
                rw [if_neg (show ¬ (false = true) by decide)] at H
                as_aux_lemma =>
                 exact absurd ((Option.some.inj H).trans HRT.out) (by decide)
              ·rw [if_neg c102] at H
               exact absurd H (by simp)
             ·rw [if_neg c101] at H
              exact absurd H (by simp)
            ·rw [if_neg c99] at H
             have c99b0 : decide (0 < (t649.size : Int)) = false := decide_eq_false c99
             have c99b1 : decide (0 < t649.size) = false := decide_eq_false (by omega)
             clear c99
             as_aux_lemma =>
              have H' := Aside0.mk H
              clear H
              go_wp2
              go_meet
              case rel => exact ⟨_, H', ⟨ax408⟩, ⟨ax404⟩, ⟨ax405⟩, ⟨ax396⟩, ⟨ax388⟩⟩
        ·replace c85 := Bool.eq_false_iff.mpr c85
         subst c85
         rw [if_neg (show ¬ (false = true) by decide)] at H
         as_aux_lemma =>
          have H' := Aside0.mk H
          clear H
          go_wp2
          go_meet
          case rel => exact ⟨_, H', ⟨ax407⟩, ⟨ax404⟩, ⟨ax405⟩, ⟨ax396⟩, ⟨ax388⟩⟩
       case rest =>
        clear HC84
        obtain ⟨kq, HA, HJ83, HO_9, HO_649000, BK648, HB⟩ := hcut
        cases kq with
        | zero => exact absurd HA.out (by simp [laws_FnPrefixes.j3])
        | succ kj83 =>
         have H := HA.out; clear HA
         simp only [laws_FnPrefixes.j3] at H
         by_cases c110 : t662 = true
         ·subst c110
          rw [if_pos rfl] at H
          obtain ⟨⟨t693, t696⟩, A111, H⟩ := bs H
          by_cases c112 : t696 = true
          ·subst c112
           rw [if_pos rfl] at H
           by_cases c113 : (t661.size : Int) ≥ (t647.size : Int)
           ·rw [if_pos c113] at H
            have c113b0 : decide ((t647.size : Int) ≤ (t661.size : Int)) = true := decide_eq_true c113
            have c113b1 : decide (t647.size ≤ t661.size) = true := decide_eq_true (Int.ofNat_le.mp c113)
            clear c113
            by_cases c114 : 0 ≤ (t647.size : Int)
            ·rw [if_pos c114] at H
             have c114b0 := eq_true c114
             have c114b1 : decide (0 ≤ (t647.size : Int)) = true := decide_eq_true c114
             clear c114
             by_cases c115 : (t647.size : Int) ≤ (t661.size : Int)
             ·rw [if_pos c115] at H
              have c115b0 := eq_true c115
              have c115b1 : decide ((t647.size : Int) ≤ (t661.size : Int)) = true := decide_eq_true c115
              clear c115
              obtain ⟨js116, hjs116⟩ : ∃ j_ : ByteArray, (t661.extract 0 t647.size) = j_ := ⟨_, rfl⟩
              replace H : (if js116.toList = t647.toList then ((laws_vTexts.f kj83 t693 t653).bind fun t697 => (some t697)) else (some false)) = some r := by first | (rw [hjs116] at H; exact H) | (simp only [hjs116] at H ⊢; exact H)
              by_cases c117 : js116.toList = t647.toList
              ·rw [if_pos c117] at H
               have c117b0 : (js116.toList == t647.toList) = true := beq_iff_eq.mpr c117
               have c117b1 : (js116.toList != t647.toList) = false := bne_eq_false_iff_eq.mpr c117
               clear c117
               obtain ⟨t697, A118, H⟩ := bs H
               as_aux_lemma =>
                obtain rfl := Option.some.inj H
                have hcz119_0 := bc (.slice Ao18 t644.length co18) BK648 0; have hfz119_0 := blk_frozen BK648.out 0
                go_wp2_with (first | ((with_reducible refine gd 235 13 ?_); refine gc 235 Tryz.func13 #[.agg #[.slice Ao18 t644.length co18], .string t661] (impl_WordsUnder.calls kj83 _ _ t644 t661 t693 true _ ax406 ((Kd.R_reads' HO_649000.out).2.1) A111.out) ?_; rintro e w120 ⟨v694, rfl, ho0, hb⟩; refine ⟨_, rfl, ?_⟩; replace HO_9 := uR HO_9 hb; replace HO_649000 := uR HO_649000 hb; have HO695 := Aside0.mk (Kd.R_lower ho0 (below_size ax388)); replace BK648 := ub BK648 hb; replace HB := Aside0.mk (below_step ax388 hb); (try clear hb); (try clear hb2); (try clear hk); (try clear hi); (try clear ho0); obtain ⟨Ao121, co121, eo121⟩ := Kd.R_slice HO695.out; subst eo121; obtain ⟨Ao122, co122, eo122⟩ := Kd.R_slice HO_9.out; subst eo122) | (go_at_call 21; (with_reducible refine (laws_vTexts.calls kj83 _ _ t693 _ _ t653 t697 _ ?side1 ?side2 ?side3 ?side4 A118.out).mono ?_); (case side1 => repeat (first | exact (Kd.R_reads' HO695.out).2.2 | (with_reducible refine Kd.C_alloc ?_ _) | (with_reducible refine Kd.C_drewN ?_ _) | (with_reducible refine Kd.C_drew ?_))); (case side2 => exact (Kd.R_reads' HO695.out).2.1); (case side3 => exact ax409); (case side4 => exact (Kd.R_reads' HO_9.out).2.1); rintro e w' ⟨rfl, ⟨nd, rfl⟩⟩))
                go_ret
                exact ⟨(by first | rfl | (simp [errW_none, errW_some] <;> rfl) | (simp only [← hjs116]; first | rfl | (simp [errW_none, errW_some] <;> rfl)) | (simp [*, errW_none, errW_some] <;> rfl)), by repeat (first | (with_reducible first | exact HB.out | apply below_alloc | apply pw_below_drewN | apply below_drew1 | refine below_set ?_ GE648.out) | exact HB.out)⟩
              ·rw [if_neg c117] at H
               have c117b0 : (js116.toList == t647.toList) = false := beq_eq_false_iff_ne.mpr c117
               have c117b1 : (js116.toList != t647.toList) = true := bne_iff_ne.mpr c117
               as_aux_lemma =>
                exact absurd ((Option.some.inj H).trans HRT.out) (by decide)
             ·rw [if_neg c115] at H
              exact absurd H (by simp)
            ·rw [if_neg c114] at H
             exact absurd H (by simp)
           ·rw [if_neg c113] at H
            have c113b0 : decide ((t647.size : Int) ≤ (t661.size : Int)) = false := decide_eq_false c113
            have c113b1 : decide (t647.size ≤ t661.size) = false := decide_eq_false (fun h => c113 (Int.ofNat_le.mpr h))
            clear c113
            as_aux_lemma =>
             exact absurd ((Option.some.inj H).trans HRT.out) (by decide)
          ·replace c112 := Bool.eq_false_iff.mpr c112
           subst c112
           rw [if_neg (show ¬ (false = true) by decide)] at H
           as_aux_lemma =>
            exact absurd ((Option.some.inj H).trans HRT.out) (by decide)
         ·replace c110 := Bool.eq_false_iff.mpr c110
          subst c110
          rw [if_neg (show ¬ (false = true) by decide)] at H
          as_aux_lemma =>
           obtain rfl := Option.some.inj H
           go_wp2
           go_ret
           exact ⟨ax26, by repeat (first | (with_reducible first | exact HB.out | apply below_alloc | apply pw_below_drewN | apply below_drew1 | refine below_set ?_ GE648.out) | exact HB.out)⟩

end Go.Proofs.YtcplbbflfgckbaaGreatDoor.X


-- By gen.py (the session's own program over the kit's printer): functions of the program, each with its contract. Lean checks it.
import Derived.Test.YtcbjfflaamlpcaaX0
import Derived.Test.YtcbjfflaamlpcaaX2
import Derived.Test.YtcbjfflaamlpcaaX7
import Derived.Test.YtcbjfflaamlpcaaX13
import Derived.Test.YtcbjfflaamlpcaaX22
import Derived.Test.YtcbjfflaamlpcaaX23
import Derived.Test.YtcbjfflaamlpcaaX24
namespace Go.Proofs.Ytcbjfflaamlpcaa.X
open Go.RowKit Go.Proofs.YtcbjfflaamlpcaaW.PrintWords Go.Proofs.YtcbjfflaamlpcaaW.PrintLast Go.Proofs.YtcbjfflaamlpcaaW.PrintMore
attribute [local go_sem] max2_int min2_int max_two min_two max_three min_three max_four min_four   -- for this text's walks alone
set_option linter.unusedVariables false
set_option linter.unusedSimpArgs false

/-! ### laws_FnExactFatalWords: function 9 -/
mutual
def laws_FnExactFatalWords.j0 : Nat → Int → List ByteArray → Bool → List ByteArray → Bool → Bool → List (S80) → List (S67) → Option (Bool)
 | 0, _, _, _, _, _, _, _, _ => none
 | k + 1, x1, x6, x7, x9, x10, x44, x666000, x678000 => if x44 = true then (some false) else ((laws_toTrie.f k x666000).bind fun t683 => ((laws_eqTrie.f k x678000 t683).bind fun t686 => (if t686 = true then ((laws_markTrie.f k x678000 1).bind fun bt687 => (if bt687.1 < 0 then (laws_FnExactFatalWords.j1 k x1 x6 x7 x9 true x666000) else ((laws_eqStringS.f k x9 x6).bind fun t689 => (if t689 = true then (laws_FnExactFatalWords.j1 k x1 x6 x7 x9 (x10 != x7) x666000) else (laws_FnExactFatalWords.j1 k x1 x6 x7 x9 true x666000))))) else (some false))))
def laws_FnExactFatalWords.j1 : Nat → Int → List ByteArray → Bool → List ByteArray → Bool → List (S80) → Option (Bool)
 | 0, _, _, _, _, _, _ => none
 | k + 1, x1, x6, x7, x9, x65, x666000 => if x65 = true then (some false) else ((laws_markStringS.f k x9 1).bind fun bt690 => ((laws_heldStringS.f k bt690.2 1).bind fun t692 => (if t692 < 0 then (some false) else (if t692 = bt690.1 then ((laws_toTrie.f k x666000).bind fun t693 => ((impl_FatalWords.f k t693 x1).bind fun bt696 => ((laws_eqStringS.f k bt696.1 x6).bind fun t700 => (if t700 = true then (laws_FnExactFatalWords.j2 k bt690.2 bt690.1 (bt696.2 != x7)) else (laws_FnExactFatalWords.j2 k bt690.2 bt690.1 true))))) else (some false)))))
def laws_FnExactFatalWords.j2 : Nat → List ByteArray → Int → Bool → Option (Bool)
 | 0, _, _, _ => none
 | k + 1, x9, x12, x92 => if x92 = true then (some false) else ((laws_heldStringS.f k x9 1).bind fun t701 => (if t701 < 0 then (some false) else (if t701 = x12 then (some true) else (some false))))
end
def laws_FnExactFatalWords.f (k : Nat) (l0_0 : List (S80)) (a1 : Int) : Option (Bool) := (laws_szTrie.f l0_0 1048576).bind fun t666 => (if t666 < 0 then (some true) else ((laws_toTrie.f k l0_0).bind fun t667 => ((spec_FatalWords.f k t667 a1).bind fun bt670 => ((laws_toTrie.f k l0_0).bind fun t674 => ((impl_FatalWords.f k t674 a1).bind fun bt678 => ((laws_eqStringS.f k bt678.1 bt670.1).bind fun t682 => (if t682 = true then (laws_FnExactFatalWords.j0 k a1 bt670.1 bt670.2 bt678.1 bt678.2 (bt678.2 != bt670.2) l0_0 t674) else (laws_FnExactFatalWords.j0 k a1 bt670.1 bt670.2 bt678.1 bt678.2 true l0_0 t674))))))))
theorem laws_FnExactFatalWords.mono_l : ∀ k, (∀ y0 y1 y2 y3 y4 y5 y6 y7, LeO (laws_FnExactFatalWords.j0 k y0 y1 y2 y3 y4 y5 y6 y7) (laws_FnExactFatalWords.j0 (k + 1) y0 y1 y2 y3 y4 y5 y6 y7)) ∧ (∀ y0 y1 y2 y3 y4 y5, LeO (laws_FnExactFatalWords.j1 k y0 y1 y2 y3 y4 y5) (laws_FnExactFatalWords.j1 (k + 1) y0 y1 y2 y3 y4 y5)) ∧ (∀ y0 y1 y2, LeO (laws_FnExactFatalWords.j2 k y0 y1 y2) (laws_FnExactFatalWords.j2 (k + 1) y0 y1 y2))
 | 0 => ⟨fun _ _ _ _ _ _ _ _ r h => by simp [laws_FnExactFatalWords.j0] at h, fun _ _ _ _ _ _ r h => by simp [laws_FnExactFatalWords.j1] at h, fun _ _ _ r h => by simp [laws_FnExactFatalWords.j2] at h⟩
 | k + 1 => by
  obtain ⟨ih0, ih1, ih2⟩ := laws_FnExactFatalWords.mono_l k
  refine ⟨?_, ?_, ?_⟩
  ·intro y0 y1 y2 y3 y4 y5 y6 y7
   unfold laws_FnExactFatalWords.j0
   repeat' first
   | (with_reducible exact ih0 _ _ _ _ _ _ _ _)
   | (with_reducible exact ih1 _ _ _ _ _ _)
   | (with_reducible exact ih2 _ _ _)
   | (with_reducible exact impl_FatalWords.mono _ _ _)
   | (with_reducible exact laws_eqStringS.mono _ _ _)
   | (with_reducible exact laws_eqTrie.mono _ _ _)
   | (with_reducible exact laws_heldStringS.mono _ _ _)
   | (with_reducible exact laws_markStringS.mono _ _ _)
   | (with_reducible exact laws_markTrie.mono _ _ _)
   | (with_reducible exact laws_toTrie.mono _ _)
   | (with_reducible exact spec_FatalWords.mono _ _ _)
   | (with_reducible exact LeO.refl _)
   | (with_reducible exact LeO.none _)
   | (with_reducible refine LeO.ite ?_ ?_)
   | (with_reducible refine LeO.bind ?_ (fun _ => ?_))
   | exact ih0 _ _ _ _ _ _ _ _
   | exact ih1 _ _ _ _ _ _
   | exact ih2 _ _ _
   | exact impl_FatalWords.mono _ _ _
   | exact laws_eqStringS.mono _ _ _
   | exact laws_eqTrie.mono _ _ _
   | exact laws_heldStringS.mono _ _ _
   | exact laws_markStringS.mono _ _ _
   | exact laws_markTrie.mono _ _ _
   | exact laws_toTrie.mono _ _
   | exact spec_FatalWords.mono _ _ _
   | exact LeO.none _
   | refine LeO.ite ?_ ?_
   | refine LeO.bind ?_ (fun _ => ?_)
  ·intro y0 y1 y2 y3 y4 y5
   unfold laws_FnExactFatalWords.j1
   repeat' first
   | (with_reducible exact ih0 _ _ _ _ _ _ _ _)
   | (with_reducible exact ih1 _ _ _ _ _ _)
   | (with_reducible exact ih2 _ _ _)
   | (with_reducible exact impl_FatalWords.mono _ _ _)
   | (with_reducible exact laws_eqStringS.mono _ _ _)
   | (with_reducible exact laws_eqTrie.mono _ _ _)
   | (with_reducible exact laws_heldStringS.mono _ _ _)
   | (with_reducible exact laws_markStringS.mono _ _ _)
   | (with_reducible exact laws_markTrie.mono _ _ _)
   | (with_reducible exact laws_toTrie.mono _ _)
   | (with_reducible exact spec_FatalWords.mono _ _ _)
   | (with_reducible exact LeO.refl _)
   | (with_reducible exact LeO.none _)
   | (with_reducible refine LeO.ite ?_ ?_)
   | (with_reducible refine LeO.bind ?_ (fun _ => ?_))
   | exact ih0 _ _ _ _ _ _ _ _
   | exact ih1 _ _ _ _ _ _
   | exact ih2 _ _ _
   | exact impl_FatalWords.mono _ _ _
   | exact laws_eqStringS.mono _ _ _
   | exact laws_eqTrie.mono _ _ _
   | exact laws_heldStringS.mono _ _ _
   | exact laws_markStringS.mono _ _ _
   | exact laws_markTrie.mono _ _ _
   | exact laws_toTrie.mono _ _
   | exact spec_FatalWords.mono _ _ _
   | exact LeO.none _
   | refine LeO.ite ?_ ?_
   | refine LeO.bind ?_ (fun _ => ?_)
  ·intro y0 y1 y2
   unfold laws_FnExactFatalWords.j2
   repeat' first
   | (with_reducible exact ih0 _ _ _ _ _ _ _ _)
   | (with_reducible exact ih1 _ _ _ _ _ _)
   | (with_reducible exact ih2 _ _ _)
   | (with_reducible exact impl_FatalWords.mono _ _ _)
   | (with_reducible exact laws_eqStringS.mono _ _ _)
   | (with_reducible exact laws_eqTrie.mono _ _ _)
   | (with_reducible exact laws_heldStringS.mono _ _ _)
   | (with_reducible exact laws_markStringS.mono _ _ _)
   | (with_reducible exact laws_markTrie.mono _ _ _)
   | (with_reducible exact laws_toTrie.mono _ _)
   | (with_reducible exact spec_FatalWords.mono _ _ _)
   | (with_reducible exact LeO.refl _)
   | (with_reducible exact LeO.none _)
   | (with_reducible refine LeO.ite ?_ ?_)
   | (with_reducible refine LeO.bind ?_ (fun _ => ?_))
   | exact ih0 _ _ _ _ _ _ _ _
   | exact ih1 _ _ _ _ _ _
   | exact ih2 _ _ _
   | exact impl_FatalWords.mono _ _ _
   | exact laws_eqStringS.mono _ _ _
   | exact laws_eqTrie.mono _ _ _
   | exact laws_heldStringS.mono _ _ _
   | exact laws_markStringS.mono _ _ _
   | exact laws_markTrie.mono _ _ _
   | exact laws_toTrie.mono _ _
   | exact spec_FatalWords.mono _ _ _
   | exact LeO.none _
   | refine LeO.ite ?_ ?_
   | refine LeO.bind ?_ (fun _ => ?_)
theorem laws_FnExactFatalWords.mono : ∀ a0 a1 k, LeO (laws_FnExactFatalWords.f k a0 a1) (laws_FnExactFatalWords.f (k + 1) a0 a1) := by
 intro a0 a1 k
 obtain ⟨ih0, ih1, ih2⟩ := laws_FnExactFatalWords.mono_l k
 unfold laws_FnExactFatalWords.f
 repeat' first
   | (with_reducible exact ih0 _ _ _ _ _ _ _ _)
   | (with_reducible exact ih1 _ _ _ _ _ _)
   | (with_reducible exact ih2 _ _ _)
   | (with_reducible exact impl_FatalWords.mono _ _ _)
   | (with_reducible exact laws_eqStringS.mono _ _ _)
   | (with_reducible exact laws_eqTrie.mono _ _ _)
   | (with_reducible exact laws_heldStringS.mono _ _ _)
   | (with_reducible exact laws_markStringS.mono _ _ _)
   | (with_reducible exact laws_markTrie.mono _ _ _)
   | (with_reducible exact laws_toTrie.mono _ _)
   | (with_reducible exact spec_FatalWords.mono _ _ _)
   | (with_reducible exact LeO.refl _)
   | (with_reducible exact LeO.none _)
   | (with_reducible refine LeO.ite ?_ ?_)
   | (with_reducible refine LeO.bind ?_ (fun _ => ?_))
   | exact ih0 _ _ _ _ _ _ _ _
   | exact ih1 _ _ _ _ _ _
   | exact ih2 _ _ _
   | exact impl_FatalWords.mono _ _ _
   | exact laws_eqStringS.mono _ _ _
   | exact laws_eqTrie.mono _ _ _
   | exact laws_heldStringS.mono _ _ _
   | exact laws_markStringS.mono _ _ _
   | exact laws_markTrie.mono _ _ _
   | exact laws_toTrie.mono _ _
   | exact spec_FatalWords.mono _ _ _
   | exact LeO.none _
   | refine LeO.ite ?_ ?_
   | refine LeO.bind ?_ (fun _ => ?_)
set_option maxHeartbeats 8000000 in
set_option maxRecDepth 100000 in
theorem laws_FnExactFatalWords.calls (k : Nat) (A0_0 : Option Addr) (c0_0 : Nat) (l0_0 : List (S80)) (a1 : Int) (r : Bool) (w : World) (hr0_0 : Kd.C k80 w A0_0 l0_0.length l0_0) (hc0_0 : l0_0.length ≤ c0_0) (h : laws_FnExactFatalWords.f k l0_0 a1 = some r) (hr_ : r = true) :
  Calls Try.prog 9 #[.agg #[.slice A0_0 l0_0.length c0_0], .int .i64 a1] w fun e w' => e = .returned (.bool r) ∧ Below w.heap.size w w' := by
 have hu24 := Try.underlying24; have hu30 := Try.underlying30; have HR0_0 := Aside0.mk hr0_0; have HC0_0 := Aside0.mk hc0_0; clear hr0_0 hc0_0; have HB := Aside0.mk (Below.refl w.heap.size w); have HRT := Aside0.mk hr_; clear hr_
 have H : ((laws_szTrie.f l0_0 1048576).bind fun t666 => (if t666 < 0 then (some true) else ((laws_toTrie.f k l0_0).bind fun t667 => ((spec_FatalWords.f k t667 a1).bind fun bt670 => ((laws_toTrie.f k l0_0).bind fun t674 => ((impl_FatalWords.f k t674 a1).bind fun bt678 => ((laws_eqStringS.f k bt678.1 bt670.1).bind fun t682 => (if t682 = true then (laws_FnExactFatalWords.j0 k a1 bt670.1 bt670.2 bt678.1 bt678.2 (bt678.2 != bt670.2) l0_0 t674) else (laws_FnExactFatalWords.j0 k a1 bt670.1 bt670.2 bt678.1 bt678.2 true l0_0 t674))))))))) = some r := h
 clear h; replace H := Option.bind_eq_some_iff.mp H
 obtain ⟨t666, A30, H⟩ := H
 replace H : (if t666 < 0 then (some true) else ((laws_toTrie.f k l0_0).bind fun t667 => ((spec_FatalWords.f k t667 a1).bind fun bt670 => ((laws_toTrie.f k l0_0).bind fun t674 => ((impl_FatalWords.f k t674 a1).bind fun bt678 => ((laws_eqStringS.f k bt678.1 bt670.1).bind fun t682 => (if t682 = true then (laws_FnExactFatalWords.j0 k a1 bt670.1 bt670.2 bt678.1 bt678.2 (bt678.2 != bt670.2) l0_0 t674) else (laws_FnExactFatalWords.j0 k a1 bt670.1 bt670.2 bt678.1 bt678.2 true l0_0 t674)))))))) = some r := H
 have A3 := Aside0.mk A30; clear A30
 by_cases c4 : t666 < 0
 ·rw [if_pos c4] at H
  have c4b0 : decide (t666 < 0) = true := decide_eq_true c4
  clear c4
  obtain rfl := Option.some.inj H
  go_enter Try.func9, Try.ntmps9
  go_wp2_with (first | ((with_reducible refine gate_dst (N := 2) rfl ?_); refine box_event ?hg (N := 2) ?hd (cs := #[.slice A0_0 l0_0.length c0_0]) (t := 24) ?hr ?_; (case hd => rfl); (case hg => rfl); (case hr => exact ax31); intro gb665 hg w5 hbox hb; have n0_ := Aside0.mk (below_step ax32 hb); have n1_ := Aside0.mk (hbox); have n2_ := Aside0.mk ((ax33 : w.heap.size ≤ gb665)); have n3_ := Aside0.mk ((ax33 : w.heap.size ≤ gb665)); clear HB; have HB := n0_; have BK665 := n1_; have GW665 := n2_; have GE665 := n3_; clear n0_ n1_ n2_ n3_; clear hb hbox hg; have hcz6_0 : w5.cell? ⟨gb665, 0, none⟩ = some (.slice A0_0 l0_0.length c0_0) := (blk_cell BK665.out 0).trans rfl; have hfz6_0 := blk_frozen BK665.out 0) | ((with_reducible refine gate_callee (f := 13) rfl ?_); refine goesL_ (some 18) rfl rfl Try.func13 (by kernel_rfl) rfl #[.agg #[.slice A0_0 l0_0.length c0_0], .int .i64 1048576] rfl ax34 ?_; (with_reducible refine (laws_szTrie.calls _ _ l0_0 1048576 t666 _ ?side1 ?side2 A3.out).mono ?_); (case side1 => exact ax35); (case side2 => exact ax36); rintro e w7 ⟨rfl, hb⟩; refine ⟨_, rfl, ?_⟩; have n0_ := Aside0.mk (blk_below (g := gb665) (o := .cells #[.slice A0_0 l0_0.length c0_0] 24 (0, 0)) ax275 hb); have n1_ := Aside0.mk (below_step ax276 hb); clear BK665; clear HB; have BK665 := n0_; have HB := n1_; clear n0_ n1_; (try clear hb); (try clear hb2); (try clear hk); (try clear hi)))
  go_ret
  exact ⟨by first | rfl | (simp [errW_none, errW_some] <;> rfl) | (simp [*, errW_none, errW_some] <;> rfl), by repeat (first | (with_reducible first | exact HB.out | apply below_alloc | apply pw_below_drewN | apply below_drew1 | refine below_set ?_ GE665.out) | exact HB.out)⟩
 ·rw [if_neg c4] at H
  have c4b0 : decide (t666 < 0) = false := decide_eq_false c4
  clear c4; replace H := Option.bind_eq_some_iff.mp H
  obtain ⟨t667, A80, H⟩ := H
  replace H : ((spec_FatalWords.f k t667 a1).bind fun bt670 => ((laws_toTrie.f k l0_0).bind fun t674 => ((impl_FatalWords.f k t674 a1).bind fun bt678 => ((laws_eqStringS.f k bt678.1 bt670.1).bind fun t682 => (if t682 = true then (laws_FnExactFatalWords.j0 k a1 bt670.1 bt670.2 bt678.1 bt678.2 (bt678.2 != bt670.2) l0_0 t674) else (laws_FnExactFatalWords.j0 k a1 bt670.1 bt670.2 bt678.1 bt678.2 true l0_0 t674)))))) = some r := H
  have A8 := Aside0.mk A80; clear A80; replace H := Option.bind_eq_some_iff.mp H
  obtain ⟨⟨t670, t673⟩, A90, H⟩ := H
  replace H : ((laws_toTrie.f k l0_0).bind fun t674 => ((impl_FatalWords.f k t674 a1).bind fun bt678 => ((laws_eqStringS.f k bt678.1 t670).bind fun t682 => (if t682 = true then (laws_FnExactFatalWords.j0 k a1 t670 t673 bt678.1 bt678.2 (bt678.2 != t673) l0_0 t674) else (laws_FnExactFatalWords.j0 k a1 t670 t673 bt678.1 bt678.2 true l0_0 t674))))) = some r := H
  have A9 := Aside0.mk A90; clear A90; replace H := Option.bind_eq_some_iff.mp H
  obtain ⟨t674, A100, H⟩ := H
  replace H : ((impl_FatalWords.f k t674 a1).bind fun bt678 => ((laws_eqStringS.f k bt678.1 t670).bind fun t682 => (if t682 = true then (laws_FnExactFatalWords.j0 k a1 t670 t673 bt678.1 bt678.2 (bt678.2 != t673) l0_0 t674) else (laws_FnExactFatalWords.j0 k a1 t670 t673 bt678.1 bt678.2 true l0_0 t674)))) = some r := H
  have A10 := Aside0.mk A100; clear A100; replace H := Option.bind_eq_some_iff.mp H
  obtain ⟨⟨t678, t681⟩, A110, H⟩ := H
  replace H : ((laws_eqStringS.f k t678 t670).bind fun t682 => (if t682 = true then (laws_FnExactFatalWords.j0 k a1 t670 t673 t678 t681 (t681 != t673) l0_0 t674) else (laws_FnExactFatalWords.j0 k a1 t670 t673 t678 t681 true l0_0 t674))) = some r := H
  have A11 := Aside0.mk A110; clear A110; have HC12 := Aside0.mk H; clear H
  go_enter Try.func9, Try.ntmps9
  go_upto_region 8 with (first | ((with_reducible refine gate_dst (N := 2) rfl ?_); refine box_event ?hg (N := 2) ?hd (cs := #[.slice A0_0 l0_0.length c0_0]) (t := 24) ?hr ?_; (case hd => rfl); (case hg => rfl); (case hr => exact ax31); intro gb665 hg w13 hbox hb; have n0_ := Aside0.mk (below_step ax32 hb); have n1_ := Aside0.mk (hbox); have n2_ := Aside0.mk ((ax33 : w.heap.size ≤ gb665)); have n3_ := Aside0.mk ((ax33 : w.heap.size ≤ gb665)); clear HB; have HB := n0_; have BK665 := n1_; have GW665 := n2_; have GE665 := n3_; clear n0_ n1_ n2_ n3_; clear hb hbox hg; have hcz14_0 : w13.cell? ⟨gb665, 0, none⟩ = some (.slice A0_0 l0_0.length c0_0) := (blk_cell BK665.out 0).trans rfl; have hfz14_0 := blk_frozen BK665.out 0) | ((with_reducible refine gate_callee (f := 13) rfl ?_); refine goesL_ (some 18) rfl rfl Try.func13 (by kernel_rfl) rfl #[.agg #[.slice A0_0 l0_0.length c0_0], .int .i64 1048576] rfl ax34 ?_; (with_reducible refine (laws_szTrie.calls _ _ l0_0 1048576 t666 _ ?side1 ?side2 A3.out).mono ?_); (case side1 => exact ax35); (case side2 => exact ax36); rintro e w15 ⟨rfl, hb⟩; refine ⟨_, rfl, ?_⟩; have n0_ := Aside0.mk (blk_below (g := gb665) (o := .cells #[.slice A0_0 l0_0.length c0_0] 24 (0, 0)) ax275 hb); have n1_ := Aside0.mk (below_step ax276 hb); clear BK665; clear HB; have BK665 := n0_; have HB := n1_; clear n0_ n1_; (try clear hb); (try clear hb2); (try clear hk); (try clear hi); have hcz16_0 : w15.cell? ⟨gb665, 0, none⟩ = some (.slice A0_0 l0_0.length c0_0) := (blk_cell BK665.out 0).trans rfl; have hfz16_0 := blk_frozen BK665.out 0) | ((with_reducible refine gate_callee (f := 15) rfl ?_); refine goesL_ (some 23) rfl rfl Try.func15 (by kernel_rfl) rfl #[.agg #[.slice A0_0 l0_0.length c0_0]] rfl ax34 ?_; (with_reducible refine (laws_toTrie.calls k _ _ l0_0 t667 _ ?side1 ?side2 A8.out).mono ?_); (case side1 => exact ax35); (case side2 => exact ax36); rintro e w17 ⟨v668, rfl, ho0, hb⟩; refine ⟨_, rfl, ?_⟩; have n0_ := Aside0.mk (Kd.R_lower ho0 (below_size ax276)); have n1_ := Aside0.mk (blk_below (g := gb665) (o := .cells #[.slice A0_0 l0_0.length c0_0] 24 (0, 0)) ax275 hb); have n2_ := Aside0.mk (below_step ax276 hb); clear BK665; clear HB; have HO669 := n0_; have BK665 := n1_; have HB := n2_; clear n0_ n1_ n2_; (try clear hb); (try clear hb2); (try clear hk); (try clear hi); (try clear ho0); obtain ⟨Ao18, co18, eo18⟩ := Kd.R_slice HO669.out; subst eo18) | ((with_reducible refine gate_callee (f := 28) rfl ?_); refine goesL_ (some 25) rfl rfl Try.func28 (by kernel_rfl) rfl #[.agg #[.slice Ao18 t667.length co18], .int .i64 a1] rfl ax34 ?_; (with_reducible refine (spec_FatalWords.calls k _ _ t667 a1 t670 t673 _ ?side1 ?side2 A9.out).mono ?_); (case side1 => repeat (first | exact (Kd.R_reads' HO669.out).2.2 | (with_reducible refine Kd.C_alloc ?_ _) | (with_reducible refine Kd.C_drewN ?_ _) | (with_reducible refine Kd.C_drew ?_))); (case side2 => exact (Kd.R_reads' HO669.out).2.1); rintro e w19 ⟨v671, rfl, ho0, hb⟩; refine ⟨_, rfl, ?_⟩; have n0_ := Aside0.mk (Kd.R_below ax277 hb); have n1_ := Aside0.mk (Kd.R_lower ho0 (below_size ax276)); have n2_ := Aside0.mk (blk_below (g := gb665) (o := .cells #[.slice A0_0 l0_0.length c0_0] 24 (0, 0)) ax275 hb); have n3_ := Aside0.mk (below_step ax276 hb); clear HO669; clear BK665; clear HB; have HO669 := n0_; have HO672 := n1_; have BK665 := n2_; have HB := n3_; clear n0_ n1_ n2_ n3_; (try clear hb); (try clear hb2); (try clear hk); (try clear hi); (try clear ho0); have hcz20_0 : w19.cell? ⟨gb665, 0, none⟩ = some (.slice A0_0 l0_0.length c0_0) := (blk_cell BK665.out 0).trans rfl; have hfz20_0 := blk_frozen BK665.out 0) | ((with_reducible refine gate_callee (f := 15) rfl ?_); refine goesL_ (some 29) rfl rfl Try.func15 (by kernel_rfl) rfl #[.agg #[.slice A0_0 l0_0.length c0_0]] rfl ax34 ?_; (with_reducible refine (laws_toTrie.calls k _ _ l0_0 t674 _ ?side1 ?side2 A10.out).mono ?_); (case side1 => exact ax35); (case side2 => exact ax36); rintro e w21 ⟨v675, rfl, ho0, hb⟩; refine ⟨_, rfl, ?_⟩; have n0_ := Aside0.mk (Kd.R_elder' ax277 (Kd.R_base ho0) hb); have n1_ := Aside0.mk (Kd.R_below ax278 hb); have n2_ := Aside0.mk (Kd.R_lower (Kd.R_new' ho0 (Kd.R_lt ax277)) (below_size ax276)); have n3_ := Aside0.mk (blk_below (g := gb665) (o := .cells #[.slice A0_0 l0_0.length c0_0] 24 (0, 0)) ax275 hb); have n4_ := Aside0.mk (below_step ax276 hb); clear HO669; clear HO672; clear BK665; clear HB; have HO669 := n0_; have HO672 := n1_; have HO676 := n2_; have BK665 := n3_; have HB := n4_; clear n0_ n1_ n2_ n3_ n4_; (try clear hb); (try clear hb2); (try clear hk); (try clear hi); (try clear ho0)) | ((with_reducible refine gate_dst (N := 8) rfl ?_); refine box_event ?hg (N := 8) ?hd (cs := #[.slice none 0 0]) (t := 30) ?hr ?_; (case hd => rfl); (case hg => rfl); (case hr => exact ax31); intro gb677 hg w22 hbox hb; have n0_ := Aside0.mk (Kd.R_below ax277 hb); have n1_ := Aside0.mk (Kd.R_below ax278 hb); have n2_ := Aside0.mk (Kd.R_below (by (with_reducible repeat (first | apply Kd.R_alloc | apply Kd.R_drewN | apply Kd.R_drew)); exact HO676.out) hb); have n3_ := Aside0.mk (blk_below (g := gb665) (o := .cells #[.slice A0_0 l0_0.length c0_0] 24 (0, 0)) ax275 hb); have n4_ := Aside0.mk (below_step ax276 hb); have n5_ := Aside0.mk (hbox); have n6_ := Aside0.mk ((ax279 : w.heap.size ≤ gb677)); have n7_ := Aside0.mk ((ax279 : w.heap.size ≤ gb677)); have n8_ := Aside0.mk ((by rw [hg]; exact Nat.ne_of_lt (blk_lt (g := gb665) (o := .cells #[.slice A0_0 l0_0.length c0_0] 24 (0, 0)) ax275) : gb665 ≠ gb677)); have n9_ := Aside0.mk ((by rw [hg]; exact Nat.ne_of_gt (blk_lt (g := gb665) (o := .cells #[.slice A0_0 l0_0.length c0_0] 24 (0, 0)) ax275) : gb677 ≠ gb665)); clear HO669; clear HO672; clear HO676; clear BK665; clear HB; have HO669 := n0_; have HO672 := n1_; have HO676 := n2_; have BK665 := n3_; have HB := n4_; have BK677 := n5_; have GW677 := n6_; have GE677 := n7_; have NB665_677 := n8_; have NB677_665 := n9_; clear n0_ n1_ n2_ n3_ n4_ n5_ n6_ n7_ n8_ n9_; clear hb hbox hg; obtain ⟨Ao23, co23, eo23⟩ := Kd.R_slice HO676.out; subst eo23; have hnb24 := NB677_665.out; have hnc24 := NB665_677.out; have hcz25_0 : w22.cell? ⟨gb677, 0, none⟩ = some (.slice none 0 0) := (blk_cell BK677.out 0).trans rfl; have hfz25_0 := blk_frozen BK677.out 0) | ((with_reducible refine gate_callee (f := 29) rfl ?_); refine goesL_ (some 33) rfl rfl Try.func29 (by kernel_rfl) rfl #[.agg #[.slice Ao23 t674.length co23], .int .i64 a1] rfl ax34 ?_; (with_reducible refine (impl_FatalWords.calls k _ _ t674 a1 t678 t681 _ ?side1 ?side2 A11.out).mono ?_); (case side1 => refine (Kd.R_reads' (e := 67) (base := w.heap.size) (ok := fun k_ => (True ∧ some k_ ≠ (.slice Ao18 t667.length co18 : Value).ownBlock)) (n := t674.length) (c := co23) ?_).2.2; exact ax280); (case side2 => exact (Kd.R_reads' HO676.out).2.1); rintro e w26 ⟨v679, rfl, ho0, hb⟩; refine ⟨_, rfl, ?_⟩; have n0_ := Aside0.mk (Kd.R_below (by (with_reducible repeat (first | apply Kd.R_alloc | apply Kd.R_drewN | apply Kd.R_drew)); exact (Kd.R_mono (Kd.R_far (p := ⟨gb677, 0, none⟩) (Kd.R_types HO669.out BK677.out (by decide)) (fun _ hk => hk.2) (.slice Ao23 t674.length co23)) (fun _ h_ => h_.1))) hb); have n1_ := Aside0.mk (Kd.R_elder' ax281 (Kd.R_base ho0) hb); have n2_ := Aside0.mk (Kd.R_below ax280 hb); have n3_ := Aside0.mk (Kd.R_lower (Kd.R_new' ho0 (Kd.R_lt ax281)) (below_size ax282)); have n4_ := Aside0.mk (blk_below (g := gb665) (o := .cells #[.slice A0_0 l0_0.length c0_0] 24 (0, 0)) (by (with_reducible repeat (first | refine blk_drewN ?_ _ | refine blk_drew ?_ | refine blk_alloc ?_ _)); refine blk_far ?_ NB665_677.out _; (with_reducible repeat (first | refine blk_drewN ?_ _ | refine blk_drew ?_ | refine blk_alloc ?_ _)); exact BK665.out) hb); have n5_ := Aside0.mk (blk_below (g := gb677) (o := .cells #[.slice Ao23 t674.length co23] 30 (0, 0)) (by (with_reducible repeat (first | refine blk_drewN ?_ _ | refine blk_drew ?_ | refine blk_alloc ?_ _)); refine blk_put (cs := #[.slice none 0 0]) ?_ 0 _ rfl; (with_reducible repeat (first | refine blk_drewN ?_ _ | refine blk_drew ?_ | refine blk_alloc ?_ _)); exact BK677.out) hb); have n6_ := Aside0.mk (below_step ax282 hb); clear HO669; clear HO672; clear HO676; clear BK665; clear BK677; clear HB; have HO669 := n0_; have HO672 := n1_; have HO676 := n2_; have HO680 := n3_; have BK665 := n4_; have BK677 := n5_; have HB := n6_; clear n0_ n1_ n2_ n3_ n4_ n5_ n6_; (try clear hb); (try clear hb2); (try clear hk); (try clear hi); (try clear ho0)))
  (try simp only [Act.put, List.setIfInBounds_toArray, List.set_cons_zero, List.set_cons_succ])
  go_cut [44] (fun v44 wc => ∃ (kq : Nat) (x44_11 : Bool), v44 = .bool x44_11 ∧ Aside0 (laws_FnExactFatalWords.j0 kq a1 t670 t673 t678 t681 x44_11 l0_0 t674 = some r) ∧ Aside0 (kq ≤ k) ∧ Aside0 (Kd.R Kd.string 9 wc w.heap.size (fun k_ => some k_ ≠ (v679 : Value).ownBlock) v671 t670) ∧ Aside0 (Kd.R Kd.string 9 wc w.heap.size (fun k_ => some k_ ≠ (v671 : Value).ownBlock) v679 t678) ∧ Aside0 (Kd.R k67 67 wc w.heap.size (fun _ => True) (.slice Ao23 t674.length co23) t674) ∧ Aside0 (wc.heap[gb665]? = some (.cells #[(.slice A0_0 l0_0.length c0_0)] 24 (0, 0))) ∧ Aside0 (wc.heap[gb677]? = some (.cells #[(.slice Ao23 t674.length co23)] 30 (0, 0))) ∧ Aside0 (Below w.heap.size w wc))
  case first =>
   have H := HC12.out; clear HC12; replace H := Option.bind_eq_some_iff.mp H
   obtain ⟨t682, A270, H⟩ := H
   replace H : (if t682 = true then (laws_FnExactFatalWords.j0 k a1 t670 t673 t678 t681 (t681 != t673) l0_0 t674) else (laws_FnExactFatalWords.j0 k a1 t670 t673 t678 t681 true l0_0 t674)) = some r := H
   have A27 := Aside0.mk A270; clear A270
   by_cases c28 : t682 = true
   ·subst c28
    have H1 : (laws_FnExactFatalWords.j0 k a1 t670 t673 t678 t681 (t681 != t673) l0_0 t674) = some r := by rw [if_pos rfl] at H; exact H
    clear H; have H := H1; clear H1
    have H' := Aside0.mk H
    clear H
    obtain ⟨Ao29, co29, eo29⟩ := Kd.R_slice HO680.out
    subst eo29
    obtain ⟨Ao30, co30, eo30⟩ := Kd.R_slice HO672.out
    subst eo30
    go_wp2_with (first | ((with_reducible refine gate_callee (f := 30) rfl ?_); refine goesL_ (some 38) rfl rfl Try.func30 (by kernel_rfl) rfl #[.slice Ao29 t678.length co29, .slice Ao30 t670.length co30] rfl ax34 ?_; (with_reducible refine (laws_eqStringS.calls k _ _ t678 _ _ t670 true _ ?side1 ?side2 ?side3 ?side4 A27.out).mono ?_); (case side1 => exact ax283); (case side2 => exact (Kd.R_reads' HO680.out).2.1); (case side3 => exact ax284); (case side4 => exact (Kd.R_reads' HO672.out).2.1); rintro e w' ⟨rfl, ⟨nd, rfl⟩⟩; refine ⟨_, rfl, ?_⟩))
    go_meet
    case rel => exact ⟨_, ((t681 != t673)), ax37, H', ⟨by first | omega | exact Nat.le_refl _⟩, ⟨by (with_reducible repeat (first | apply Kd.R_alloc | apply Kd.R_drewN | apply Kd.R_drew)); exact Kd.R_mono HO672.out (fun _ hk => hk.2)⟩, ⟨by (with_reducible repeat (first | apply Kd.R_alloc | apply Kd.R_drewN | apply Kd.R_drew)); exact Kd.R_mono HO680.out (fun _ hk => hk.2)⟩, ⟨by (with_reducible repeat (first | apply Kd.R_alloc | apply Kd.R_drewN | apply Kd.R_drew)); exact Kd.R_mono HO676.out (fun _ hk => trivial)⟩, ⟨by (with_reducible repeat (first | refine blk_drewN ?_ _ | refine blk_drew ?_ | refine blk_alloc ?_ _)); exact BK665.out⟩, ⟨by (with_reducible repeat (first | refine blk_drewN ?_ _ | refine blk_drew ?_ | refine blk_alloc ?_ _)); exact BK677.out⟩, ⟨by repeat (first | (with_reducible first | exact HB.out | apply below_alloc | apply pw_below_drewN | apply below_drew1 | refine below_set ?_ GE665.out | refine below_set ?_ GE677.out) | exact HB.out)⟩⟩
   ·replace c28 := Bool.eq_false_iff.mpr c28
    subst c28
    have H1 : (laws_FnExactFatalWords.j0 k a1 t670 t673 t678 t681 true l0_0 t674) = some r := by rw [if_neg (show ¬ (false = true) by decide)] at H; exact H
    clear H; have H := H1; clear H1
    have H' := Aside0.mk H
    clear H
    obtain ⟨Ao31, co31, eo31⟩ := Kd.R_slice HO680.out
    subst eo31
    obtain ⟨Ao32, co32, eo32⟩ := Kd.R_slice HO672.out
    subst eo32
    go_wp2_with (first | ((with_reducible refine gate_callee (f := 30) rfl ?_); refine goesL_ (some 38) rfl rfl Try.func30 (by kernel_rfl) rfl #[.slice Ao31 t678.length co31, .slice Ao32 t670.length co32] rfl ax34 ?_; (with_reducible refine (laws_eqStringS.calls k _ _ t678 _ _ t670 false _ ?side1 ?side2 ?side3 ?side4 A27.out).mono ?_); (case side1 => exact ax283); (case side2 => exact (Kd.R_reads' HO680.out).2.1); (case side3 => exact ax284); (case side4 => exact (Kd.R_reads' HO672.out).2.1); rintro e w' ⟨rfl, ⟨nd, rfl⟩⟩; refine ⟨_, rfl, ?_⟩))
    go_meet
    case rel => exact ⟨_, (true), ax37, H', ⟨by first | omega | exact Nat.le_refl _⟩, ⟨by (with_reducible repeat (first | apply Kd.R_alloc | apply Kd.R_drewN | apply Kd.R_drew)); exact Kd.R_mono HO672.out (fun _ hk => hk.2)⟩, ⟨by (with_reducible repeat (first | apply Kd.R_alloc | apply Kd.R_drewN | apply Kd.R_drew)); exact Kd.R_mono HO680.out (fun _ hk => hk.2)⟩, ⟨by (with_reducible repeat (first | apply Kd.R_alloc | apply Kd.R_drewN | apply Kd.R_drew)); exact Kd.R_mono HO676.out (fun _ hk => trivial)⟩, ⟨by (with_reducible repeat (first | refine blk_drewN ?_ _ | refine blk_drew ?_ | refine blk_alloc ?_ _)); exact BK665.out⟩, ⟨by (with_reducible repeat (first | refine blk_drewN ?_ _ | refine blk_drew ?_ | refine blk_alloc ?_ _)); exact BK677.out⟩, ⟨by repeat (first | (with_reducible first | exact HB.out | apply below_alloc | apply pw_below_drewN | apply below_drew1 | refine below_set ?_ GE665.out | refine below_set ?_ GE677.out) | exact HB.out)⟩⟩
  case rest =>
   clear HC12
   try clear c1
   try clear c2
   try clear p2
   try clear c3
   try clear c4
   try clear c4b0
   try clear c9
   try clear c13
   try clear c15
   try clear c24
   try clear c28
   try clear c29
   try clear c30
   try clear hcz14_0
   try clear hcz16_0
   try clear hcz20_0
   try clear hcz25_0
   try clear hcz6_0
   try clear hfz14_0
   try clear hfz16_0
   try clear hfz20_0
   try clear hfz25_0
   try clear hfz6_0
   obtain ⟨kq, x44_11, rfl, HA, HJ11, HO_6, HO_9, HO_678000, BK665, BK677, HB⟩ := hcut
   cases kq with
   | zero => exact absurd HA.out (by simp [laws_FnExactFatalWords.j0])
   | succ kj11 =>
    have H := HA.out; clear HA
    simp only [laws_FnExactFatalWords.j0] at H
    by_cases c33 : x44_11 = true
    ·subst c33
     have H1 : (some false) = some r := by rw [if_pos rfl] at H; exact H
     clear H; have H := H1; clear H1
     exact absurd ((Option.some.inj H).trans HRT.out) (by decide)
    ·replace c33 := Bool.eq_false_iff.mpr c33
     subst c33
     have H1 : ((laws_toTrie.f kj11 l0_0).bind fun t683 => ((laws_eqTrie.f kj11 t674 t683).bind fun t686 => (if t686 = true then ((laws_markTrie.f kj11 t674 1).bind fun bt687 => (if bt687.1 < 0 then (laws_FnExactFatalWords.j1 kj11 a1 t670 t673 t678 true l0_0) else ((laws_eqStringS.f kj11 t678 t670).bind fun t689 => (if t689 = true then (laws_FnExactFatalWords.j1 kj11 a1 t670 t673 t678 (t681 != t673) l0_0) else (laws_FnExactFatalWords.j1 kj11 a1 t670 t673 t678 true l0_0))))) else (some false)))) = some r := by rw [if_neg (show ¬ (false = true) by decide)] at H; exact H
     clear H; have H := H1; clear H1; replace H := Option.bind_eq_some_iff.mp H
     obtain ⟨t683, A340, H⟩ := H
     replace H : ((laws_eqTrie.f kj11 t674 t683).bind fun t686 => (if t686 = true then ((laws_markTrie.f kj11 t674 1).bind fun bt687 => (if bt687.1 < 0 then (laws_FnExactFatalWords.j1 kj11 a1 t670 t673 t678 true l0_0) else ((laws_eqStringS.f kj11 t678 t670).bind fun t689 => (if t689 = true then (laws_FnExactFatalWords.j1 kj11 a1 t670 t673 t678 (t681 != t673) l0_0) else (laws_FnExactFatalWords.j1 kj11 a1 t670 t673 t678 true l0_0))))) else (some false))) = some r := H
     have A34 := Aside0.mk A340; clear A340; replace H := Option.bind_eq_some_iff.mp H
     obtain ⟨t686, A350, H⟩ := H
     replace H : (if t686 = true then ((laws_markTrie.f kj11 t674 1).bind fun bt687 => (if bt687.1 < 0 then (laws_FnExactFatalWords.j1 kj11 a1 t670 t673 t678 true l0_0) else ((laws_eqStringS.f kj11 t678 t670).bind fun t689 => (if t689 = true then (laws_FnExactFatalWords.j1 kj11 a1 t670 t673 t678 (t681 != t673) l0_0) else (laws_FnExactFatalWords.j1 kj11 a1 t670 t673 t678 true l0_0))))) else (some false)) = some r := H
     have A35 := Aside0.mk A350; clear A350
     by_cases c36 : t686 = true
     ·subst c36
      have H1 : ((laws_markTrie.f kj11 t674 1).bind fun bt687 => (if bt687.1 < 0 then (laws_FnExactFatalWords.j1 kj11 a1 t670 t673 t678 true l0_0) else ((laws_eqStringS.f kj11 t678 t670).bind fun t689 => (if t689 = true then (laws_FnExactFatalWords.j1 kj11 a1 t670 t673 t678 (t681 != t673) l0_0) else (laws_FnExactFatalWords.j1 kj11 a1 t670 t673 t678 true l0_0))))) = some r := by rw [if_pos rfl] at H; exact H
      clear H; have H := H1; clear H1; replace H := Option.bind_eq_some_iff.mp H
      obtain ⟨⟨t687, t688⟩, A370, H⟩ := H
      replace H : (if t687 < 0 then (laws_FnExactFatalWords.j1 kj11 a1 t670 t673 t678 true l0_0) else ((laws_eqStringS.f kj11 t678 t670).bind fun t689 => (if t689 = true then (laws_FnExactFatalWords.j1 kj11 a1 t670 t673 t678 (t681 != t673) l0_0) else (laws_FnExactFatalWords.j1 kj11 a1 t670 t673 t678 true l0_0)))) = some r := H
      have A37 := Aside0.mk A370; clear A370; have HC38 := Aside0.mk H; clear H
      try go_wp2
      have n0_ := Aside0.mk (Kd.R_drew HO_6.out); have n1_ := Aside0.mk (Kd.R_drew HO_9.out); have n2_ := Aside0.mk (Kd.R_drew HO_678000.out); have n3_ := Aside0.mk (blk_drew BK665.out); have n4_ := Aside0.mk (blk_drew BK677.out); have n5_ := Aside0.mk (below_drew1 HB.out); clear HO_6; clear HO_9; clear HO_678000; clear BK665; clear BK677; clear HB; have HO_6 := n0_; have HO_9 := n1_; have HO_678000 := n2_; have BK665 := n3_; have BK677 := n4_; have HB := n5_; clear n0_ n1_ n2_ n3_ n4_ n5_
      refine start_ (n := 5) (S := fun w' => w'.cell? ⟨gb677, 0, none⟩ = some (.slice Ao23 t674.length co23) ∧ w'.cell? ⟨gb665, 0, none⟩ = some (.slice A0_0 l0_0.length c0_0)) (ds := []) #[false, false, false, false, false] (by kernel_rfl) rfl rfl ⟨(blk_cell BK677.out 0).trans rfl, (blk_cell BK665.out 0).trans rfl⟩ (fun hHeld => ?_)
      generalize wc.drew = w39 at HO_6 HO_9 HO_678000 BK665 BK677 HB hHeld ⊢
      refine take_ (i := 0) (N := some 45) (v := ?_) (a' := ?_) #[true, false, false, false, false] rfl rfl (by kernel_rfl) (fun _ _ _ h => h) (Or.inl ⟨by rfl, ?_⟩) hHeld ?_ ?_; rotate_left; exact ax17; rotate_left; exact ax6
      refine take_ (i := 1) (N := some 46) (v := ?_) (a' := ?_) #[true, true, false, false, false] rfl rfl (by kernel_rfl) (fun _ _ _ h => h) (Or.inl ⟨by rfl, ?_⟩) hHeld ?_ ?_; rotate_left; exact ax17; rotate_left; exact ax6
      refine one_ (i := 2) (N := some 47) #[true, true, true, false, false] rfl rfl (by kernel_rfl) (by decide) (fun K hK => ?_)
      refine goes_ Try.func15 (by kernel_rfl) rfl #[.agg #[.slice A0_0 l0_0.length c0_0]] (by rfl) rfl rfl ax34 ?_
      with_reducible refine (laws_toTrie.calls kj11 _ _ l0_0 t683 _ ?side1 ?side2 A34.out).mono ?_
      (case side1 => exact ax35)
      (case side2 => exact ax36)
      rintro e w40 ⟨v684, rfl, ho0, hb⟩
      refine ⟨_, rfl, ?_⟩
      have n0_ := Aside0.mk (Kd.R_below ax248 hb); have n1_ := Aside0.mk (Kd.R_below ax222 hb); have n2_ := Aside0.mk (Kd.R_elder' ax285 (Kd.R_base ho0) hb); have n3_ := Aside0.mk (Kd.R_lower (Kd.R_new' ho0 (Kd.R_lt ax285)) (below_size ax282))
      have n4_ := Aside0.mk (blk_below (g := gb665) (o := .cells #[.slice A0_0 l0_0.length c0_0] 24 (0, 0)) ax275 hb)
      have n5_ := Aside0.mk (blk_below (g := gb677) (o := .cells #[.slice Ao23 t674.length co23] 30 (0, 0)) ax286 hb)
      have n6_ := Aside0.mk (below_step ax282 hb); clear HO_6; clear HO_9; clear HO_678000; clear BK665; clear BK677; clear HB; have HO_6 := n0_; have HO_9 := n1_; have HO_678000 := n2_; have HO685 := n3_; have BK665 := n4_; have BK677 := n5_; have HB := n6_; clear n0_ n1_ n2_ n3_ n4_ n5_ n6_; (try clear hb); (try clear hb2); (try clear hk); (try clear hi); (try clear ho0)
      obtain ⟨Ao41, co41, eo41⟩ := Kd.R_slice HO685.out
      (first | subst eo41 | (injection eo41 with f1_ f2_ f3_; have f4_ := f1_.symm; have f5_ := f3_.symm; clear f1_ f2_ f3_; subst f4_; subst f5_))
      refine hK.out _ _ ⟨(blk_cell BK677.out 0).trans rfl, (blk_cell BK665.out 0).trans rfl⟩ (fun hHeld => ?_)
      clear hK K
      refine norm_ (a' := ?_) ?_ ?_
      rotate_left
      ·exact ax23
      refine one_ (i := 3) (N := some 48) #[true, true, true, true, false] rfl rfl (by kernel_rfl) (by decide) (fun K hK => ?_)
      refine goes_ Try.func17 (by kernel_rfl) rfl #[.agg #[.slice Ao23 t674.length co23], .agg #[.slice Ao41 t683.length co41]] (by rfl) rfl rfl ax34 ?_
      with_reducible refine (laws_eqTrie.calls kj11 _ _ t674 _ _ t683 true _ ?side1 ?side2 ?side3 ?side4 A35.out).mono ?_
      (case side1 => repeat (first | exact (Kd.R_reads' HO_678000.out).2.2 | (with_reducible refine Kd.C_alloc ?_ _) | (with_reducible refine Kd.C_drewN ?_ _) | (with_reducible refine Kd.C_drew ?_)))
      (case side2 => exact (Kd.R_reads' HO_678000.out).2.1)
      (case side3 => repeat (first | exact (Kd.R_reads' HO685.out).2.2 | (with_reducible refine Kd.C_alloc ?_ _) | (with_reducible refine Kd.C_drewN ?_ _) | (with_reducible refine Kd.C_drew ?_)))
      (case side4 => exact (Kd.R_reads' HO685.out).2.1)
      rintro e w42 ⟨rfl, hb⟩
      refine ⟨_, rfl, ?_⟩
      have n0_ := Aside0.mk (Kd.R_below ax248 hb); have n1_ := Aside0.mk (Kd.R_below ax222 hb); have n2_ := Aside0.mk (Kd.R_below ax285 hb)
      have n3_ := Aside0.mk (Kd.R_below (by (with_reducible repeat (first | apply Kd.R_alloc | apply Kd.R_drewN | apply Kd.R_drew)); exact HO685.out) hb)
      have n4_ := Aside0.mk (blk_below (g := gb665) (o := .cells #[.slice A0_0 l0_0.length c0_0] 24 (0, 0)) ax275 hb)
      have n5_ := Aside0.mk (blk_below (g := gb677) (o := .cells #[.slice Ao23 t674.length co23] 30 (0, 0)) ax286 hb)
      have n6_ := Aside0.mk (below_step ax282 hb); clear HO_6; clear HO_9; clear HO_678000; clear HO685; clear BK665; clear BK677; clear HB; have HO_6 := n0_; have HO_9 := n1_; have HO_678000 := n2_; have HO685 := n3_; have BK665 := n4_; have BK677 := n5_; have HB := n6_; clear n0_ n1_ n2_ n3_ n4_ n5_ n6_; (try clear hb); (try clear hb2); (try clear hk); (try clear hi)
      refine hK.out _ _ ⟨(blk_cell BK677.out 0).trans rfl, (blk_cell BK665.out 0).trans rfl⟩ (fun hHeld => ?_)
      clear hK K
      refine norm_ (a' := ?_) ?_ ?_
      rotate_left
      ·show Act.put _ (some 48) _ = _
       simp only [Act.put, List.setIfInBounds_toArray, List.set_cons_zero, List.set_cons_succ, i64_w, i32_w]
       rfl
      refine pure_ (i := 4) (N := some 49) (v := ?_) (a' := ?_) #[true, true, true, true, true] rfl rfl (by kernel_rfl) (fun _ _ _ h => h) (Or.inl ⟨by rfl, ?_⟩) ?_ ?_; rotate_left; exact ax5; rotate_left; exact ax6
      refine done_ (by kernel_rfl) ?_
      have hnb43 := NB677_665.out; have hnc43 := NB665_677.out
      have hcz44_0 : w42.cell? ⟨gb677, 0, none⟩ = some (.slice Ao23 t674.length co23) := (blk_cell BK677.out 0).trans rfl
      have hfz44_0 := blk_frozen BK677.out 0
      go_upto_region 14 with (first | ((with_reducible refine gate_callee (f := 31) rfl ?_); refine goesL_ (some 52) rfl rfl Try.func31 (by kernel_rfl) rfl #[.agg #[.slice Ao23 t674.length co23], .int .i64 1] rfl ax34 ?_; (with_reducible refine (laws_markTrie.calls kj11 (fun k_ => some k_ = (.slice Ao23 t674.length co23 : Value).ownBlock) (.slice Ao23 t674.length co23) t674 1 t687 t688 w _ ?side1 ?side2 A37.out).mono ?_); (case side1 => exact ax282); (case side2 => exact Kd.R_tight rfl HO_678000.out); rintro e w45 ⟨rfl, hy0, hb, hkp⟩; refine ⟨_, rfl, ?_⟩; have n0_ := Aside0.mk (Kd.R_mono (ok' := fun k_ => some k_ ≠ (v679 : Value).ownBlock) (Kd.R_keptB ((Kd.R_apart' HO_6.out (Kd.R_typed HO_678000.out) (by decide))) hkp (fun k_ hk_ hs_ => (hk_.2) hs_)) (fun k_ hk_ => hk_.1.1)); have n1_ := Aside0.mk (Kd.R_mono (ok' := fun k_ => some k_ ≠ (v671 : Value).ownBlock) (Kd.R_keptB ((Kd.R_apart' HO_9.out (Kd.R_typed HO_678000.out) (by decide))) hkp (fun k_ hk_ hs_ => (hk_.2) hs_)) (fun k_ hk_ => hk_.1.1)); have n2_ := Aside0.mk (Kd.R_reok rfl hy0 (fun k_ e_ => HO_678000.out.1 k_ e_)); have n3_ := Aside0.mk (blk_kept ax275 hkp (fun hs_ => (fun e_ => (Kd.R_ne HO_678000.out BK665.out (by decide)) e_) hs_)); have n4_ := Aside0.mk (blk_kept ax286 hkp (fun hs_ => (fun e_ => (Kd.R_ne HO_678000.out BK677.out (by decide)) e_) hs_)); have n5_ := Aside0.mk (Kd.R_mono (ok' := fun k_ => some k_ ≠ (.slice Ao23 t674.length co23 : Value).ownBlock) (Kd.R_keptB (HO685.out) hkp (fun k_ hk_ hs_ => (hk_.2) hs_)) (fun k_ hk_ => hk_.1.2)); have n6_ := Aside0.mk (hb); clear HO_6; clear HO_9; clear HO_678000; clear BK665; clear BK677; clear HO685; clear HB; have HO_6 := n0_; have HO_9 := n1_; have HO_678000 := n2_; have BK665 := n3_; have BK677 := n4_; have HO685 := n5_; have HB := n6_; clear n0_ n1_ n2_ n3_ n4_ n5_ n6_; (try clear hb); (try clear hkp); (try clear hy0)))
      (try simp only [Act.put, List.setIfInBounds_toArray, List.set_cons_zero, List.set_cons_succ])
      go_cut [65] (fun v65 wc => ∃ (kq : Nat) (x65_37 : Bool), v65 = .bool x65_37 ∧ Aside0 (laws_FnExactFatalWords.j1 kq a1 t670 t673 t678 x65_37 l0_0 = some r) ∧ Aside0 (kq ≤ kj11) ∧ Aside0 (Kd.R Kd.string 9 wc w.heap.size (fun k_ => some k_ ≠ (v679 : Value).ownBlock) v671 t670) ∧ Aside0 (Kd.R Kd.string 9 wc w.heap.size (fun k_ => some k_ ≠ (v671 : Value).ownBlock) v679 t678) ∧ Aside0 (Kd.R k67 67 wc w.heap.size (fun _ => True) (.slice Ao23 t674.length co23) t688) ∧ Aside0 (wc.heap[gb665]? = some (.cells #[(.slice A0_0 l0_0.length c0_0)] 24 (0, 0))) ∧ Aside0 (wc.heap[gb677]? = some (.cells #[(.slice Ao23 t674.length co23)] 30 (0, 0))) ∧ Aside0 (Below w.heap.size w wc))
      case first =>
       have H := HC38.out; clear HC38
       by_cases c46 : t687 < 0
       ·rw [if_pos c46] at H
        have c46b0 : decide (t687 < 0) = true := decide_eq_true c46
        clear c46
        (first | rw [c46b0] | (simp only [i64_w, i32_w]; rw [c46b0]) | skip)
        have H' := Aside0.mk H
        clear H
        go_wp2
        go_meet
        case rel => exact ⟨_, (true), ax37, H', ⟨by have := HJ11.out; first | omega | exact Nat.le_refl _⟩, ⟨by (with_reducible repeat (first | apply Kd.R_alloc | apply Kd.R_drewN | apply Kd.R_drew)); exact HO_6.out⟩, ⟨by (with_reducible repeat (first | apply Kd.R_alloc | apply Kd.R_drewN | apply Kd.R_drew)); exact HO_9.out⟩, ⟨by (with_reducible repeat (first | apply Kd.R_alloc | apply Kd.R_drewN | apply Kd.R_drew)); exact Kd.R_mono HO_678000.out (fun _ hk => trivial)⟩, ⟨by (with_reducible repeat (first | refine blk_drewN ?_ _ | refine blk_drew ?_ | refine blk_alloc ?_ _)); exact BK665.out⟩, ⟨by (with_reducible repeat (first | refine blk_drewN ?_ _ | refine blk_drew ?_ | refine blk_alloc ?_ _)); exact BK677.out⟩, ⟨by repeat (first | (with_reducible first | exact HB.out | apply below_alloc | apply pw_below_drewN | apply below_drew1 | refine below_set ?_ GE665.out | refine below_set ?_ GE677.out) | exact HB.out)⟩⟩
       ·rw [if_neg c46] at H
        have c46b0 : decide (t687 < 0) = false := decide_eq_false c46
        clear c46
        (first | rw [c46b0] | (simp only [i64_w, i32_w]; rw [c46b0]) | skip)
        replace H := Option.bind_eq_some_iff.mp H
        obtain ⟨t689, A470, H⟩ := H
        replace H : (if t689 = true then (laws_FnExactFatalWords.j1 kj11 a1 t670 t673 t678 (t681 != t673) l0_0) else (laws_FnExactFatalWords.j1 kj11 a1 t670 t673 t678 true l0_0)) = some r := H
        have A47 := Aside0.mk A470; clear A470
        by_cases c48 : t689 = true
        ·subst c48
         have H1 : (laws_FnExactFatalWords.j1 kj11 a1 t670 t673 t678 (t681 != t673) l0_0) = some r := by rw [if_pos rfl] at H; exact H
         clear H; have H := H1; clear H1
         have H' := Aside0.mk H
         clear H
         obtain ⟨Ao49, co49, eo49⟩ := Kd.R_slice HO_9.out
         subst eo49
         obtain ⟨Ao50, co50, eo50⟩ := Kd.R_slice HO_6.out
         subst eo50
         go_wp2_with (first | (go_at_call 30; (with_reducible refine (laws_eqStringS.calls kj11 _ _ t678 _ _ t670 true _ ?side1 ?side2 ?side3 ?side4 A47.out).mono ?_); (case side1 => exact ax287); (case side2 => exact (Kd.R_reads' HO_9.out).2.1); (case side3 => exact ax288); (case side4 => exact ax289); rintro e w' ⟨rfl, ⟨nd, rfl⟩⟩))
         go_meet
         case rel => exact ⟨_, ((t681 != t673)), ax37, H', ⟨by have := HJ11.out; first | omega | exact Nat.le_refl _⟩, ⟨by (with_reducible repeat (first | apply Kd.R_alloc | apply Kd.R_drewN | apply Kd.R_drew)); exact HO_6.out⟩, ⟨by (with_reducible repeat (first | apply Kd.R_alloc | apply Kd.R_drewN | apply Kd.R_drew)); exact HO_9.out⟩, ⟨by (with_reducible repeat (first | apply Kd.R_alloc | apply Kd.R_drewN | apply Kd.R_drew)); exact Kd.R_mono HO_678000.out (fun _ hk => trivial)⟩, ⟨by (with_reducible repeat (first | refine blk_drewN ?_ _ | refine blk_drew ?_ | refine blk_alloc ?_ _)); exact BK665.out⟩, ⟨by (with_reducible repeat (first | refine blk_drewN ?_ _ | refine blk_drew ?_ | refine blk_alloc ?_ _)); exact BK677.out⟩, ⟨by repeat (first | (with_reducible first | exact HB.out | apply below_alloc | apply pw_below_drewN | apply below_drew1 | refine below_set ?_ GE665.out | refine below_set ?_ GE677.out) | exact HB.out)⟩⟩
        ·replace c48 := Bool.eq_false_iff.mpr c48
         subst c48
         have H1 : (laws_FnExactFatalWords.j1 kj11 a1 t670 t673 t678 true l0_0) = some r := by rw [if_neg (show ¬ (false = true) by decide)] at H; exact H
         clear H; have H := H1; clear H1
         have H' := Aside0.mk H
         clear H
         obtain ⟨Ao51, co51, eo51⟩ := Kd.R_slice HO_9.out
         subst eo51
         obtain ⟨Ao52, co52, eo52⟩ := Kd.R_slice HO_6.out
         subst eo52
         go_wp2_with (first | (go_at_call 30; (with_reducible refine (laws_eqStringS.calls kj11 _ _ t678 _ _ t670 false _ ?side1 ?side2 ?side3 ?side4 A47.out).mono ?_); (case side1 => exact ax287); (case side2 => exact (Kd.R_reads' HO_9.out).2.1); (case side3 => exact ax288); (case side4 => exact ax289); rintro e w' ⟨rfl, ⟨nd, rfl⟩⟩))
         go_meet
         case rel => exact ⟨_, (true), ax37, H', ⟨by have := HJ11.out; first | omega | exact Nat.le_refl _⟩, ⟨by (with_reducible repeat (first | apply Kd.R_alloc | apply Kd.R_drewN | apply Kd.R_drew)); exact HO_6.out⟩, ⟨by (with_reducible repeat (first | apply Kd.R_alloc | apply Kd.R_drewN | apply Kd.R_drew)); exact HO_9.out⟩, ⟨by (with_reducible repeat (first | apply Kd.R_alloc | apply Kd.R_drewN | apply Kd.R_drew)); exact Kd.R_mono HO_678000.out (fun _ hk => trivial)⟩, ⟨by (with_reducible repeat (first | refine blk_drewN ?_ _ | refine blk_drew ?_ | refine blk_alloc ?_ _)); exact BK665.out⟩, ⟨by (with_reducible repeat (first | refine blk_drewN ?_ _ | refine blk_drew ?_ | refine blk_alloc ?_ _)); exact BK677.out⟩, ⟨by repeat (first | (with_reducible first | exact HB.out | apply below_alloc | apply pw_below_drewN | apply below_drew1 | refine below_set ?_ GE665.out | refine below_set ?_ GE677.out) | exact HB.out)⟩⟩
      case rest =>
       clear HC38
       try clear c1
       try clear c2
       try clear p2
       try clear c3
       try clear c4
       try clear c4b0
       try clear c9
       try clear c13
       try clear c15
       try clear c17
       try clear c24
       try clear c28
       try clear c29
       try clear c30
       try clear c31
       try clear c33
       try clear c36
       try clear c43
       try clear c46
       try clear c46b0
       try clear c48
       try clear hcz14_0
       try clear hcz16_0
       try clear hcz20_0
       try clear hcz25_0
       try clear hcz44_0
       try clear hcz6_0
       try clear hfz14_0
       try clear hfz16_0
       try clear hfz20_0
       try clear hfz25_0
       try clear hfz44_0
       try clear hfz6_0
       try clear p2
       obtain ⟨kq, x65_37, rfl, HA, HJ37, HO_6, HO_9, HO_678000, BK665, BK677, HB⟩ := hcut
       have hl678000_37 := (Kd.R_reads' HO_678000.out).1
       rw [hl678000_37] at HO_678000
       (try simp only [hl678000_37])
       (try simp only [hl678000_37] at BK665)
       (try simp only [hl678000_37] at BK677)
       (try simp only [hl678000_37] at HO_6)
       (try simp only [hl678000_37] at HO_9)
       cases kq with
       | zero => exact absurd HA.out (by simp [laws_FnExactFatalWords.j1])
       | succ kj37 =>
        have H := HA.out; clear HA
        simp only [laws_FnExactFatalWords.j1] at H
        by_cases c53 : x65_37 = true
        ·subst c53
         have H1 : (some false) = some r := by rw [if_pos rfl] at H; exact H
         clear H; have H := H1; clear H1
         exact absurd ((Option.some.inj H).trans HRT.out) (by decide)
        ·replace c53 := Bool.eq_false_iff.mpr c53
         subst c53
         have H1 : ((laws_markStringS.f kj37 t678 1).bind fun bt690 => ((laws_heldStringS.f kj37 bt690.2 1).bind fun t692 => (if t692 < 0 then (some false) else (if t692 = bt690.1 then ((laws_toTrie.f kj37 l0_0).bind fun t693 => ((impl_FatalWords.f kj37 t693 a1).bind fun bt696 => ((laws_eqStringS.f kj37 bt696.1 t670).bind fun t700 => (if t700 = true then (laws_FnExactFatalWords.j2 kj37 bt690.2 bt690.1 (bt696.2 != t673)) else (laws_FnExactFatalWords.j2 kj37 bt690.2 bt690.1 true))))) else (some false))))) = some r := by rw [if_neg (show ¬ (false = true) by decide)] at H; exact H
         clear H; have H := H1; clear H1; replace H := Option.bind_eq_some_iff.mp H
         obtain ⟨⟨t690, t691⟩, A540, H⟩ := H
         replace H : ((laws_heldStringS.f kj37 t691 1).bind fun t692 => (if t692 < 0 then (some false) else (if t692 = t690 then ((laws_toTrie.f kj37 l0_0).bind fun t693 => ((impl_FatalWords.f kj37 t693 a1).bind fun bt696 => ((laws_eqStringS.f kj37 bt696.1 t670).bind fun t700 => (if t700 = true then (laws_FnExactFatalWords.j2 kj37 t691 t690 (bt696.2 != t673)) else (laws_FnExactFatalWords.j2 kj37 t691 t690 true))))) else (some false)))) = some r := H
         have A54 := Aside0.mk A540; clear A540; replace H := Option.bind_eq_some_iff.mp H
         obtain ⟨t692, A550, H⟩ := H
         replace H : (if t692 < 0 then (some false) else (if t692 = t690 then ((laws_toTrie.f kj37 l0_0).bind fun t693 => ((impl_FatalWords.f kj37 t693 a1).bind fun bt696 => ((laws_eqStringS.f kj37 bt696.1 t670).bind fun t700 => (if t700 = true then (laws_FnExactFatalWords.j2 kj37 t691 t690 (bt696.2 != t673)) else (laws_FnExactFatalWords.j2 kj37 t691 t690 true))))) else (some false))) = some r := H
         have A55 := Aside0.mk A550; clear A550
         by_cases c56 : t692 < 0
         ·rw [if_pos c56] at H
          have c56b0 : decide (t692 < 0) = true := decide_eq_true c56
          clear c56
          exact absurd ((Option.some.inj H).trans HRT.out) (by decide)
         ·rw [if_neg c56] at H
          have c56b0 : decide (t692 < 0) = false := decide_eq_false c56
          clear c56
          by_cases c57 : t692 = t690
          ·rw [if_pos c57] at H
           have c57b0 : (t692 == t690) = true := beq_iff_eq.mpr c57
           have c57b1 : (t692 != t690) = false := bne_eq_false_iff_eq.mpr c57
           clear c57; replace H := Option.bind_eq_some_iff.mp H
           obtain ⟨t693, A580, H⟩ := H
           replace H : ((impl_FatalWords.f kj37 t693 a1).bind fun bt696 => ((laws_eqStringS.f kj37 bt696.1 t670).bind fun t700 => (if t700 = true then (laws_FnExactFatalWords.j2 kj37 t691 t690 (bt696.2 != t673)) else (laws_FnExactFatalWords.j2 kj37 t691 t690 true)))) = some r := H
           have A58 := Aside0.mk A580; clear A580; replace H := Option.bind_eq_some_iff.mp H
           obtain ⟨⟨t696, t699⟩, A590, H⟩ := H
           replace H : ((laws_eqStringS.f kj37 t696 t670).bind fun t700 => (if t700 = true then (laws_FnExactFatalWords.j2 kj37 t691 t690 (t699 != t673)) else (laws_FnExactFatalWords.j2 kj37 t691 t690 true))) = some r := H
           have A59 := Aside0.mk A590; clear A590; have HC60 := Aside0.mk H; clear H
           obtain ⟨Ao61, co61, eo61⟩ := Kd.R_slice HO_9.out
           subst eo61
           go_upto_region 25 with (first | ((with_reducible refine gate_callee (f := 32) rfl ?_); refine goesL_ (some 68) rfl rfl Try.func32 (by kernel_rfl) rfl #[.slice Ao61 t678.length co61, .int .i64 1] rfl ax34 ?_; (with_reducible refine (laws_markStringS.calls kj37 (fun k_ => some k_ = (.slice Ao61 t678.length co61 : Value).ownBlock) (.slice Ao61 t678.length co61) t678 1 t690 t691 w _ ?side1 ?side2 A54.out).mono ?_); (case side1 => exact ax282); (case side2 => exact Kd.R_tight rfl HO_9.out); rintro e w62 ⟨rfl, hy0, hb, hkp⟩; refine ⟨_, rfl, ?_⟩; have n0_ := Aside0.mk (Kd.R_mono (ok' := fun k_ => some k_ ≠ (.slice Ao61 t678.length co61 : Value).ownBlock) (Kd.R_keptB (HO_6.out) hkp (fun k_ hk_ hs_ => (hk_) hs_)) (fun k_ hk_ => hk_.1)); have n1_ := Aside0.mk (Kd.R_reok rfl hy0 (fun k_ e_ => HO_9.out.1 k_ e_)); have n2_ := Aside0.mk (Kd.R_mono (ok' := fun k_ => True) (Kd.R_keptB ((Kd.R_apart' HO_678000.out (Kd.R_typed HO_9.out) (by decide))) hkp (fun k_ hk_ hs_ => (hk_.2) hs_)) (fun k_ hk_ => trivial)); have n3_ := Aside0.mk (blk_kept ax275 hkp (fun hs_ => (fun e_ => (Kd.R_ne HO_9.out BK665.out (by decide)) e_) hs_)); have n4_ := Aside0.mk (blk_kept ax286 hkp (fun hs_ => (fun e_ => (Kd.R_ne HO_9.out BK677.out (by decide)) e_) hs_)); have n5_ := Aside0.mk (hb); clear HO_6; clear HO_9; clear HO_678000; clear BK665; clear BK677; clear HB; have HO_6 := n0_; have HO_9 := n1_; have HO_678000 := n2_; have BK665 := n3_; have BK677 := n4_; have HB := n5_; clear n0_ n1_ n2_ n3_ n4_ n5_; (try clear hb); (try clear hkp); (try clear hy0)) | ((with_reducible refine gate_callee (f := 33) rfl ?_); refine goesL_ (some 71) rfl rfl Try.func33 (by kernel_rfl) rfl #[.slice Ao61 t691.length co61, .int .i64 1] rfl (by (try simp only [List.map_toArray, List.map_cons, List.map_nil]); first | done | (rw [show t691.length = t678.length from (Kd.R_reads' HO_9.out).1.symm] <;> rfl) | rfl | (simp only [List.length_drop, List.length_take]; rfl)) ?_; (with_reducible refine (laws_heldStringS.calls kj37 _ _ t691 1 t692 _ ?side1 ?side2 A55.out).mono ?_); (case side1 => exact ax287); (case side2 => rw [show t691.length = t678.length from (Kd.R_reads' HO_9.out).1.symm]; exact (Kd.R_reads' HO_9.out).2.1); rintro e w63 ⟨rfl, hb⟩; refine ⟨_, rfl, ?_⟩; have n0_ := Aside0.mk (Kd.R_below ax248 hb); have n1_ := Aside0.mk (Kd.R_below ax222 hb); have n2_ := Aside0.mk (Kd.R_below ax285 hb); have n3_ := Aside0.mk (blk_below (g := gb665) (o := .cells #[.slice A0_0 l0_0.length c0_0] 24 (0, 0)) ax275 hb); have n4_ := Aside0.mk (blk_below (g := gb677) (o := .cells #[.slice Ao23 t688.length co23] 30 (0, 0)) ax286 hb); have n5_ := Aside0.mk (below_step ax282 hb); clear HO_6; clear HO_9; clear HO_678000; clear BK665; clear BK677; clear HB; have HO_6 := n0_; have HO_9 := n1_; have HO_678000 := n2_; have BK665 := n3_; have BK677 := n4_; have HB := n5_; clear n0_ n1_ n2_ n3_ n4_ n5_; (try clear hb); (try clear hb2); (try clear hk); (try clear hi); have hnb64 := NB665_677.out; have hnc64 := NB677_665.out; have hcz65_0 : w63.cell? ⟨gb665, 0, none⟩ = some (.slice A0_0 l0_0.length c0_0) := (blk_cell BK665.out 0).trans rfl; have hfz65_0 := blk_frozen BK665.out 0) | ((with_reducible refine gate_callee (f := 15) rfl ?_); refine goesL_ (some 79) rfl rfl Try.func15 (by kernel_rfl) rfl #[.agg #[.slice A0_0 l0_0.length c0_0]] rfl ax34 ?_; (with_reducible refine (laws_toTrie.calls kj37 _ _ l0_0 t693 _ ?side1 ?side2 A58.out).mono ?_); (case side1 => exact ax35); (case side2 => exact ax36); rintro e w66 ⟨v694, rfl, ho0, hb⟩; refine ⟨_, rfl, ?_⟩; have n0_ := Aside0.mk (Kd.R_below ax248 hb); have n1_ := Aside0.mk (Kd.R_below ax222 hb); have n2_ := Aside0.mk (Kd.R_elder' ax285 (Kd.R_base ho0) hb); have n3_ := Aside0.mk (Kd.R_lower (Kd.R_new' ho0 (Kd.R_lt ax285)) (below_size ax282)); have n4_ := Aside0.mk (blk_below (g := gb665) (o := .cells #[.slice A0_0 l0_0.length c0_0] 24 (0, 0)) ax275 hb); have n5_ := Aside0.mk (blk_below (g := gb677) (o := .cells #[.slice Ao23 t688.length co23] 30 (0, 0)) ax286 hb); have n6_ := Aside0.mk (below_step ax282 hb); clear HO_6; clear HO_9; clear HO_678000; clear BK665; clear BK677; clear HB; have HO_6 := n0_; have HO_9 := n1_; have HO_678000 := n2_; have HO695 := n3_; have BK665 := n4_; have BK677 := n5_; have HB := n6_; clear n0_ n1_ n2_ n3_ n4_ n5_ n6_; (try clear hb); (try clear hb2); (try clear hk); (try clear hi); (try clear ho0); obtain ⟨Ao67, co67, eo67⟩ := Kd.R_slice HO695.out; subst eo67) | ((with_reducible refine gate_callee (f := 29) rfl ?_); refine goesL_ (some 81) rfl rfl Try.func29 (by kernel_rfl) rfl #[.agg #[.slice Ao67 t693.length co67], .int .i64 a1] rfl ax34 ?_; (with_reducible refine (impl_FatalWords.calls kj37 _ _ t693 a1 t696 t699 _ ?side1 ?side2 A59.out).mono ?_); (case side1 => repeat (first | exact (Kd.R_reads' HO695.out).2.2 | (with_reducible refine Kd.C_alloc ?_ _) | (with_reducible refine Kd.C_drewN ?_ _) | (with_reducible refine Kd.C_drew ?_))); (case side2 => exact (Kd.R_reads' HO695.out).2.1); rintro e w68 ⟨v697, rfl, ho0, hb⟩; refine ⟨_, rfl, ?_⟩; have n0_ := Aside0.mk (Kd.R_elder' ax248 (Kd.R_base ho0) hb); have n1_ := Aside0.mk (Kd.R_elder' ax222 (Kd.R_base ho0) hb); have n2_ := Aside0.mk (Kd.R_below ax285 hb); have n3_ := Aside0.mk (Kd.R_below (by (with_reducible repeat (first | apply Kd.R_alloc | apply Kd.R_drewN | apply Kd.R_drew)); exact HO695.out) hb); have n4_ := Aside0.mk (Kd.R_lower (Kd.R_new' (Kd.R_new' ho0 (Kd.R_lt ax248)) (Kd.R_lt ax222)) (below_size ax282)); have n5_ := Aside0.mk (blk_below (g := gb665) (o := .cells #[.slice A0_0 l0_0.length c0_0] 24 (0, 0)) ax275 hb); have n6_ := Aside0.mk (blk_below (g := gb677) (o := .cells #[.slice Ao23 t688.length co23] 30 (0, 0)) ax286 hb); have n7_ := Aside0.mk (below_step ax282 hb); clear HO_6; clear HO_9; clear HO_678000; clear HO695; clear BK665; clear BK677; clear HB; have HO_6 := n0_; have HO_9 := n1_; have HO_678000 := n2_; have HO695 := n3_; have HO698 := n4_; have BK665 := n5_; have BK677 := n6_; have HB := n7_; clear n0_ n1_ n2_ n3_ n4_ n5_ n6_ n7_; (try clear hb); (try clear hb2); (try clear hk); (try clear hi); (try clear ho0)))
           (try simp only [Act.put, List.setIfInBounds_toArray, List.set_cons_zero, List.set_cons_succ])
           go_cut [92] (fun v92 wc => ∃ (kq : Nat) (x92_59 : Bool), v92 = .bool x92_59 ∧ Aside0 (laws_FnExactFatalWords.j2 kq t691 t690 x92_59 = some r) ∧ Aside0 (kq ≤ kj37) ∧ Aside0 (Kd.R Kd.string 9 wc w.heap.size (fun _ => True) (.slice Ao61 t678.length co61) t691) ∧ Aside0 (Kd.R k67 67 wc w.heap.size (fun _ => True) (.slice Ao23 t688.length co23) t688) ∧ Aside0 (wc.heap[gb665]? = some (.cells #[(.slice A0_0 l0_0.length c0_0)] 24 (0, 0))) ∧ Aside0 (wc.heap[gb677]? = some (.cells #[(.slice Ao23 t688.length co23)] 30 (0, 0))) ∧ Aside0 (Below w.heap.size w wc))
           case first =>
            have H := HC60.out; clear HC60; replace H := Option.bind_eq_some_iff.mp H
            obtain ⟨t700, A690, H⟩ := H
            replace H : (if t700 = true then (laws_FnExactFatalWords.j2 kj37 t691 t690 (t699 != t673)) else (laws_FnExactFatalWords.j2 kj37 t691 t690 true)) = some r := H
            have A69 := Aside0.mk A690; clear A690
            by_cases c70 : t700 = true
            ·subst c70
             have H1 : (laws_FnExactFatalWords.j2 kj37 t691 t690 (t699 != t673)) = some r := by rw [if_pos rfl] at H; exact H
             clear H; have H := H1; clear H1
             have H' := Aside0.mk H
             clear H
             obtain ⟨Ao71, co71, eo71⟩ := Kd.R_slice HO698.out
             subst eo71
             obtain ⟨Ao72, co72, eo72⟩ := Kd.R_slice HO_6.out
             subst eo72
             go_wp2_with (first | ((with_reducible refine gate_callee (f := 30) rfl ?_); refine goesL_ (some 86) rfl rfl Try.func30 (by kernel_rfl) rfl #[.slice Ao71 t696.length co71, .slice Ao72 t670.length co72] rfl ax34 ?_; (with_reducible refine (laws_eqStringS.calls kj37 _ _ t696 _ _ t670 true _ ?side1 ?side2 ?side3 ?side4 A69.out).mono ?_); (case side1 => exact ax290); (case side2 => exact (Kd.R_reads' HO698.out).2.1); (case side3 => exact ax288); (case side4 => exact ax289); rintro e w' ⟨rfl, ⟨nd, rfl⟩⟩; refine ⟨_, rfl, ?_⟩))
             go_meet
             case rel => exact ⟨_, ((t699 != t673)), ax37, H', ⟨by have := HJ11.out; have := HJ37.out; first | omega | exact Nat.le_refl _⟩, ⟨by (try simp only [hl678000_37]); (with_reducible repeat (first | apply Kd.R_alloc | apply Kd.R_drewN | apply Kd.R_drew)); exact Kd.R_mono HO_9.out (fun _ hk => trivial)⟩, ⟨by (try simp only [hl678000_37]); (with_reducible repeat (first | apply Kd.R_alloc | apply Kd.R_drewN | apply Kd.R_drew)); exact Kd.R_mono HO_678000.out (fun _ hk => trivial)⟩, ⟨by (try simp only [hl678000_37]); (with_reducible repeat (first | refine blk_drewN ?_ _ | refine blk_drew ?_ | refine blk_alloc ?_ _)); exact BK665.out⟩, ⟨by (try simp only [hl678000_37]); (with_reducible repeat (first | refine blk_drewN ?_ _ | refine blk_drew ?_ | refine blk_alloc ?_ _)); exact BK677.out⟩, ⟨by repeat (first | (with_reducible first | exact HB.out | apply below_alloc | apply pw_below_drewN | apply below_drew1 | refine below_set ?_ GE665.out | refine below_set ?_ GE677.out) | exact HB.out)⟩⟩
            ·replace c70 := Bool.eq_false_iff.mpr c70
             subst c70
             have H1 : (laws_FnExactFatalWords.j2 kj37 t691 t690 true) = some r := by rw [if_neg (show ¬ (false = true) by decide)] at H; exact H
             clear H; have H := H1; clear H1
             have H' := Aside0.mk H
             clear H
             obtain ⟨Ao73, co73, eo73⟩ := Kd.R_slice HO698.out
             subst eo73
             obtain ⟨Ao74, co74, eo74⟩ := Kd.R_slice HO_6.out
             subst eo74
             go_wp2_with (first | ((with_reducible refine gate_callee (f := 30) rfl ?_); refine goesL_ (some 86) rfl rfl Try.func30 (by kernel_rfl) rfl #[.slice Ao73 t696.length co73, .slice Ao74 t670.length co74] rfl ax34 ?_; (with_reducible refine (laws_eqStringS.calls kj37 _ _ t696 _ _ t670 false _ ?side1 ?side2 ?side3 ?side4 A69.out).mono ?_); (case side1 => exact ax290); (case side2 => exact (Kd.R_reads' HO698.out).2.1); (case side3 => exact ax288); (case side4 => exact ax289); rintro e w' ⟨rfl, ⟨nd, rfl⟩⟩; refine ⟨_, rfl, ?_⟩))
             go_meet
             case rel => exact ⟨_, (true), ax37, H', ⟨by have := HJ11.out; have := HJ37.out; first | omega | exact Nat.le_refl _⟩, ⟨by (try simp only [hl678000_37]); (with_reducible repeat (first | apply Kd.R_alloc | apply Kd.R_drewN | apply Kd.R_drew)); exact Kd.R_mono HO_9.out (fun _ hk => trivial)⟩, ⟨by (try simp only [hl678000_37]); (with_reducible repeat (first | apply Kd.R_alloc | apply Kd.R_drewN | apply Kd.R_drew)); exact Kd.R_mono HO_678000.out (fun _ hk => trivial)⟩, ⟨by (try simp only [hl678000_37]); (with_reducible repeat (first | refine blk_drewN ?_ _ | refine blk_drew ?_ | refine blk_alloc ?_ _)); exact BK665.out⟩, ⟨by (try simp only [hl678000_37]); (with_reducible repeat (first | refine blk_drewN ?_ _ | refine blk_drew ?_ | refine blk_alloc ?_ _)); exact BK677.out⟩, ⟨by repeat (first | (with_reducible first | exact HB.out | apply below_alloc | apply pw_below_drewN | apply below_drew1 | refine below_set ?_ GE665.out | refine below_set ?_ GE677.out) | exact HB.out)⟩⟩
           case rest =>
            clear HC60
            try clear c1
            try clear c2
            try clear p2
            try clear c3
            try clear c4
            try clear c4b0
            try clear c5
            try clear c6
            try clear c7
            try clear c9
            try clear c13
            try clear c15
            try clear c17
            try clear c24
            try clear c28
            try clear c29
            try clear c30
            try clear c31
            try clear c32
            try clear c33
            try clear c36
            try clear c43
            try clear c46
            try clear c46b0
            try clear c48
            try clear c53
            try clear c56
            try clear c56b0
            try clear c57
            try clear c57b0
            try clear c57b1
            try clear c64
            try clear c70
            try clear hcz14_0
            try clear hcz16_0
            try clear hcz20_0
            try clear hcz25_0
            try clear hcz44_0
            try clear hcz65_0
            try clear hcz6_0
            try clear hfz14_0
            try clear hfz16_0
            try clear hfz20_0
            try clear hfz25_0
            try clear hfz44_0
            try clear hfz65_0
            try clear hfz6_0
            try clear p2
            obtain ⟨kq, x92_59, rfl, HA, HJ59, HO_9, HO_678000, BK665, BK677, HB⟩ := hcut
            have hl9_59 := (Kd.R_reads' HO_9.out).1
            rw [hl9_59] at HO_9
            (try simp only [hl9_59])
            (try simp only [hl9_59] at BK665)
            (try simp only [hl9_59] at BK677)
            (try simp only [hl9_59] at HO_678000)
            cases kq with
            | zero => exact absurd HA.out (by simp [laws_FnExactFatalWords.j2])
            | succ kj59 =>
             have H := HA.out; clear HA
             simp only [laws_FnExactFatalWords.j2] at H
             by_cases c75 : x92_59 = true
             ·subst c75
              have H1 : (some false) = some r := by rw [if_pos rfl] at H; exact H
              clear H; have H := H1; clear H1
              exact absurd ((Option.some.inj H).trans HRT.out) (by decide)
             ·replace c75 := Bool.eq_false_iff.mpr c75
              subst c75
              have H1 : ((laws_heldStringS.f kj59 t691 1).bind fun t701 => (if t701 < 0 then (some false) else (if t701 = t690 then (some true) else (some false)))) = some r := by rw [if_neg (show ¬ (false = true) by decide)] at H; exact H
              clear H; have H := H1; clear H1; replace H := Option.bind_eq_some_iff.mp H
              obtain ⟨t701, A760, H⟩ := H
              replace H : (if t701 < 0 then (some false) else (if t701 = t690 then (some true) else (some false))) = some r := H
              have A76 := Aside0.mk A760; clear A760
              by_cases c77 : t701 < 0
              ·rw [if_pos c77] at H
               have c77b0 : decide (t701 < 0) = true := decide_eq_true c77
               clear c77
               exact absurd ((Option.some.inj H).trans HRT.out) (by decide)
              ·rw [if_neg c77] at H
               have c77b0 : decide (t701 < 0) = false := decide_eq_false c77
               clear c77
               by_cases c78 : t701 = t690
               ·rw [if_pos c78] at H
                have c78b0 : (t701 == t690) = true := beq_iff_eq.mpr c78
                have c78b1 : (t701 != t690) = false := bne_eq_false_iff_eq.mpr c78
                clear c78
                obtain rfl := Option.some.inj H
                go_wp2_with (first | ((with_reducible refine gate_callee (f := 33) rfl ?_); refine goesL_ (some 95) rfl rfl Try.func33 (by kernel_rfl) rfl #[.slice Ao61 t691.length co61, .int .i64 1] rfl ax34 ?_; (with_reducible refine (laws_heldStringS.calls kj59 _ _ t691 1 t701 _ ?side1 ?side2 A76.out).mono ?_); (case side1 => exact ax287); (case side2 => exact (Kd.R_reads' HO_9.out).2.1); rintro e w79 ⟨rfl, hb⟩; refine ⟨_, rfl, ?_⟩; have n0_ := Aside0.mk (Kd.R_below ax222 hb); have n1_ := Aside0.mk (Kd.R_below ax285 hb); have n2_ := Aside0.mk (blk_below (g := gb665) (o := .cells #[.slice A0_0 l0_0.length c0_0] 24 (0, 0)) ax275 hb); have n3_ := Aside0.mk (blk_below (g := gb677) (o := .cells #[.slice Ao23 t688.length co23] 30 (0, 0)) ax286 hb); have n4_ := Aside0.mk (below_step ax282 hb); clear HO_9; clear HO_678000; clear BK665; clear BK677; clear HB; have HO_9 := n0_; have HO_678000 := n1_; have BK665 := n2_; have BK677 := n3_; have HB := n4_; clear n0_ n1_ n2_ n3_ n4_; (try clear hb); (try clear hb2); (try clear hk); (try clear hi)))
                go_ret
                exact ⟨by first | rfl | (simp [errW_none, errW_some] <;> rfl) | (simp [*, errW_none, errW_some] <;> rfl), by repeat (first | (with_reducible first | exact HB.out | apply below_alloc | apply pw_below_drewN | apply below_drew1 | refine below_set ?_ GE665.out | refine below_set ?_ GE677.out) | exact HB.out)⟩
               ·rw [if_neg c78] at H
                have c78b0 : (t701 == t690) = false := beq_eq_false_iff_ne.mpr c78
                have c78b1 : (t701 != t690) = true := bne_iff_ne.mpr c78
                exact absurd ((Option.some.inj H).trans HRT.out) (by decide)
          ·rw [if_neg c57] at H
           have c57b0 : (t692 == t690) = false := beq_eq_false_iff_ne.mpr c57
           have c57b1 : (t692 != t690) = true := bne_iff_ne.mpr c57
           exact absurd ((Option.some.inj H).trans HRT.out) (by decide)
     ·replace c36 := Bool.eq_false_iff.mpr c36
      subst c36
      have H1 : (some false) = some r := by rw [if_neg (show ¬ (false = true) by decide)] at H; exact H
      clear H; have H := H1; clear H1
      exact absurd ((Option.some.inj H).trans HRT.out) (by decide)

end Go.Proofs.Ytcbjfflaamlpcaa.X

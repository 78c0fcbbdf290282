-- By gen.py (the session's own program over the kit's printer): functions of the program, each with its contract. Lean checks it.
import Derived.Test.YtcbjfflaamlpcaaDoorX0
import Derived.Test.YtcbjfflaamlpcaaDoorX9
import Derived.Test.YtcbjfflaamlpcaaDoorX14
import Derived.Test.YtcbjfflaamlpcaaDoorX15
import Derived.Test.YtcbjfflaamlpcaaDoorX21
import Derived.Test.YtcbjfflaamlpcaaDoorX22
namespace Go.Proofs.YtcbjfflaamlpcaaDoor.X
open Go.RowKit Go.Proofs.YtcbjfflaamlpcaaDoorW.PrintWords Go.Proofs.YtcbjfflaamlpcaaDoorW.PrintLast Go.Proofs.YtcbjfflaamlpcaaDoorW.PrintMore
attribute [local go_sem] max2_int min2_int max_two min_two max_three min_three max_four min_four   -- for this text's walks alone
set_option linter.unusedVariables false
set_option linter.unusedSimpArgs false

/-! ### laws_FnExactPlayLetters: function 3 -/
def laws_FnExactPlayLetters.j0 : Nat → Bool → List (S61) → List (S53) → Option (Bool)
 | 0, _, _, _ => none
 | k + 1, x63, x464000, x476000 => if x63 = true then (some false) else ((laws_toTrie.f k x464000).bind fun t480 => ((laws_eqTrie.f k x476000 t480).bind fun t483 => (if t483 = true then (some true) else (some false))))
def laws_FnExactPlayLetters.f (k : Nat) (l0_0 : List (S61)) (a1 : Int) (a2 : ByteArray) : Option (Bool) := if (a2.size : Int) > 1048576 then (some true) else ((laws_szTrie.f l0_0 1048576).bind fun t464 => (if t464 < 0 then (some true) else ((laws_toTrie.f k l0_0).bind fun t465 => ((spec_PlayLetters.f k t465 a1 a2).bind fun bt468 => ((laws_toTrie.f k l0_0).bind fun t472 => ((impl_PlayLetters.f k t472 a1 a2).bind fun bt476 => (if bt476.1 = bt468.1 then (if bt476.2.1 = bt468.2.1 then (if bt476.2.2.1 = bt468.2.2.1 then (laws_FnExactPlayLetters.j0 k (bt476.2.2.2 != bt468.2.2.2) l0_0 t472) else (laws_FnExactPlayLetters.j0 k true l0_0 t472)) else (laws_FnExactPlayLetters.j0 k true l0_0 t472)) else (laws_FnExactPlayLetters.j0 k true l0_0 t472))))))))
theorem laws_FnExactPlayLetters.mono_l : ∀ k, (∀ y0 y1 y2, LeO (laws_FnExactPlayLetters.j0 k y0 y1 y2) (laws_FnExactPlayLetters.j0 (k + 1) y0 y1 y2))
 | 0 => fun _ _ _ r h => by simp [laws_FnExactPlayLetters.j0] at h
 | k + 1 => by
  have ih0 := laws_FnExactPlayLetters.mono_l k
  ·intro y0 y1 y2
   unfold laws_FnExactPlayLetters.j0
   repeat' first
   | (with_reducible exact ih0 _ _ _)
   | (with_reducible exact impl_PlayLetters.mono _ _ _ _)
   | (with_reducible exact laws_eqTrie.mono _ _ _)
   | (with_reducible exact laws_toTrie.mono _ _)
   | (with_reducible exact spec_PlayLetters.mono _ _ _ _)
   | (with_reducible exact LeO.refl _)
   | (with_reducible exact LeO.none _)
   | (with_reducible refine LeO.ite ?_ ?_)
   | (with_reducible refine LeO.bind ?_ (fun _ => ?_))
   | exact ih0 _ _ _
   | exact impl_PlayLetters.mono _ _ _ _
   | exact laws_eqTrie.mono _ _ _
   | exact laws_toTrie.mono _ _
   | exact spec_PlayLetters.mono _ _ _ _
   | exact LeO.none _
   | refine LeO.ite ?_ ?_
   | refine LeO.bind ?_ (fun _ => ?_)
theorem laws_FnExactPlayLetters.mono : ∀ a0 a1 a2 k, LeO (laws_FnExactPlayLetters.f k a0 a1 a2) (laws_FnExactPlayLetters.f (k + 1) a0 a1 a2) := by
 intro a0 a1 a2 k
 have ih0 := laws_FnExactPlayLetters.mono_l k
 unfold laws_FnExactPlayLetters.f
 repeat' first
   | (with_reducible exact ih0 _ _ _)
   | (with_reducible exact impl_PlayLetters.mono _ _ _ _)
   | (with_reducible exact laws_eqTrie.mono _ _ _)
   | (with_reducible exact laws_toTrie.mono _ _)
   | (with_reducible exact spec_PlayLetters.mono _ _ _ _)
   | (with_reducible exact LeO.refl _)
   | (with_reducible exact LeO.none _)
   | (with_reducible refine LeO.ite ?_ ?_)
   | (with_reducible refine LeO.bind ?_ (fun _ => ?_))
   | exact ih0 _ _ _
   | exact impl_PlayLetters.mono _ _ _ _
   | exact laws_eqTrie.mono _ _ _
   | exact laws_toTrie.mono _ _
   | exact spec_PlayLetters.mono _ _ _ _
   | exact LeO.none _
   | refine LeO.ite ?_ ?_
   | refine LeO.bind ?_ (fun _ => ?_)
set_option maxHeartbeats 8000000 in
set_option maxRecDepth 100000 in
theorem laws_FnExactPlayLetters.calls (k : Nat) (A0_0 : Option Addr) (c0_0 : Nat) (l0_0 : List (S61)) (a1 : Int) (a2 : ByteArray) (r : Bool) (w : World) (hr0_0 : Kd.C k61 w A0_0 l0_0.length l0_0) (hc0_0 : l0_0.length ≤ c0_0) (h : laws_FnExactPlayLetters.f k l0_0 a1 a2 = some r) (hr_ : r = true) :
  Calls Tryd.prog 3 #[.agg #[.slice A0_0 l0_0.length c0_0], .int .i64 a1, .string a2] w fun e w' => e = .returned (.bool r) ∧ Below w.heap.size w w' := by
 have hu24 := Tryd.underlying24; have hu30 := Tryd.underlying30; have HR0_0 := Aside0.mk hr0_0; have HC0_0 := Aside0.mk hc0_0; clear hr0_0 hc0_0; have HB := Aside0.mk (Below.refl w.heap.size w); have HRT := Aside0.mk hr_; clear hr_
 have H : (if (a2.size : Int) > 1048576 then (some true) else ((laws_szTrie.f l0_0 1048576).bind fun t464 => (if t464 < 0 then (some true) else ((laws_toTrie.f k l0_0).bind fun t465 => ((spec_PlayLetters.f k t465 a1 a2).bind fun bt468 => ((laws_toTrie.f k l0_0).bind fun t472 => ((impl_PlayLetters.f k t472 a1 a2).bind fun bt476 => (if bt476.1 = bt468.1 then (if bt476.2.1 = bt468.2.1 then (if bt476.2.2.1 = bt468.2.2.1 then (laws_FnExactPlayLetters.j0 k (bt476.2.2.2 != bt468.2.2.2) l0_0 t472) else (laws_FnExactPlayLetters.j0 k true l0_0 t472)) else (laws_FnExactPlayLetters.j0 k true l0_0 t472)) else (laws_FnExactPlayLetters.j0 k true l0_0 t472))))))))) = some r := h
 clear h
 by_cases c4 : (a2.size : Int) > 1048576
 ·rw [if_pos c4] at H
  have c4b0 : decide (1048576 < (a2.size : Int)) = true := decide_eq_true c4
  have c4b1 : decide (1048576 < a2.size) = true := decide_eq_true (by omega)
  clear c4
  obtain rfl := Option.some.inj H
  go_enter Tryd.func3, Tryd.ntmps3
  go_wp2_with (first | ((with_reducible refine gate_dst (N := 3) rfl ?_); refine box_event ?hg (N := 3) ?hd (cs := #[.slice A0_0 l0_0.length c0_0]) (t := 24) ?hr ?_; (case hd => rfl); (case hg => rfl); (case hr => exact ax22); intro gb463 hg w5 hbox hb; have n0_ := Aside0.mk (below_step ax24 hb); have n1_ := Aside0.mk (hbox); have n2_ := Aside0.mk ((ax58 : w.heap.size ≤ gb463)); have n3_ := Aside0.mk ((ax58 : w.heap.size ≤ gb463)); clear HB; have HB := n0_; have BK463 := n1_; have GW463 := n2_; have GE463 := n3_; clear n0_ n1_ n2_ n3_; clear hb hbox hg))
  go_ret
  exact ⟨by first | rfl | (simp [errW_none, errW_some] <;> rfl) | (simp [*, errW_none, errW_some] <;> rfl), by repeat (first | (with_reducible first | exact HB.out | apply below_alloc | apply pw_below_drewN | apply below_drew1 | refine below_set ?_ GE463.out) | exact HB.out)⟩
 ·rw [if_neg c4] at H
  have c4b0 : decide (1048576 < (a2.size : Int)) = false := decide_eq_false c4
  have c4b1 : decide (1048576 < a2.size) = false := decide_eq_false (by omega)
  clear c4; replace H := Option.bind_eq_some_iff.mp H
  obtain ⟨t464, A60, H⟩ := H
  replace H : (if t464 < 0 then (some true) else ((laws_toTrie.f k l0_0).bind fun t465 => ((spec_PlayLetters.f k t465 a1 a2).bind fun bt468 => ((laws_toTrie.f k l0_0).bind fun t472 => ((impl_PlayLetters.f k t472 a1 a2).bind fun bt476 => (if bt476.1 = bt468.1 then (if bt476.2.1 = bt468.2.1 then (if bt476.2.2.1 = bt468.2.2.1 then (laws_FnExactPlayLetters.j0 k (bt476.2.2.2 != bt468.2.2.2) l0_0 t472) else (laws_FnExactPlayLetters.j0 k true l0_0 t472)) else (laws_FnExactPlayLetters.j0 k true l0_0 t472)) else (laws_FnExactPlayLetters.j0 k true l0_0 t472))))))) = some r := H
  have A6 := Aside0.mk A60; clear A60
  by_cases c7 : t464 < 0
  ·rw [if_pos c7] at H
   have c7b0 : decide (t464 < 0) = true := decide_eq_true c7
   clear c7
   obtain rfl := Option.some.inj H
   go_enter Tryd.func3, Tryd.ntmps3
   go_wp2_with (first | ((with_reducible refine gate_dst (N := 3) rfl ?_); refine box_event ?hg (N := 3) ?hd (cs := #[.slice A0_0 l0_0.length c0_0]) (t := 24) ?hr ?_; (case hd => rfl); (case hg => rfl); (case hr => exact ax22); intro gb463 hg w8 hbox hb; have n0_ := Aside0.mk (below_step ax24 hb); have n1_ := Aside0.mk (hbox); have n2_ := Aside0.mk ((ax58 : w.heap.size ≤ gb463)); have n3_ := Aside0.mk ((ax58 : w.heap.size ≤ gb463)); clear HB; have HB := n0_; have BK463 := n1_; have GW463 := n2_; have GE463 := n3_; clear n0_ n1_ n2_ n3_; clear hb hbox hg; have hcz9_0 : w8.cell? ⟨gb463, 0, none⟩ = some (.slice A0_0 l0_0.length c0_0) := (blk_cell BK463.out 0).trans rfl; have hfz9_0 := blk_frozen BK463.out 0) | ((with_reducible refine gate_callee (f := 5) rfl ?_); refine goesL_ (some 22) rfl rfl Tryd.func5 (by kernel_rfl) rfl #[.agg #[.slice A0_0 l0_0.length c0_0], .int .i64 1048576] rfl ax30 ?_; (with_reducible refine (laws_szTrie.calls _ _ l0_0 1048576 t464 _ ?side1 ?side2 A6.out).mono ?_); (case side1 => exact ax59); (case side2 => exact ax60); rintro e w10 ⟨rfl, hb⟩; refine ⟨_, rfl, ?_⟩; have n0_ := Aside0.mk (blk_below (g := gb463) (o := .cells #[.slice A0_0 l0_0.length c0_0] 24 (0, 0)) ax211 hb); have n1_ := Aside0.mk (below_step ax212 hb); clear BK463; clear HB; have BK463 := n0_; have HB := n1_; clear n0_ n1_; (try clear hb); (try clear hb2); (try clear hk); (try clear hi)))
   go_ret
   exact ⟨by first | rfl | (simp [errW_none, errW_some] <;> rfl) | (simp [*, errW_none, errW_some] <;> rfl), by repeat (first | (with_reducible first | exact HB.out | apply below_alloc | apply pw_below_drewN | apply below_drew1 | refine below_set ?_ GE463.out) | exact HB.out)⟩
  ·rw [if_neg c7] at H
   have c7b0 : decide (t464 < 0) = false := decide_eq_false c7
   clear c7; replace H := Option.bind_eq_some_iff.mp H
   obtain ⟨t465, A110, H⟩ := H
   replace H : ((spec_PlayLetters.f k t465 a1 a2).bind fun bt468 => ((laws_toTrie.f k l0_0).bind fun t472 => ((impl_PlayLetters.f k t472 a1 a2).bind fun bt476 => (if bt476.1 = bt468.1 then (if bt476.2.1 = bt468.2.1 then (if bt476.2.2.1 = bt468.2.2.1 then (laws_FnExactPlayLetters.j0 k (bt476.2.2.2 != bt468.2.2.2) l0_0 t472) else (laws_FnExactPlayLetters.j0 k true l0_0 t472)) else (laws_FnExactPlayLetters.j0 k true l0_0 t472)) else (laws_FnExactPlayLetters.j0 k true l0_0 t472))))) = some r := H
   have A11 := Aside0.mk A110; clear A110; replace H := Option.bind_eq_some_iff.mp H
   obtain ⟨⟨t468, t469, t470, t471⟩, A120, H⟩ := H
   replace H : ((laws_toTrie.f k l0_0).bind fun t472 => ((impl_PlayLetters.f k t472 a1 a2).bind fun bt476 => (if bt476.1 = t468 then (if bt476.2.1 = t469 then (if bt476.2.2.1 = t470 then (laws_FnExactPlayLetters.j0 k (bt476.2.2.2 != t471) l0_0 t472) else (laws_FnExactPlayLetters.j0 k true l0_0 t472)) else (laws_FnExactPlayLetters.j0 k true l0_0 t472)) else (laws_FnExactPlayLetters.j0 k true l0_0 t472)))) = some r := H
   have A12 := Aside0.mk A120; clear A120; replace H := Option.bind_eq_some_iff.mp H
   obtain ⟨t472, A130, H⟩ := H
   replace H : ((impl_PlayLetters.f k t472 a1 a2).bind fun bt476 => (if bt476.1 = t468 then (if bt476.2.1 = t469 then (if bt476.2.2.1 = t470 then (laws_FnExactPlayLetters.j0 k (bt476.2.2.2 != t471) l0_0 t472) else (laws_FnExactPlayLetters.j0 k true l0_0 t472)) else (laws_FnExactPlayLetters.j0 k true l0_0 t472)) else (laws_FnExactPlayLetters.j0 k true l0_0 t472))) = some r := H
   have A13 := Aside0.mk A130; clear A130; replace H := Option.bind_eq_some_iff.mp H
   obtain ⟨⟨t476, t477, t478, t479⟩, A140, H⟩ := H
   replace H : (if t476 = t468 then (if t477 = t469 then (if t478 = t470 then (laws_FnExactPlayLetters.j0 k (t479 != t471) l0_0 t472) else (laws_FnExactPlayLetters.j0 k true l0_0 t472)) else (laws_FnExactPlayLetters.j0 k true l0_0 t472)) else (laws_FnExactPlayLetters.j0 k true l0_0 t472)) = some r := H
   have A14 := Aside0.mk A140; clear A140; have HC15 := Aside0.mk H; clear H
   go_enter Tryd.func3, Tryd.ntmps3
   go_upto_region 10 with (first | ((with_reducible refine gate_dst (N := 3) rfl ?_); refine box_event ?hg (N := 3) ?hd (cs := #[.slice A0_0 l0_0.length c0_0]) (t := 24) ?hr ?_; (case hd => rfl); (case hg => rfl); (case hr => exact ax22); intro gb463 hg w16 hbox hb; have n0_ := Aside0.mk (below_step ax24 hb); have n1_ := Aside0.mk (hbox); have n2_ := Aside0.mk ((ax58 : w.heap.size ≤ gb463)); have n3_ := Aside0.mk ((ax58 : w.heap.size ≤ gb463)); clear HB; have HB := n0_; have BK463 := n1_; have GW463 := n2_; have GE463 := n3_; clear n0_ n1_ n2_ n3_; clear hb hbox hg; have hcz17_0 : w16.cell? ⟨gb463, 0, none⟩ = some (.slice A0_0 l0_0.length c0_0) := (blk_cell BK463.out 0).trans rfl; have hfz17_0 := blk_frozen BK463.out 0) | ((with_reducible refine gate_callee (f := 5) rfl ?_); refine goesL_ (some 22) rfl rfl Tryd.func5 (by kernel_rfl) rfl #[.agg #[.slice A0_0 l0_0.length c0_0], .int .i64 1048576] rfl ax30 ?_; (with_reducible refine (laws_szTrie.calls _ _ l0_0 1048576 t464 _ ?side1 ?side2 A6.out).mono ?_); (case side1 => exact ax59); (case side2 => exact ax60); rintro e w18 ⟨rfl, hb⟩; refine ⟨_, rfl, ?_⟩; have n0_ := Aside0.mk (blk_below (g := gb463) (o := .cells #[.slice A0_0 l0_0.length c0_0] 24 (0, 0)) ax211 hb); have n1_ := Aside0.mk (below_step ax212 hb); clear BK463; clear HB; have BK463 := n0_; have HB := n1_; clear n0_ n1_; (try clear hb); (try clear hb2); (try clear hk); (try clear hi); have hcz19_0 : w18.cell? ⟨gb463, 0, none⟩ = some (.slice A0_0 l0_0.length c0_0) := (blk_cell BK463.out 0).trans rfl; have hfz19_0 := blk_frozen BK463.out 0) | ((with_reducible refine gate_callee (f := 7) rfl ?_); refine goesL_ (some 27) rfl rfl Tryd.func7 (by kernel_rfl) rfl #[.agg #[.slice A0_0 l0_0.length c0_0]] rfl ax30 ?_; (with_reducible refine (laws_toTrie.calls k _ _ l0_0 t465 _ ?side1 ?side2 A11.out).mono ?_); (case side1 => exact ax59); (case side2 => exact ax60); rintro e w20 ⟨v466, rfl, ho0, hb⟩; refine ⟨_, rfl, ?_⟩; have n0_ := Aside0.mk (Kd.R_lower ho0 (below_size ax212)); have n1_ := Aside0.mk (blk_below (g := gb463) (o := .cells #[.slice A0_0 l0_0.length c0_0] 24 (0, 0)) ax211 hb); have n2_ := Aside0.mk (below_step ax212 hb); clear BK463; clear HB; have HO467 := n0_; have BK463 := n1_; have HB := n2_; clear n0_ n1_ n2_; (try clear hb); (try clear hb2); (try clear hk); (try clear hi); (try clear ho0); obtain ⟨Ao21, co21, eo21⟩ := Kd.R_slice HO467.out; subst eo21) | ((with_reducible refine gate_callee (f := 6) rfl ?_); refine goesL_ (some 30) rfl rfl Tryd.func6 (by kernel_rfl) rfl #[.agg #[.slice Ao21 t465.length co21], .int .i64 a1, .string a2] rfl ax30 ?_; (with_reducible refine (spec_PlayLetters.calls k _ _ t465 a1 a2 t468 t469 t470 t471 _ ?side1 ?side2 A12.out).mono ?_); (case side1 => repeat (first | exact (Kd.R_reads' HO467.out).2.2 | (with_reducible refine Kd.C_alloc ?_ _) | (with_reducible refine Kd.C_drewN ?_ _) | (with_reducible refine Kd.C_drew ?_))); (case side2 => exact (Kd.R_reads' HO467.out).2.1); rintro e w22 ⟨rfl, hb⟩; refine ⟨_, rfl, ?_⟩; have n0_ := Aside0.mk (Kd.R_below ax213 hb); have n1_ := Aside0.mk (blk_below (g := gb463) (o := .cells #[.slice A0_0 l0_0.length c0_0] 24 (0, 0)) ax211 hb); have n2_ := Aside0.mk (below_step ax212 hb); clear HO467; clear BK463; clear HB; have HO467 := n0_; have BK463 := n1_; have HB := n2_; clear n0_ n1_ n2_; (try clear hb); (try clear hb2); (try clear hk); (try clear hi); have hcz23_0 : w22.cell? ⟨gb463, 0, none⟩ = some (.slice A0_0 l0_0.length c0_0) := (blk_cell BK463.out 0).trans rfl; have hfz23_0 := blk_frozen BK463.out 0) | ((with_reducible refine gate_callee (f := 7) rfl ?_); refine goesL_ (some 36) rfl rfl Tryd.func7 (by kernel_rfl) rfl #[.agg #[.slice A0_0 l0_0.length c0_0]] rfl ax30 ?_; (with_reducible refine (laws_toTrie.calls k _ _ l0_0 t472 _ ?side1 ?side2 A13.out).mono ?_); (case side1 => exact ax59); (case side2 => exact ax60); rintro e w24 ⟨v473, rfl, ho0, hb⟩; refine ⟨_, rfl, ?_⟩; have n0_ := Aside0.mk (Kd.R_elder' ax213 (Kd.R_base ho0) hb); have n1_ := Aside0.mk (Kd.R_lower (Kd.R_new' ho0 (Kd.R_lt ax213)) (below_size ax212)); have n2_ := Aside0.mk (blk_below (g := gb463) (o := .cells #[.slice A0_0 l0_0.length c0_0] 24 (0, 0)) ax211 hb); have n3_ := Aside0.mk (below_step ax212 hb); clear HO467; clear BK463; clear HB; have HO467 := n0_; have HO474 := n1_; have BK463 := n2_; have HB := n3_; clear n0_ n1_ n2_ n3_; (try clear hb); (try clear hb2); (try clear hk); (try clear hi); (try clear ho0)) | ((with_reducible refine gate_dst (N := 12) rfl ?_); refine box_event ?hg (N := 12) ?hd (cs := #[.slice none 0 0]) (t := 30) ?hr ?_; (case hd => rfl); (case hg => rfl); (case hr => exact ax22); intro gb475 hg w25 hbox hb; have n0_ := Aside0.mk (Kd.R_below ax213 hb); have n1_ := Aside0.mk (Kd.R_below (by (with_reducible repeat (first | apply Kd.R_alloc | apply Kd.R_drewN | apply Kd.R_drew)); exact HO474.out) hb); have n2_ := Aside0.mk (blk_below (g := gb463) (o := .cells #[.slice A0_0 l0_0.length c0_0] 24 (0, 0)) ax211 hb); have n3_ := Aside0.mk (below_step ax212 hb); have n4_ := Aside0.mk (hbox); have n5_ := Aside0.mk ((ax214 : w.heap.size ≤ gb475)); have n6_ := Aside0.mk ((ax214 : w.heap.size ≤ gb475)); have n7_ := Aside0.mk ((by rw [hg]; exact Nat.ne_of_lt (blk_lt (g := gb463) (o := .cells #[.slice A0_0 l0_0.length c0_0] 24 (0, 0)) ax211) : gb463 ≠ gb475)); have n8_ := Aside0.mk ((by rw [hg]; exact Nat.ne_of_gt (blk_lt (g := gb463) (o := .cells #[.slice A0_0 l0_0.length c0_0] 24 (0, 0)) ax211) : gb475 ≠ gb463)); clear HO467; clear HO474; clear BK463; clear HB; have HO467 := n0_; have HO474 := n1_; have BK463 := n2_; have HB := n3_; have BK475 := n4_; have GW475 := n5_; have GE475 := n6_; have NB463_475 := n7_; have NB475_463 := n8_; clear n0_ n1_ n2_ n3_ n4_ n5_ n6_ n7_ n8_; clear hb hbox hg; obtain ⟨Ao26, co26, eo26⟩ := Kd.R_slice HO474.out; subst eo26; have hnb27 := NB475_463.out; have hnc27 := NB463_475.out; have hcz28_0 : w25.cell? ⟨gb475, 0, none⟩ = some (.slice none 0 0) := (blk_cell BK475.out 0).trans rfl; have hfz28_0 := blk_frozen BK475.out 0) | ((with_reducible refine gate_callee (f := 8) rfl ?_); refine goesL_ (some 41) rfl rfl Tryd.func8 (by kernel_rfl) rfl #[.agg #[.slice Ao26 t472.length co26], .int .i64 a1, .string a2] rfl ax30 ?_; (with_reducible refine (impl_PlayLetters.calls k _ _ t472 a1 a2 t476 t477 t478 t479 _ ?side1 ?side2 A14.out).mono ?_); (case side1 => refine (Kd.R_reads' (e := 53) (base := w.heap.size) (ok := fun k_ => (True ∧ some k_ ≠ (.slice Ao21 t465.length co21 : Value).ownBlock)) (n := t472.length) (c := co26) ?_).2.2; exact ax215); (case side2 => exact (Kd.R_reads' HO474.out).2.1); rintro e w29 ⟨rfl, hb⟩; refine ⟨_, rfl, ?_⟩; have n0_ := Aside0.mk (Kd.R_below (by (with_reducible repeat (first | apply Kd.R_alloc | apply Kd.R_drewN | apply Kd.R_drew)); exact (Kd.R_mono (Kd.R_far (p := ⟨gb475, 0, none⟩) (Kd.R_types HO467.out BK475.out (by decide)) (fun _ hk => hk.2) (.slice Ao26 t472.length co26)) (fun _ h_ => h_.1))) hb); have n1_ := Aside0.mk (Kd.R_below ax215 hb); have n2_ := Aside0.mk (blk_below (g := gb463) (o := .cells #[.slice A0_0 l0_0.length c0_0] 24 (0, 0)) (by (with_reducible repeat (first | refine blk_drewN ?_ _ | refine blk_drew ?_ | refine blk_alloc ?_ _)); refine blk_far ?_ NB463_475.out _; (with_reducible repeat (first | refine blk_drewN ?_ _ | refine blk_drew ?_ | refine blk_alloc ?_ _)); exact BK463.out) hb); have n3_ := Aside0.mk (blk_below (g := gb475) (o := .cells #[.slice Ao26 t472.length co26] 30 (0, 0)) (by (with_reducible repeat (first | refine blk_drewN ?_ _ | refine blk_drew ?_ | refine blk_alloc ?_ _)); refine blk_put (cs := #[.slice none 0 0]) ?_ 0 _ rfl; (with_reducible repeat (first | refine blk_drewN ?_ _ | refine blk_drew ?_ | refine blk_alloc ?_ _)); exact BK475.out) hb); have n4_ := Aside0.mk (below_step ax216 hb); clear HO467; clear HO474; clear BK463; clear BK475; clear HB; have HO467 := n0_; have HO474 := n1_; have BK463 := n2_; have BK475 := n3_; have HB := n4_; clear n0_ n1_ n2_ n3_ n4_; (try clear hb); (try clear hb2); (try clear hk); (try clear hi)))
   (try simp only [Act.put, List.setIfInBounds_toArray, List.set_cons_zero, List.set_cons_succ])
   go_cut [63] (fun v63 wc => ∃ (kq : Nat) (x63_14 : Bool), v63 = .bool x63_14 ∧ Aside0 (laws_FnExactPlayLetters.j0 kq x63_14 l0_0 t472 = some r) ∧ Aside0 (kq ≤ k) ∧ Aside0 (Kd.R k53 53 wc w.heap.size (fun _ => True) (.slice Ao26 t472.length co26) t472) ∧ Aside0 (wc.heap[gb463]? = some (.cells #[(.slice A0_0 l0_0.length c0_0)] 24 (0, 0))) ∧ Aside0 (wc.heap[gb475]? = some (.cells #[(.slice Ao26 t472.length co26)] 30 (0, 0))) ∧ Aside0 (Below w.heap.size w wc))
   case first =>
    have H := HC15.out; clear HC15
    by_cases c30 : t476 = t468
    ·rw [if_pos c30] at H
     have c30b0 : (t476 == t468) = true := beq_iff_eq.mpr c30
     have c30b1 : (t476 != t468) = false := bne_eq_false_iff_eq.mpr c30
     clear c30
     (first | rw [c30b0] | (simp only [i64_w, i32_w]; rw [c30b0]) | skip)
     by_cases c31 : t477 = t469
     ·rw [if_pos c31] at H
      have c31b0 : (t477 == t469) = true := beq_iff_eq.mpr c31
      have c31b1 : (t477 != t469) = false := bne_eq_false_iff_eq.mpr c31
      clear c31
      by_cases c32 : t478 = t470
      ·rw [if_pos c32] at H
       have c32b0 : (t478 == t470) = true := beq_iff_eq.mpr c32
       have c32b1 : (t478 != t470) = false := bne_eq_false_iff_eq.mpr c32
       clear c32
       have H' := Aside0.mk H
       clear H
       go_wp2
       go_meet
       case rel => exact ⟨_, ((t479 != t471)), ax20, H', ⟨by first | omega | exact Nat.le_refl _⟩, ⟨by (with_reducible repeat (first | apply Kd.R_alloc | apply Kd.R_drewN | apply Kd.R_drew)); exact Kd.R_mono HO474.out (fun _ hk => trivial)⟩, ⟨by (with_reducible repeat (first | refine blk_drewN ?_ _ | refine blk_drew ?_ | refine blk_alloc ?_ _)); exact BK463.out⟩, ⟨by (with_reducible repeat (first | refine blk_drewN ?_ _ | refine blk_drew ?_ | refine blk_alloc ?_ _)); exact BK475.out⟩, ⟨by repeat (first | (with_reducible first | exact HB.out | apply below_alloc | apply pw_below_drewN | apply below_drew1 | refine below_set ?_ GE463.out | refine below_set ?_ GE475.out) | exact HB.out)⟩⟩
      ·rw [if_neg c32] at H
       have c32b0 : (t478 == t470) = false := beq_eq_false_iff_ne.mpr c32
       have c32b1 : (t478 != t470) = true := bne_iff_ne.mpr c32
       have H' := Aside0.mk H
       clear H
       go_wp2
       go_meet
       case rel => exact ⟨_, (true), ax20, H', ⟨by first | omega | exact Nat.le_refl _⟩, ⟨by (with_reducible repeat (first | apply Kd.R_alloc | apply Kd.R_drewN | apply Kd.R_drew)); exact Kd.R_mono HO474.out (fun _ hk => trivial)⟩, ⟨by (with_reducible repeat (first | refine blk_drewN ?_ _ | refine blk_drew ?_ | refine blk_alloc ?_ _)); exact BK463.out⟩, ⟨by (with_reducible repeat (first | refine blk_drewN ?_ _ | refine blk_drew ?_ | refine blk_alloc ?_ _)); exact BK475.out⟩, ⟨by repeat (first | (with_reducible first | exact HB.out | apply below_alloc | apply pw_below_drewN | apply below_drew1 | refine below_set ?_ GE463.out | refine below_set ?_ GE475.out) | exact HB.out)⟩⟩
     ·rw [if_neg c31] at H
      have c31b0 : (t477 == t469) = false := beq_eq_false_iff_ne.mpr c31
      have c31b1 : (t477 != t469) = true := bne_iff_ne.mpr c31
      have H' := Aside0.mk H
      clear H
      go_wp2
      go_meet
      case rel => exact ⟨_, (true), ax20, H', ⟨by first | omega | exact Nat.le_refl _⟩, ⟨by (with_reducible repeat (first | apply Kd.R_alloc | apply Kd.R_drewN | apply Kd.R_drew)); exact Kd.R_mono HO474.out (fun _ hk => trivial)⟩, ⟨by (with_reducible repeat (first | refine blk_drewN ?_ _ | refine blk_drew ?_ | refine blk_alloc ?_ _)); exact BK463.out⟩, ⟨by (with_reducible repeat (first | refine blk_drewN ?_ _ | refine blk_drew ?_ | refine blk_alloc ?_ _)); exact BK475.out⟩, ⟨by repeat (first | (with_reducible first | exact HB.out | apply below_alloc | apply pw_below_drewN | apply below_drew1 | refine below_set ?_ GE463.out | refine below_set ?_ GE475.out) | exact HB.out)⟩⟩
    ·rw [if_neg c30] at H
     have c30b0 : (t476 == t468) = false := beq_eq_false_iff_ne.mpr c30
     have c30b1 : (t476 != t468) = true := bne_iff_ne.mpr c30
     (first | rw [c30b0] | (simp only [i64_w, i32_w]; rw [c30b0]) | skip)
     have H' := Aside0.mk H
     clear H
     go_wp2
     go_meet
     case rel => exact ⟨_, (true), ax20, H', ⟨by first | omega | exact Nat.le_refl _⟩, ⟨by (with_reducible repeat (first | apply Kd.R_alloc | apply Kd.R_drewN | apply Kd.R_drew)); exact Kd.R_mono HO474.out (fun _ hk => trivial)⟩, ⟨by (with_reducible repeat (first | refine blk_drewN ?_ _ | refine blk_drew ?_ | refine blk_alloc ?_ _)); exact BK463.out⟩, ⟨by (with_reducible repeat (first | refine blk_drewN ?_ _ | refine blk_drew ?_ | refine blk_alloc ?_ _)); exact BK475.out⟩, ⟨by repeat (first | (with_reducible first | exact HB.out | apply below_alloc | apply pw_below_drewN | apply below_drew1 | refine below_set ?_ GE463.out | refine below_set ?_ GE475.out) | exact HB.out)⟩⟩
   case rest =>
    clear HC15
    try clear c2
    try clear p2
    try clear c3
    try clear c4
    try clear c4b0
    try clear c4b1
    try clear c5
    try clear c6
    try clear c7
    try clear c7b0
    try clear c8
    try clear c27
    try clear c30
    try clear c30b0
    try clear c30b1
    try clear c31
    try clear c31b0
    try clear c31b1
    try clear c32
    try clear c32b0
    try clear c32b1
    try clear hcz17_0
    try clear hcz19_0
    try clear hcz23_0
    try clear hcz28_0
    try clear hcz9_0
    try clear hfz17_0
    try clear hfz19_0
    try clear hfz23_0
    try clear hfz28_0
    try clear hfz9_0
    obtain ⟨kq, x63_14, rfl, HA, HJ14, HO_476000, BK463, BK475, HB⟩ := hcut
    cases kq with
    | zero => exact absurd HA.out (by simp [laws_FnExactPlayLetters.j0])
    | succ kj14 =>
     have H := HA.out; clear HA
     simp only [laws_FnExactPlayLetters.j0] at H
     by_cases c33 : x63_14 = true
     ·subst c33
      have H1 : (some false) = some r := by rw [if_pos rfl] at H; exact H
      clear H; have H := H1; clear H1
      exact absurd ((Option.some.inj H).trans HRT.out) (by decide)
     ·replace c33 := Bool.eq_false_iff.mpr c33
      subst c33
      have H1 : ((laws_toTrie.f kj14 l0_0).bind fun t480 => ((laws_eqTrie.f kj14 t472 t480).bind fun t483 => (if t483 = true then (some true) else (some false)))) = some r := by rw [if_neg (show ¬ (false = true) by decide)] at H; exact H
      clear H; have H := H1; clear H1; replace H := Option.bind_eq_some_iff.mp H
      obtain ⟨t480, A340, H⟩ := H
      replace H : ((laws_eqTrie.f kj14 t472 t480).bind fun t483 => (if t483 = true then (some true) else (some false))) = some r := H
      have A34 := Aside0.mk A340; clear A340; replace H := Option.bind_eq_some_iff.mp H
      obtain ⟨t483, A350, H⟩ := H
      replace H : (if t483 = true then (some true) else (some false)) = some r := H
      have A35 := Aside0.mk A350; clear A350
      by_cases c36 : t483 = true
      ·subst c36
       have H1 : (some true) = some r := by rw [if_pos rfl] at H; exact H
       clear H; have H := H1; clear H1
       obtain rfl := Option.some.inj H
       try go_wp2
       have n0_ := Aside0.mk (Kd.R_drew HO_476000.out); have n1_ := Aside0.mk (blk_drew BK463.out); have n2_ := Aside0.mk (blk_drew BK475.out); have n3_ := Aside0.mk (below_drew1 HB.out); clear HO_476000; clear BK463; clear BK475; clear HB; have HO_476000 := n0_; have BK463 := n1_; have BK475 := n2_; have HB := n3_; clear n0_ n1_ n2_ n3_
       refine start_ (n := 5) (S := fun w' => w'.cell? ⟨gb475, 0, none⟩ = some (.slice Ao26 t472.length co26) ∧ w'.cell? ⟨gb463, 0, none⟩ = some (.slice A0_0 l0_0.length c0_0)) (ds := []) #[false, false, false, false, false] (by kernel_rfl) rfl rfl ⟨(blk_cell BK475.out 0).trans rfl, (blk_cell BK463.out 0).trans rfl⟩ (fun hHeld => ?_)
       generalize wc.drew = w37 at HO_476000 BK463 BK475 HB hHeld ⊢
       refine take_ (i := 0) (N := some 64) (v := ?_) (a' := ?_) #[true, false, false, false, false] rfl rfl (by kernel_rfl) (fun _ _ _ h => h) (Or.inl ⟨by rfl, ?_⟩) hHeld ?_ ?_; rotate_left; exact ax17; rotate_left; exact ax5
       refine take_ (i := 1) (N := some 65) (v := ?_) (a' := ?_) #[true, true, false, false, false] rfl rfl (by kernel_rfl) (fun _ _ _ h => h) (Or.inl ⟨by rfl, ?_⟩) hHeld ?_ ?_; rotate_left; exact ax17; rotate_left; exact ax5
       refine one_ (i := 2) (N := some 66) #[true, true, true, false, false] rfl rfl (by kernel_rfl) (by decide) (fun K hK => ?_)
       refine goes_ Tryd.func7 (by kernel_rfl) rfl #[.agg #[.slice A0_0 l0_0.length c0_0]] (by rfl) rfl rfl ax30 ?_
       with_reducible refine (laws_toTrie.calls kj14 _ _ l0_0 t480 _ ?side1 ?side2 A34.out).mono ?_
       (case side1 => exact ax59)
       (case side2 => exact ax60)
       rintro e w38 ⟨v481, rfl, ho0, hb⟩
       refine ⟨_, rfl, ?_⟩
       have n0_ := Aside0.mk (Kd.R_elder' ax217 (Kd.R_base ho0) hb); have n1_ := Aside0.mk (Kd.R_lower (Kd.R_new' ho0 (Kd.R_lt ax217)) (below_size ax216))
       have n2_ := Aside0.mk (blk_below (g := gb463) (o := .cells #[.slice A0_0 l0_0.length c0_0] 24 (0, 0)) ax211 hb)
       have n3_ := Aside0.mk (blk_below (g := gb475) (o := .cells #[.slice Ao26 t472.length co26] 30 (0, 0)) ax218 hb)
       have n4_ := Aside0.mk (below_step ax216 hb); clear HO_476000; clear BK463; clear BK475; clear HB; have HO_476000 := n0_; have HO482 := n1_; have BK463 := n2_; have BK475 := n3_; have HB := n4_; clear n0_ n1_ n2_ n3_ n4_; (try clear hb); (try clear hb2); (try clear hk); (try clear hi); (try clear ho0)
       obtain ⟨Ao39, co39, eo39⟩ := Kd.R_slice HO482.out
       (first | subst eo39 | (injection eo39 with f1_ f2_ f3_; have f4_ := f1_.symm; have f5_ := f3_.symm; clear f1_ f2_ f3_; subst f4_; subst f5_))
       refine hK.out _ _ ⟨(blk_cell BK475.out 0).trans rfl, (blk_cell BK463.out 0).trans rfl⟩ (fun hHeld => ?_)
       clear hK K
       refine norm_ (a' := ?_) ?_ ?_
       rotate_left
       ·show Act.put _ (some 66) _ = _
        simp only [Act.put, List.setIfInBounds_toArray, List.set_cons_zero, List.set_cons_succ, i64_w, i32_w]
        rfl
       refine one_ (i := 3) (N := some 67) #[true, true, true, true, false] rfl rfl (by kernel_rfl) (by decide) (fun K hK => ?_)
       refine goes_ Tryd.func9 (by kernel_rfl) rfl #[.agg #[.slice Ao26 t472.length co26], .agg #[.slice Ao39 t480.length co39]] (by rfl) rfl rfl ax30 ?_
       with_reducible refine (laws_eqTrie.calls kj14 _ _ t472 _ _ t480 true _ ?side1 ?side2 ?side3 ?side4 A35.out).mono ?_
       (case side1 => repeat (first | exact (Kd.R_reads' HO_476000.out).2.2 | (with_reducible refine Kd.C_alloc ?_ _) | (with_reducible refine Kd.C_drewN ?_ _) | (with_reducible refine Kd.C_drew ?_)))
       (case side2 => exact (Kd.R_reads' HO_476000.out).2.1)
       (case side3 => repeat (first | exact (Kd.R_reads' HO482.out).2.2 | (with_reducible refine Kd.C_alloc ?_ _) | (with_reducible refine Kd.C_drewN ?_ _) | (with_reducible refine Kd.C_drew ?_)))
       (case side4 => exact (Kd.R_reads' HO482.out).2.1)
       rintro e w40 ⟨rfl, hb⟩
       refine ⟨_, rfl, ?_⟩
       have n0_ := Aside0.mk (Kd.R_below ax217 hb)
       have n1_ := Aside0.mk (Kd.R_below (by (with_reducible repeat (first | apply Kd.R_alloc | apply Kd.R_drewN | apply Kd.R_drew)); exact HO482.out) hb)
       have n2_ := Aside0.mk (blk_below (g := gb463) (o := .cells #[.slice A0_0 l0_0.length c0_0] 24 (0, 0)) ax211 hb)
       have n3_ := Aside0.mk (blk_below (g := gb475) (o := .cells #[.slice Ao26 t472.length co26] 30 (0, 0)) ax218 hb)
       have n4_ := Aside0.mk (below_step ax216 hb); clear HO_476000; clear HO482; clear BK463; clear BK475; clear HB; have HO_476000 := n0_; have HO482 := n1_; have BK463 := n2_; have BK475 := n3_; have HB := n4_; clear n0_ n1_ n2_ n3_ n4_; (try clear hb); (try clear hb2); (try clear hk); (try clear hi)
       refine hK.out _ _ ⟨(blk_cell BK475.out 0).trans rfl, (blk_cell BK463.out 0).trans rfl⟩ (fun hHeld => ?_)
       clear hK K
       refine norm_ (a' := ?_) ?_ ?_
       rotate_left
       ·show Act.put _ (some 67) _ = _
        simp only [Act.put, List.setIfInBounds_toArray, List.set_cons_zero, List.set_cons_succ, i64_w, i32_w]
        rfl
       refine pure_ (i := 4) (N := some 68) (v := ?_) (a' := ?_) #[true, true, true, true, true] rfl rfl (by kernel_rfl) (fun _ _ _ h => h) (Or.inl ⟨by rfl, ?_⟩) ?_ ?_; rotate_left; exact ax4; rotate_left; exact ax5
       refine done_ (by kernel_rfl) ?_
       try go_wp2
       go_ret
       exact ⟨by first | rfl | (simp [errW_none, errW_some] <;> rfl) | (simp [*, errW_none, errW_some] <;> rfl), by repeat (first | (with_reducible first | exact HB.out | apply below_alloc | apply pw_below_drewN | apply below_drew1 | refine below_set ?_ GE463.out | refine below_set ?_ GE475.out) | exact HB.out)⟩
      ·replace c36 := Bool.eq_false_iff.mpr c36
       subst c36
       have H1 : (some false) = some r := by rw [if_neg (show ¬ (false = true) by decide)] at H; exact H
       clear H; have H := H1; clear H1
       exact absurd ((Option.some.inj H).trans HRT.out) (by decide)

end Go.Proofs.YtcbjfflaamlpcaaDoor.X

-- By gen.py (the session's own program over the kit's printer): functions of the program, each with its contract. Lean checks it.
import Derived.Test.YtcbjfflaamlpcaaX0
import Derived.Test.YtcbjfflaamlpcaaX2
import Derived.Test.YtcbjfflaamlpcaaX3
import Derived.Test.YtcbjfflaamlpcaaX12
import Derived.Test.YtcbjfflaamlpcaaX18
namespace Go.Proofs.Ytcbjfflaamlpcaa.X
open Go.RowKit Go.Proofs.YtcbjfflaamlpcaaW.PrintWords Go.Proofs.YtcbjfflaamlpcaaW.PrintLast Go.Proofs.YtcbjfflaamlpcaaW.PrintMore
attribute [local go_sem] max2_int min2_int max_two min_two max_three min_three max_four min_four   -- for this text's walks alone
set_option linter.unusedVariables false
set_option linter.unusedSimpArgs false

/-! ### laws_FnExactGameLength: function 10 -/
def laws_FnExactGameLength.j0 : Nat → Bool → List (S80) → List (S67) → Option (Bool)
 | 0, _, _, _ => none
 | k + 1, x42, x439000, x449000 => if x42 = true then (some false) else ((laws_toTrie.f k x439000).bind fun t451 => ((laws_eqTrie.f k x449000 t451).bind fun t454 => (if t454 = true then (some true) else (some false))))
def laws_FnExactGameLength.f (k : Nat) (l0_0 : List (S80)) (a1 : Int) (a2 : Int) : Option (Bool) := (laws_szTrie.f l0_0 1048576).bind fun t439 => (if t439 < 0 then (some true) else ((laws_toTrie.f k l0_0).bind fun t440 => ((spec_GameLength.f k t440 a1 a2).bind fun bt443 => ((laws_toTrie.f k l0_0).bind fun t445 => ((impl_GameLength.f k t445 a1 a2).bind fun bt449 => (if bt449.1 = bt443.1 then (laws_FnExactGameLength.j0 k (bt449.2 != bt443.2) l0_0 t445) else (laws_FnExactGameLength.j0 k true l0_0 t445)))))))
theorem laws_FnExactGameLength.mono_l : ∀ k, (∀ y0 y1 y2, LeO (laws_FnExactGameLength.j0 k y0 y1 y2) (laws_FnExactGameLength.j0 (k + 1) y0 y1 y2))
 | 0 => fun _ _ _ r h => by simp [laws_FnExactGameLength.j0] at h
 | k + 1 => by
  have ih0 := laws_FnExactGameLength.mono_l k
  ·intro y0 y1 y2
   unfold laws_FnExactGameLength.j0
   repeat' first
   | (with_reducible exact ih0 _ _ _)
   | (with_reducible exact impl_GameLength.mono _ _ _ _)
   | (with_reducible exact laws_eqTrie.mono _ _ _)
   | (with_reducible exact laws_toTrie.mono _ _)
   | (with_reducible exact spec_GameLength.mono _ _ _ _)
   | (with_reducible exact LeO.refl _)
   | (with_reducible exact LeO.none _)
   | (with_reducible refine LeO.ite ?_ ?_)
   | (with_reducible refine LeO.bind ?_ (fun _ => ?_))
   | exact ih0 _ _ _
   | exact impl_GameLength.mono _ _ _ _
   | exact laws_eqTrie.mono _ _ _
   | exact laws_toTrie.mono _ _
   | exact spec_GameLength.mono _ _ _ _
   | exact LeO.none _
   | refine LeO.ite ?_ ?_
   | refine LeO.bind ?_ (fun _ => ?_)
theorem laws_FnExactGameLength.mono : ∀ a0 a1 a2 k, LeO (laws_FnExactGameLength.f k a0 a1 a2) (laws_FnExactGameLength.f (k + 1) a0 a1 a2) := by
 intro a0 a1 a2 k
 have ih0 := laws_FnExactGameLength.mono_l k
 unfold laws_FnExactGameLength.f
 repeat' first
   | (with_reducible exact ih0 _ _ _)
   | (with_reducible exact impl_GameLength.mono _ _ _ _)
   | (with_reducible exact laws_eqTrie.mono _ _ _)
   | (with_reducible exact laws_toTrie.mono _ _)
   | (with_reducible exact spec_GameLength.mono _ _ _ _)
   | (with_reducible exact LeO.refl _)
   | (with_reducible exact LeO.none _)
   | (with_reducible refine LeO.ite ?_ ?_)
   | (with_reducible refine LeO.bind ?_ (fun _ => ?_))
   | exact ih0 _ _ _
   | exact impl_GameLength.mono _ _ _ _
   | exact laws_eqTrie.mono _ _ _
   | exact laws_toTrie.mono _ _
   | exact spec_GameLength.mono _ _ _ _
   | exact LeO.none _
   | refine LeO.ite ?_ ?_
   | refine LeO.bind ?_ (fun _ => ?_)
set_option maxHeartbeats 8000000 in
set_option maxRecDepth 100000 in
theorem laws_FnExactGameLength.calls (k : Nat) (A0_0 : Option Addr) (c0_0 : Nat) (l0_0 : List (S80)) (a1 : Int) (a2 : Int) (r : Bool) (w : World) (hr0_0 : Kd.C k80 w A0_0 l0_0.length l0_0) (hc0_0 : l0_0.length ≤ c0_0) (h : laws_FnExactGameLength.f k l0_0 a1 a2 = some r) (hr_ : r = true) :
  Calls Try.prog 10 #[.agg #[.slice A0_0 l0_0.length c0_0], .int .i64 a1, .int .i64 a2] w fun e w' => e = .returned (.bool r) ∧ Below w.heap.size w w' := by
 have hu24 := Try.underlying24; have hu30 := Try.underlying30; have HR0_0 := Aside0.mk hr0_0; have HC0_0 := Aside0.mk hc0_0; clear hr0_0 hc0_0; have HB := Aside0.mk (Below.refl w.heap.size w); have HRT := Aside0.mk hr_; clear hr_
 have H : ((laws_szTrie.f l0_0 1048576).bind fun t439 => (if t439 < 0 then (some true) else ((laws_toTrie.f k l0_0).bind fun t440 => ((spec_GameLength.f k t440 a1 a2).bind fun bt443 => ((laws_toTrie.f k l0_0).bind fun t445 => ((impl_GameLength.f k t445 a1 a2).bind fun bt449 => (if bt449.1 = bt443.1 then (laws_FnExactGameLength.j0 k (bt449.2 != bt443.2) l0_0 t445) else (laws_FnExactGameLength.j0 k true l0_0 t445)))))))) = some r := h
 clear h; replace H := Option.bind_eq_some_iff.mp H
 obtain ⟨t439, A40, H⟩ := H
 replace H : (if t439 < 0 then (some true) else ((laws_toTrie.f k l0_0).bind fun t440 => ((spec_GameLength.f k t440 a1 a2).bind fun bt443 => ((laws_toTrie.f k l0_0).bind fun t445 => ((impl_GameLength.f k t445 a1 a2).bind fun bt449 => (if bt449.1 = bt443.1 then (laws_FnExactGameLength.j0 k (bt449.2 != bt443.2) l0_0 t445) else (laws_FnExactGameLength.j0 k true l0_0 t445))))))) = some r := H
 have A4 := Aside0.mk A40; clear A40
 by_cases c5 : t439 < 0
 ·rw [if_pos c5] at H
  have c5b0 : decide (t439 < 0) = true := decide_eq_true c5
  clear c5
  obtain rfl := Option.some.inj H
  go_enter Try.func10, Try.ntmps10
  go_wp2_with (first | ((with_reducible refine gate_dst (N := 3) rfl ?_); refine box_event ?hg (N := 3) ?hd (cs := #[.slice A0_0 l0_0.length c0_0]) (t := 24) ?hr ?_; (case hd => rfl); (case hg => rfl); (case hr => exact ax24); intro gb438 hg w6 hbox hb; have n0_ := Aside0.mk (below_step ax25 hb); have n1_ := Aside0.mk (hbox); have n2_ := Aside0.mk ((ax26 : w.heap.size ≤ gb438)); have n3_ := Aside0.mk ((ax26 : w.heap.size ≤ gb438)); clear HB; have HB := n0_; have BK438 := n1_; have GW438 := n2_; have GE438 := n3_; clear n0_ n1_ n2_ n3_; clear hb hbox hg; have hcz7_0 : w6.cell? ⟨gb438, 0, none⟩ = some (.slice A0_0 l0_0.length c0_0) := (blk_cell BK438.out 0).trans rfl; have hfz7_0 := blk_frozen BK438.out 0) | ((with_reducible refine gate_callee (f := 13) rfl ?_); refine goesL_ (some 15) rfl rfl Try.func13 (by kernel_rfl) rfl #[.agg #[.slice A0_0 l0_0.length c0_0], .int .i64 1048576] rfl ax27 ?_; (with_reducible refine (laws_szTrie.calls _ _ l0_0 1048576 t439 _ ?side1 ?side2 A4.out).mono ?_); (case side1 => exact ax28); (case side2 => exact ax29); rintro e w8 ⟨rfl, hb⟩; refine ⟨_, rfl, ?_⟩; have n0_ := Aside0.mk (blk_below (g := gb438) (o := .cells #[.slice A0_0 l0_0.length c0_0] 24 (0, 0)) ax232 hb); have n1_ := Aside0.mk (below_step ax233 hb); clear BK438; clear HB; have BK438 := n0_; have HB := n1_; clear n0_ n1_; (try clear hb); (try clear hb2); (try clear hk); (try clear hi)))
  go_ret
  exact ⟨by first | rfl | (simp [errW_none, errW_some] <;> rfl) | (simp [*, errW_none, errW_some] <;> rfl), by repeat (first | (with_reducible first | exact HB.out | apply below_alloc | apply pw_below_drewN | apply below_drew1 | refine below_set ?_ GE438.out) | exact HB.out)⟩
 ·rw [if_neg c5] at H
  have c5b0 : decide (t439 < 0) = false := decide_eq_false c5
  clear c5; replace H := Option.bind_eq_some_iff.mp H
  obtain ⟨t440, A90, H⟩ := H
  replace H : ((spec_GameLength.f k t440 a1 a2).bind fun bt443 => ((laws_toTrie.f k l0_0).bind fun t445 => ((impl_GameLength.f k t445 a1 a2).bind fun bt449 => (if bt449.1 = bt443.1 then (laws_FnExactGameLength.j0 k (bt449.2 != bt443.2) l0_0 t445) else (laws_FnExactGameLength.j0 k true l0_0 t445))))) = some r := H
  have A9 := Aside0.mk A90; clear A90; replace H := Option.bind_eq_some_iff.mp H
  obtain ⟨⟨t443, t444⟩, A100, H⟩ := H
  replace H : ((laws_toTrie.f k l0_0).bind fun t445 => ((impl_GameLength.f k t445 a1 a2).bind fun bt449 => (if bt449.1 = t443 then (laws_FnExactGameLength.j0 k (bt449.2 != t444) l0_0 t445) else (laws_FnExactGameLength.j0 k true l0_0 t445)))) = some r := H
  have A10 := Aside0.mk A100; clear A100; replace H := Option.bind_eq_some_iff.mp H
  obtain ⟨t445, A110, H⟩ := H
  replace H : ((impl_GameLength.f k t445 a1 a2).bind fun bt449 => (if bt449.1 = t443 then (laws_FnExactGameLength.j0 k (bt449.2 != t444) l0_0 t445) else (laws_FnExactGameLength.j0 k true l0_0 t445))) = some r := H
  have A11 := Aside0.mk A110; clear A110; replace H := Option.bind_eq_some_iff.mp H
  obtain ⟨⟨t449, t450⟩, A120, H⟩ := H
  replace H : (if t449 = t443 then (laws_FnExactGameLength.j0 k (t450 != t444) l0_0 t445) else (laws_FnExactGameLength.j0 k true l0_0 t445)) = some r := H
  have A12 := Aside0.mk A120; clear A120; have HC13 := Aside0.mk H; clear H
  go_enter Try.func10, Try.ntmps10
  go_upto_region 8 with (first | ((with_reducible refine gate_dst (N := 3) rfl ?_); refine box_event ?hg (N := 3) ?hd (cs := #[.slice A0_0 l0_0.length c0_0]) (t := 24) ?hr ?_; (case hd => rfl); (case hg => rfl); (case hr => exact ax24); intro gb438 hg w14 hbox hb; have n0_ := Aside0.mk (below_step ax25 hb); have n1_ := Aside0.mk (hbox); have n2_ := Aside0.mk ((ax26 : w.heap.size ≤ gb438)); have n3_ := Aside0.mk ((ax26 : w.heap.size ≤ gb438)); clear HB; have HB := n0_; have BK438 := n1_; have GW438 := n2_; have GE438 := n3_; clear n0_ n1_ n2_ n3_; clear hb hbox hg; have hcz15_0 : w14.cell? ⟨gb438, 0, none⟩ = some (.slice A0_0 l0_0.length c0_0) := (blk_cell BK438.out 0).trans rfl; have hfz15_0 := blk_frozen BK438.out 0) | ((with_reducible refine gate_callee (f := 13) rfl ?_); refine goesL_ (some 15) rfl rfl Try.func13 (by kernel_rfl) rfl #[.agg #[.slice A0_0 l0_0.length c0_0], .int .i64 1048576] rfl ax27 ?_; (with_reducible refine (laws_szTrie.calls _ _ l0_0 1048576 t439 _ ?side1 ?side2 A4.out).mono ?_); (case side1 => exact ax28); (case side2 => exact ax29); rintro e w16 ⟨rfl, hb⟩; refine ⟨_, rfl, ?_⟩; have n0_ := Aside0.mk (blk_below (g := gb438) (o := .cells #[.slice A0_0 l0_0.length c0_0] 24 (0, 0)) ax232 hb); have n1_ := Aside0.mk (below_step ax233 hb); clear BK438; clear HB; have BK438 := n0_; have HB := n1_; clear n0_ n1_; (try clear hb); (try clear hb2); (try clear hk); (try clear hi); have hcz17_0 : w16.cell? ⟨gb438, 0, none⟩ = some (.slice A0_0 l0_0.length c0_0) := (blk_cell BK438.out 0).trans rfl; have hfz17_0 := blk_frozen BK438.out 0) | ((with_reducible refine gate_callee (f := 15) rfl ?_); refine goesL_ (some 20) rfl rfl Try.func15 (by kernel_rfl) rfl #[.agg #[.slice A0_0 l0_0.length c0_0]] rfl ax27 ?_; (with_reducible refine (laws_toTrie.calls k _ _ l0_0 t440 _ ?side1 ?side2 A9.out).mono ?_); (case side1 => exact ax28); (case side2 => exact ax29); rintro e w18 ⟨v441, rfl, ho0, hb⟩; refine ⟨_, rfl, ?_⟩; have n0_ := Aside0.mk (Kd.R_lower ho0 (below_size ax233)); have n1_ := Aside0.mk (blk_below (g := gb438) (o := .cells #[.slice A0_0 l0_0.length c0_0] 24 (0, 0)) ax232 hb); have n2_ := Aside0.mk (below_step ax233 hb); clear BK438; clear HB; have HO442 := n0_; have BK438 := n1_; have HB := n2_; clear n0_ n1_ n2_; (try clear hb); (try clear hb2); (try clear hk); (try clear hi); (try clear ho0); obtain ⟨Ao19, co19, eo19⟩ := Kd.R_slice HO442.out; subst eo19) | ((with_reducible refine gate_callee (f := 34) rfl ?_); refine goesL_ (some 23) rfl rfl Try.func34 (by kernel_rfl) rfl #[.agg #[.slice Ao19 t440.length co19], .int .i64 a1, .int .i64 a2] rfl ax27 ?_; (with_reducible refine (spec_GameLength.calls k _ _ t440 a1 a2 t443 t444 _ ?side1 ?side2 A10.out).mono ?_); (case side1 => repeat (first | exact (Kd.R_reads' HO442.out).2.2 | (with_reducible refine Kd.C_alloc ?_ _) | (with_reducible refine Kd.C_drewN ?_ _) | (with_reducible refine Kd.C_drew ?_))); (case side2 => exact (Kd.R_reads' HO442.out).2.1); rintro e w20 ⟨rfl, hb⟩; refine ⟨_, rfl, ?_⟩; have n0_ := Aside0.mk (Kd.R_below ax234 hb); have n1_ := Aside0.mk (blk_below (g := gb438) (o := .cells #[.slice A0_0 l0_0.length c0_0] 24 (0, 0)) ax232 hb); have n2_ := Aside0.mk (below_step ax233 hb); clear HO442; clear BK438; clear HB; have HO442 := n0_; have BK438 := n1_; have HB := n2_; clear n0_ n1_ n2_; (try clear hb); (try clear hb2); (try clear hk); (try clear hi); have hcz21_0 : w20.cell? ⟨gb438, 0, none⟩ = some (.slice A0_0 l0_0.length c0_0) := (blk_cell BK438.out 0).trans rfl; have hfz21_0 := blk_frozen BK438.out 0) | ((with_reducible refine gate_callee (f := 15) rfl ?_); refine goesL_ (some 27) rfl rfl Try.func15 (by kernel_rfl) rfl #[.agg #[.slice A0_0 l0_0.length c0_0]] rfl ax27 ?_; (with_reducible refine (laws_toTrie.calls k _ _ l0_0 t445 _ ?side1 ?side2 A11.out).mono ?_); (case side1 => exact ax28); (case side2 => exact ax29); rintro e w22 ⟨v446, rfl, ho0, hb⟩; refine ⟨_, rfl, ?_⟩; have n0_ := Aside0.mk (Kd.R_elder' ax234 (Kd.R_base ho0) hb); have n1_ := Aside0.mk (Kd.R_lower (Kd.R_new' ho0 (Kd.R_lt ax234)) (below_size ax233)); have n2_ := Aside0.mk (blk_below (g := gb438) (o := .cells #[.slice A0_0 l0_0.length c0_0] 24 (0, 0)) ax232 hb); have n3_ := Aside0.mk (below_step ax233 hb); clear HO442; clear BK438; clear HB; have HO442 := n0_; have HO447 := n1_; have BK438 := n2_; have HB := n3_; clear n0_ n1_ n2_ n3_; (try clear hb); (try clear hb2); (try clear hk); (try clear hi); (try clear ho0)) | ((with_reducible refine gate_dst (N := 10) rfl ?_); refine box_event ?hg (N := 10) ?hd (cs := #[.slice none 0 0]) (t := 30) ?hr ?_; (case hd => rfl); (case hg => rfl); (case hr => exact ax24); intro gb448 hg w23 hbox hb; have n0_ := Aside0.mk (Kd.R_below ax234 hb); have n1_ := Aside0.mk (Kd.R_below (by (with_reducible repeat (first | apply Kd.R_alloc | apply Kd.R_drewN | apply Kd.R_drew)); exact HO447.out) hb); have n2_ := Aside0.mk (blk_below (g := gb438) (o := .cells #[.slice A0_0 l0_0.length c0_0] 24 (0, 0)) ax232 hb); have n3_ := Aside0.mk (below_step ax233 hb); have n4_ := Aside0.mk (hbox); have n5_ := Aside0.mk ((ax235 : w.heap.size ≤ gb448)); have n6_ := Aside0.mk ((ax235 : w.heap.size ≤ gb448)); have n7_ := Aside0.mk ((by rw [hg]; exact Nat.ne_of_lt (blk_lt (g := gb438) (o := .cells #[.slice A0_0 l0_0.length c0_0] 24 (0, 0)) ax232) : gb438 ≠ gb448)); have n8_ := Aside0.mk ((by rw [hg]; exact Nat.ne_of_gt (blk_lt (g := gb438) (o := .cells #[.slice A0_0 l0_0.length c0_0] 24 (0, 0)) ax232) : gb448 ≠ gb438)); clear HO442; clear HO447; clear BK438; clear HB; have HO442 := n0_; have HO447 := n1_; have BK438 := n2_; have HB := n3_; have BK448 := n4_; have GW448 := n5_; have GE448 := n6_; have NB438_448 := n7_; have NB448_438 := n8_; clear n0_ n1_ n2_ n3_ n4_ n5_ n6_ n7_ n8_; clear hb hbox hg; obtain ⟨Ao24, co24, eo24⟩ := Kd.R_slice HO447.out; subst eo24; have hnb25 := NB448_438.out; have hnc25 := NB438_448.out; have hcz26_0 : w23.cell? ⟨gb448, 0, none⟩ = some (.slice none 0 0) := (blk_cell BK448.out 0).trans rfl; have hfz26_0 := blk_frozen BK448.out 0) | ((with_reducible refine gate_callee (f := 35) rfl ?_); refine goesL_ (some 32) rfl rfl Try.func35 (by kernel_rfl) rfl #[.agg #[.slice Ao24 t445.length co24], .int .i64 a1, .int .i64 a2] rfl ax27 ?_; (with_reducible refine (impl_GameLength.calls k _ _ t445 a1 a2 t449 t450 _ ?side1 ?side2 A12.out).mono ?_); (case side1 => refine (Kd.R_reads' (e := 67) (base := w.heap.size) (ok := fun k_ => (True ∧ some k_ ≠ (.slice Ao19 t440.length co19 : Value).ownBlock)) (n := t445.length) (c := co24) ?_).2.2; exact ax236); (case side2 => exact (Kd.R_reads' HO447.out).2.1); rintro e w27 ⟨rfl, hb⟩; refine ⟨_, rfl, ?_⟩; have n0_ := Aside0.mk (Kd.R_below (by (with_reducible repeat (first | apply Kd.R_alloc | apply Kd.R_drewN | apply Kd.R_drew)); exact (Kd.R_mono (Kd.R_far (p := ⟨gb448, 0, none⟩) (Kd.R_types HO442.out BK448.out (by decide)) (fun _ hk => hk.2) (.slice Ao24 t445.length co24)) (fun _ h_ => h_.1))) hb); have n1_ := Aside0.mk (Kd.R_below ax236 hb); have n2_ := Aside0.mk (blk_below (g := gb438) (o := .cells #[.slice A0_0 l0_0.length c0_0] 24 (0, 0)) (by (with_reducible repeat (first | refine blk_drewN ?_ _ | refine blk_drew ?_ | refine blk_alloc ?_ _)); refine blk_far ?_ NB438_448.out _; (with_reducible repeat (first | refine blk_drewN ?_ _ | refine blk_drew ?_ | refine blk_alloc ?_ _)); exact BK438.out) hb); have n3_ := Aside0.mk (blk_below (g := gb448) (o := .cells #[.slice Ao24 t445.length co24] 30 (0, 0)) (by (with_reducible repeat (first | refine blk_drewN ?_ _ | refine blk_drew ?_ | refine blk_alloc ?_ _)); refine blk_put (cs := #[.slice none 0 0]) ?_ 0 _ rfl; (with_reducible repeat (first | refine blk_drewN ?_ _ | refine blk_drew ?_ | refine blk_alloc ?_ _)); exact BK448.out) hb); have n4_ := Aside0.mk (below_step ax237 hb); clear HO442; clear HO447; clear BK438; clear BK448; clear HB; have HO442 := n0_; have HO447 := n1_; have BK438 := n2_; have BK448 := n3_; have HB := n4_; clear n0_ n1_ n2_ n3_ n4_; (try clear hb); (try clear hb2); (try clear hk); (try clear hi)))
  (try simp only [Act.put, List.setIfInBounds_toArray, List.set_cons_zero, List.set_cons_succ])
  go_cut [42] (fun v42 wc => ∃ (kq : Nat) (x42_12 : Bool), v42 = .bool x42_12 ∧ Aside0 (laws_FnExactGameLength.j0 kq x42_12 l0_0 t445 = some r) ∧ Aside0 (kq ≤ k) ∧ Aside0 (Kd.R k67 67 wc w.heap.size (fun _ => True) (.slice Ao24 t445.length co24) t445) ∧ Aside0 (wc.heap[gb438]? = some (.cells #[(.slice A0_0 l0_0.length c0_0)] 24 (0, 0))) ∧ Aside0 (wc.heap[gb448]? = some (.cells #[(.slice Ao24 t445.length co24)] 30 (0, 0))) ∧ Aside0 (Below w.heap.size w wc))
  case first =>
   have H := HC13.out; clear HC13
   by_cases c28 : t449 = t443
   ·rw [if_pos c28] at H
    have c28b0 : (t449 == t443) = true := beq_iff_eq.mpr c28
    have c28b1 : (t449 != t443) = false := bne_eq_false_iff_eq.mpr c28
    clear c28
    (first | rw [c28b0] | (simp only [i64_w, i32_w]; rw [c28b0]) | skip)
    have H' := Aside0.mk H
    clear H
    go_wp2
    go_meet
    case rel => exact ⟨_, ((t450 != t444)), ax39, H', ⟨by first | omega | exact Nat.le_refl _⟩, ⟨by (with_reducible repeat (first | apply Kd.R_alloc | apply Kd.R_drewN | apply Kd.R_drew)); exact Kd.R_mono HO447.out (fun _ hk => trivial)⟩, ⟨by (with_reducible repeat (first | refine blk_drewN ?_ _ | refine blk_drew ?_ | refine blk_alloc ?_ _)); exact BK438.out⟩, ⟨by (with_reducible repeat (first | refine blk_drewN ?_ _ | refine blk_drew ?_ | refine blk_alloc ?_ _)); exact BK448.out⟩, ⟨by repeat (first | (with_reducible first | exact HB.out | apply below_alloc | apply pw_below_drewN | apply below_drew1 | refine below_set ?_ GE438.out | refine below_set ?_ GE448.out) | exact HB.out)⟩⟩
   ·rw [if_neg c28] at H
    have c28b0 : (t449 == t443) = false := beq_eq_false_iff_ne.mpr c28
    have c28b1 : (t449 != t443) = true := bne_iff_ne.mpr c28
    (first | rw [c28b0] | (simp only [i64_w, i32_w]; rw [c28b0]) | skip)
    have H' := Aside0.mk H
    clear H
    go_wp2
    go_meet
    case rel => exact ⟨_, (true), ax39, H', ⟨by first | omega | exact Nat.le_refl _⟩, ⟨by (with_reducible repeat (first | apply Kd.R_alloc | apply Kd.R_drewN | apply Kd.R_drew)); exact Kd.R_mono HO447.out (fun _ hk => trivial)⟩, ⟨by (with_reducible repeat (first | refine blk_drewN ?_ _ | refine blk_drew ?_ | refine blk_alloc ?_ _)); exact BK438.out⟩, ⟨by (with_reducible repeat (first | refine blk_drewN ?_ _ | refine blk_drew ?_ | refine blk_alloc ?_ _)); exact BK448.out⟩, ⟨by repeat (first | (with_reducible first | exact HB.out | apply below_alloc | apply pw_below_drewN | apply below_drew1 | refine below_set ?_ GE438.out | refine below_set ?_ GE448.out) | exact HB.out)⟩⟩
  case rest =>
   clear HC13
   try clear c1
   try clear c2
   try clear p2
   try clear c3
   try clear c5
   try clear c5b0
   try clear c10
   try clear c13
   try clear c15
   try clear c25
   try clear c28
   try clear c28b0
   try clear c28b1
   try clear hcz15_0
   try clear hcz17_0
   try clear hcz21_0
   try clear hcz26_0
   try clear hcz7_0
   try clear hfz15_0
   try clear hfz17_0
   try clear hfz21_0
   try clear hfz26_0
   try clear hfz7_0
   obtain ⟨kq, x42_12, rfl, HA, HJ12, HO_449000, BK438, BK448, HB⟩ := hcut
   cases kq with
   | zero => exact absurd HA.out (by simp [laws_FnExactGameLength.j0])
   | succ kj12 =>
    have H := HA.out; clear HA
    simp only [laws_FnExactGameLength.j0] at H
    by_cases c29 : x42_12 = true
    ·subst c29
     have H1 : (some false) = some r := by rw [if_pos rfl] at H; exact H
     clear H; have H := H1; clear H1
     exact absurd ((Option.some.inj H).trans HRT.out) (by decide)
    ·replace c29 := Bool.eq_false_iff.mpr c29
     subst c29
     have H1 : ((laws_toTrie.f kj12 l0_0).bind fun t451 => ((laws_eqTrie.f kj12 t445 t451).bind fun t454 => (if t454 = true then (some true) else (some false)))) = some r := by rw [if_neg (show ¬ (false = true) by decide)] at H; exact H
     clear H; have H := H1; clear H1; replace H := Option.bind_eq_some_iff.mp H
     obtain ⟨t451, A300, H⟩ := H
     replace H : ((laws_eqTrie.f kj12 t445 t451).bind fun t454 => (if t454 = true then (some true) else (some false))) = some r := H
     have A30 := Aside0.mk A300; clear A300; replace H := Option.bind_eq_some_iff.mp H
     obtain ⟨t454, A310, H⟩ := H
     replace H : (if t454 = true then (some true) else (some false)) = some r := H
     have A31 := Aside0.mk A310; clear A310
     by_cases c32 : t454 = true
     ·subst c32
      have H1 : (some true) = some r := by rw [if_pos rfl] at H; exact H
      clear H; have H := H1; clear H1
      obtain rfl := Option.some.inj H
      try go_wp2
      have n0_ := Aside0.mk (Kd.R_drew HO_449000.out); have n1_ := Aside0.mk (blk_drew BK438.out); have n2_ := Aside0.mk (blk_drew BK448.out); have n3_ := Aside0.mk (below_drew1 HB.out); clear HO_449000; clear BK438; clear BK448; clear HB; have HO_449000 := n0_; have BK438 := n1_; have BK448 := n2_; have HB := n3_; clear n0_ n1_ n2_ n3_
      refine start_ (n := 5) (S := fun w' => w'.cell? ⟨gb448, 0, none⟩ = some (.slice Ao24 t445.length co24) ∧ w'.cell? ⟨gb438, 0, none⟩ = some (.slice A0_0 l0_0.length c0_0)) (ds := []) #[false, false, false, false, false] (by kernel_rfl) rfl rfl ⟨(blk_cell BK448.out 0).trans rfl, (blk_cell BK438.out 0).trans rfl⟩ (fun hHeld => ?_)
      generalize wc.drew = w33 at HO_449000 BK438 BK448 HB hHeld ⊢
      refine take_ (i := 0) (N := some 43) (v := ?_) (a' := ?_) #[true, false, false, false, false] rfl rfl (by kernel_rfl) (fun _ _ _ h => h) (Or.inl ⟨by rfl, ?_⟩) hHeld ?_ ?_; rotate_left; exact ax14; rotate_left; exact ax4
      refine take_ (i := 1) (N := some 44) (v := ?_) (a' := ?_) #[true, true, false, false, false] rfl rfl (by kernel_rfl) (fun _ _ _ h => h) (Or.inl ⟨by rfl, ?_⟩) hHeld ?_ ?_; rotate_left; exact ax14; rotate_left; exact ax4
      refine one_ (i := 2) (N := some 45) #[true, true, true, false, false] rfl rfl (by kernel_rfl) (by decide) (fun K hK => ?_)
      refine goes_ Try.func15 (by kernel_rfl) rfl #[.agg #[.slice A0_0 l0_0.length c0_0]] (by rfl) rfl rfl ax27 ?_
      with_reducible refine (laws_toTrie.calls kj12 _ _ l0_0 t451 _ ?side1 ?side2 A30.out).mono ?_
      (case side1 => exact ax28)
      (case side2 => exact ax29)
      rintro e w34 ⟨v452, rfl, ho0, hb⟩
      refine ⟨_, rfl, ?_⟩
      have n0_ := Aside0.mk (Kd.R_elder' ax238 (Kd.R_base ho0) hb); have n1_ := Aside0.mk (Kd.R_lower (Kd.R_new' ho0 (Kd.R_lt ax238)) (below_size ax237))
      have n2_ := Aside0.mk (blk_below (g := gb438) (o := .cells #[.slice A0_0 l0_0.length c0_0] 24 (0, 0)) ax232 hb)
      have n3_ := Aside0.mk (blk_below (g := gb448) (o := .cells #[.slice Ao24 t445.length co24] 30 (0, 0)) ax239 hb)
      have n4_ := Aside0.mk (below_step ax237 hb); clear HO_449000; clear BK438; clear BK448; clear HB; have HO_449000 := n0_; have HO453 := n1_; have BK438 := n2_; have BK448 := n3_; have HB := n4_; clear n0_ n1_ n2_ n3_ n4_; (try clear hb); (try clear hb2); (try clear hk); (try clear hi); (try clear ho0)
      obtain ⟨Ao35, co35, eo35⟩ := Kd.R_slice HO453.out
      (first | subst eo35 | (injection eo35 with f1_ f2_ f3_; have f4_ := f1_.symm; have f5_ := f3_.symm; clear f1_ f2_ f3_; subst f4_; subst f5_))
      refine hK.out _ _ ⟨(blk_cell BK448.out 0).trans rfl, (blk_cell BK438.out 0).trans rfl⟩ (fun hHeld => ?_)
      clear hK K
      refine norm_ (a' := ?_) ?_ ?_
      rotate_left
      ·show Act.put _ (some 45) _ = _
       simp only [Act.put, List.setIfInBounds_toArray, List.set_cons_zero, List.set_cons_succ, i64_w, i32_w]
       rfl
      refine one_ (i := 3) (N := some 46) #[true, true, true, true, false] rfl rfl (by kernel_rfl) (by decide) (fun K hK => ?_)
      refine goes_ Try.func17 (by kernel_rfl) rfl #[.agg #[.slice Ao24 t445.length co24], .agg #[.slice Ao35 t451.length co35]] (by rfl) rfl rfl ax27 ?_
      with_reducible refine (laws_eqTrie.calls kj12 _ _ t445 _ _ t451 true _ ?side1 ?side2 ?side3 ?side4 A31.out).mono ?_
      (case side1 => repeat (first | exact (Kd.R_reads' HO_449000.out).2.2 | (with_reducible refine Kd.C_alloc ?_ _) | (with_reducible refine Kd.C_drewN ?_ _) | (with_reducible refine Kd.C_drew ?_)))
      (case side2 => exact (Kd.R_reads' HO_449000.out).2.1)
      (case side3 => repeat (first | exact (Kd.R_reads' HO453.out).2.2 | (with_reducible refine Kd.C_alloc ?_ _) | (with_reducible refine Kd.C_drewN ?_ _) | (with_reducible refine Kd.C_drew ?_)))
      (case side4 => exact (Kd.R_reads' HO453.out).2.1)
      rintro e w36 ⟨rfl, hb⟩
      refine ⟨_, rfl, ?_⟩
      have n0_ := Aside0.mk (Kd.R_below ax238 hb)
      have n1_ := Aside0.mk (Kd.R_below (by (with_reducible repeat (first | apply Kd.R_alloc | apply Kd.R_drewN | apply Kd.R_drew)); exact HO453.out) hb)
      have n2_ := Aside0.mk (blk_below (g := gb438) (o := .cells #[.slice A0_0 l0_0.length c0_0] 24 (0, 0)) ax232 hb)
      have n3_ := Aside0.mk (blk_below (g := gb448) (o := .cells #[.slice Ao24 t445.length co24] 30 (0, 0)) ax239 hb)
      have n4_ := Aside0.mk (below_step ax237 hb); clear HO_449000; clear HO453; clear BK438; clear BK448; clear HB; have HO_449000 := n0_; have HO453 := n1_; have BK438 := n2_; have BK448 := n3_; have HB := n4_; clear n0_ n1_ n2_ n3_ n4_; (try clear hb); (try clear hb2); (try clear hk); (try clear hi)
      refine hK.out _ _ ⟨(blk_cell BK448.out 0).trans rfl, (blk_cell BK438.out 0).trans rfl⟩ (fun hHeld => ?_)
      clear hK K
      refine norm_ (a' := ?_) ?_ ?_
      rotate_left
      ·show Act.put _ (some 46) _ = _
       simp only [Act.put, List.setIfInBounds_toArray, List.set_cons_zero, List.set_cons_succ, i64_w, i32_w]
       rfl
      refine pure_ (i := 4) (N := some 47) (v := ?_) (a' := ?_) #[true, true, true, true, true] rfl rfl (by kernel_rfl) (fun _ _ _ h => h) (Or.inl ⟨by rfl, ?_⟩) ?_ ?_; rotate_left; exact ax3; rotate_left; exact ax4
      refine done_ (by kernel_rfl) ?_
      try go_wp2
      go_ret
      exact ⟨by first | rfl | (simp [errW_none, errW_some] <;> rfl) | (simp [*, errW_none, errW_some] <;> rfl), by repeat (first | (with_reducible first | exact HB.out | apply below_alloc | apply pw_below_drewN | apply below_drew1 | refine below_set ?_ GE438.out | refine below_set ?_ GE448.out) | exact HB.out)⟩
     ·replace c32 := Bool.eq_false_iff.mpr c32
      subst c32
      have H1 : (some false) = some r := by rw [if_neg (show ¬ (false = true) by decide)] at H; exact H
      clear H; have H := H1; clear H1
      exact absurd ((Option.some.inj H).trans HRT.out) (by decide)

end Go.Proofs.Ytcbjfflaamlpcaa.X

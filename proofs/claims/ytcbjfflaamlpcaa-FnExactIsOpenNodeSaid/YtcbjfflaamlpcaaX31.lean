-- By gen.py (the session's own program over the kit's printer): functions of the program, each with its contract. Lean checks it.
import Derived.Test.YtcbjfflaamlpcaaX0
import Derived.Test.YtcbjfflaamlpcaaX2
import Derived.Test.YtcbjfflaamlpcaaX7
import Derived.Test.YtcbjfflaamlpcaaX8
import Derived.Test.YtcbjfflaamlpcaaX13
import Derived.Test.YtcbjfflaamlpcaaX14
namespace Go.Proofs.Ytcbjfflaamlpcaa.X
open Go.RowKit Go.Proofs.YtcbjfflaamlpcaaW.PrintWords Go.Proofs.YtcbjfflaamlpcaaW.PrintLast Go.Proofs.YtcbjfflaamlpcaaW.PrintMore
attribute [local go_sem] max2_int min2_int max_two min_two max_three min_three max_four min_four   -- for this text's walks alone
set_option linter.unusedVariables false
set_option linter.unusedSimpArgs false

/-! ### spec_IsOpenNode: function 14 -/
def spec_IsOpenNode.f (k : Nat) (l0_0 : List (S67)) (a1 : Int) (a2 : Int) : Option (Bool × Bool) := (spec_l11Good.f k l0_0 a1 a2).bind fun t239 => (if t239 = true then ((spec_l11Open.f k l0_0 a1 a2).bind fun t240 => (some (t240, true))) else (some (false, false)))
theorem spec_IsOpenNode.mono : ∀ a0 a1 a2 k, LeO (spec_IsOpenNode.f k a0 a1 a2) (spec_IsOpenNode.f (k + 1) a0 a1 a2) := by
 intro a0 a1 a2 k
 unfold spec_IsOpenNode.f
 repeat' first
   | (with_reducible exact spec_l11Good.mono _ _ _ _)
   | (with_reducible exact spec_l11Open.mono _ _ _ _)
   | (with_reducible exact LeO.refl _)
   | (with_reducible exact LeO.none _)
   | (with_reducible refine LeO.ite ?_ ?_)
   | (with_reducible refine LeO.bind ?_ (fun _ => ?_))
   | exact spec_l11Good.mono _ _ _ _
   | exact spec_l11Open.mono _ _ _ _
   | exact LeO.none _
   | refine LeO.ite ?_ ?_
   | refine LeO.bind ?_ (fun _ => ?_)
set_option maxHeartbeats 8000000 in
set_option maxRecDepth 100000 in
theorem spec_IsOpenNode.calls (k : Nat) (A0_0 : Option Addr) (c0_0 : Nat) (l0_0 : List (S67)) (a1 : Int) (a2 : Int) (r1 : Bool) (r2 : Bool) (w : World) (hr0_0 : Kd.C k67 w A0_0 l0_0.length l0_0) (hc0_0 : l0_0.length ≤ c0_0) (h : spec_IsOpenNode.f k l0_0 a1 a2 = some (r1, r2)) :
  Calls Try.prog 14 #[.agg #[.slice A0_0 l0_0.length c0_0], .int .i64 a1, .int .i64 a2] w fun e w' => e = .returned (.tuple #[.bool r1, .bool r2]) ∧ Below w.heap.size w w' := by
 have hu30 := Try.underlying30; have HR0_0 := Aside0.mk hr0_0; have HC0_0 := Aside0.mk hc0_0; clear hr0_0 hc0_0; have HB := Aside0.mk (Below.refl w.heap.size w)
 have H : ((spec_l11Good.f k l0_0 a1 a2).bind fun t239 => (if t239 = true then ((spec_l11Open.f k l0_0 a1 a2).bind fun t240 => (some (t240, true))) else (some (false, false)))) = some (r1, r2) := h
 clear h; replace H := Option.bind_eq_some_iff.mp H
 obtain ⟨t239, A40, H⟩ := H
 replace H : (if t239 = true then ((spec_l11Open.f k l0_0 a1 a2).bind fun t240 => (some (t240, true))) else (some (false, false))) = some (r1, r2) := H
 have A4 := Aside0.mk A40; clear A40
 by_cases c5 : t239 = true
 ·subst c5
  have H1 : ((spec_l11Open.f k l0_0 a1 a2).bind fun t240 => (some (t240, true))) = some (r1, r2) := by rw [if_pos rfl] at H; exact H
  clear H; have H := H1; clear H1; replace H := Option.bind_eq_some_iff.mp H
  obtain ⟨t240, A60, H⟩ := H
  replace H : (some (t240, true)) = some (r1, r2) := H
  have A6 := Aside0.mk A60; clear A60
  simp only [Option.some.injEq, Prod.mk.injEq] at H
  obtain ⟨rfl, rfl⟩ := H
  go_enter Try.func14, Try.ntmps14
  go_wp2_with (first | ((with_reducible refine gate_dst (N := 3) rfl ?_); refine box_event ?hg (N := 3) ?hd (cs := #[.slice A0_0 l0_0.length c0_0]) (t := 30) ?hr ?_; (case hd => rfl); (case hg => rfl); (case hr => exact ax31); intro gb238 hg w7 hbox hb; have n0_ := Aside0.mk (below_step ax32 hb); have n1_ := Aside0.mk (hbox); have n2_ := Aside0.mk ((ax33 : w.heap.size ≤ gb238)); have n3_ := Aside0.mk ((ax33 : w.heap.size ≤ gb238)); clear HB; have HB := n0_; have BK238 := n1_; have GW238 := n2_; have GE238 := n3_; clear n0_ n1_ n2_ n3_; clear hb hbox hg; have hcz8_0 : w7.cell? ⟨gb238, 0, none⟩ = some (.slice A0_0 l0_0.length c0_0) := (blk_cell BK238.out 0).trans rfl; have hfz8_0 := blk_frozen BK238.out 0) | ((with_reducible refine gate_callee (f := 41) rfl ?_); refine goesL_ (some 11) rfl rfl Try.func41 (by kernel_rfl) rfl #[.agg #[.slice A0_0 l0_0.length c0_0], .int .i64 a1, .int .i64 a2] rfl ax34 ?_; (with_reducible refine (spec_l11Good.calls k _ _ l0_0 a1 a2 true _ ?side1 ?side2 A4.out).mono ?_); (case side1 => exact ax35); (case side2 => exact ax36); rintro e w9 ⟨rfl, hb⟩; refine ⟨_, rfl, ?_⟩; have n0_ := Aside0.mk (blk_below (g := gb238) (o := .cells #[.slice A0_0 l0_0.length c0_0] 30 (0, 0)) ax342 hb); have n1_ := Aside0.mk (below_step ax343 hb); clear BK238; clear HB; have BK238 := n0_; have HB := n1_; clear n0_ n1_; (try clear hb); (try clear hb2); (try clear hk); (try clear hi); have hcz10_0 : w9.cell? ⟨gb238, 0, none⟩ = some (.slice A0_0 l0_0.length c0_0) := (blk_cell BK238.out 0).trans rfl; have hfz10_0 := blk_frozen BK238.out 0) | ((with_reducible refine gate_callee (f := 42) rfl ?_); refine goesL_ (some 16) rfl rfl Try.func42 (by kernel_rfl) rfl #[.agg #[.slice A0_0 l0_0.length c0_0], .int .i64 a1, .int .i64 a2] rfl ax34 ?_; (with_reducible refine (spec_l11Open.calls k _ _ l0_0 a1 a2 t240 _ ?side1 ?side2 A6.out).mono ?_); (case side1 => exact ax35); (case side2 => exact ax36); rintro e w11 ⟨rfl, hb⟩; refine ⟨_, rfl, ?_⟩; have n0_ := Aside0.mk (blk_below (g := gb238) (o := .cells #[.slice A0_0 l0_0.length c0_0] 30 (0, 0)) ax342 hb); have n1_ := Aside0.mk (below_step ax343 hb); clear BK238; clear HB; have BK238 := n0_; have HB := n1_; clear n0_ n1_; (try clear hb); (try clear hb2); (try clear hk); (try clear hi)))
  go_ret2
  exact ⟨by first | rfl | (simp [errW_none, errW_some] <;> rfl) | (simp [*, errW_none, errW_some] <;> rfl), by repeat (first | (with_reducible first | exact HB.out | apply below_alloc | apply pw_below_drewN | apply below_drew1 | refine below_set ?_ GE238.out) | exact HB.out)⟩
 ·replace c5 := Bool.eq_false_iff.mpr c5
  subst c5
  have H1 : (some (false, false)) = some (r1, r2) := by rw [if_neg (show ¬ (false = true) by decide)] at H; exact H
  clear H; have H := H1; clear H1
  simp only [Option.some.injEq, Prod.mk.injEq] at H
  obtain ⟨rfl, rfl⟩ := H
  go_enter Try.func14, Try.ntmps14
  go_wp2_with (first | ((with_reducible refine gate_dst (N := 3) rfl ?_); refine box_event ?hg (N := 3) ?hd (cs := #[.slice A0_0 l0_0.length c0_0]) (t := 30) ?hr ?_; (case hd => rfl); (case hg => rfl); (case hr => exact ax31); intro gb238 hg w12 hbox hb; have n0_ := Aside0.mk (below_step ax32 hb); have n1_ := Aside0.mk (hbox); have n2_ := Aside0.mk ((ax33 : w.heap.size ≤ gb238)); have n3_ := Aside0.mk ((ax33 : w.heap.size ≤ gb238)); clear HB; have HB := n0_; have BK238 := n1_; have GW238 := n2_; have GE238 := n3_; clear n0_ n1_ n2_ n3_; clear hb hbox hg; have hcz13_0 : w12.cell? ⟨gb238, 0, none⟩ = some (.slice A0_0 l0_0.length c0_0) := (blk_cell BK238.out 0).trans rfl; have hfz13_0 := blk_frozen BK238.out 0) | ((with_reducible refine gate_callee (f := 41) rfl ?_); refine goesL_ (some 11) rfl rfl Try.func41 (by kernel_rfl) rfl #[.agg #[.slice A0_0 l0_0.length c0_0], .int .i64 a1, .int .i64 a2] rfl ax34 ?_; (with_reducible refine (spec_l11Good.calls k _ _ l0_0 a1 a2 false _ ?side1 ?side2 A4.out).mono ?_); (case side1 => exact ax35); (case side2 => exact ax36); rintro e w14 ⟨rfl, hb⟩; refine ⟨_, rfl, ?_⟩; have n0_ := Aside0.mk (blk_below (g := gb238) (o := .cells #[.slice A0_0 l0_0.length c0_0] 30 (0, 0)) ax342 hb); have n1_ := Aside0.mk (below_step ax343 hb); clear BK238; clear HB; have BK238 := n0_; have HB := n1_; clear n0_ n1_; (try clear hb); (try clear hb2); (try clear hk); (try clear hi)))
  go_ret2
  exact ⟨by first | rfl | (simp [errW_none, errW_some] <;> rfl) | (simp [*, errW_none, errW_some] <;> rfl), by repeat (first | (with_reducible first | exact HB.out | apply below_alloc | apply pw_below_drewN | apply below_drew1 | refine below_set ?_ GE238.out) | exact HB.out)⟩

/-! ### impl_IsOpenNode: function 16 -/
def impl_IsOpenNode.f (k : Nat) (l0_0 : List (S67)) (a1 : Int) (a2 : Int) : Option (Bool × Bool) := (impl_newGame.f k l0_0 a2).bind fun bt359 => (if bt359.1 = true then ((impl_in.f a1 0 (wrap64 ((l0_0.length : Int) - 1))).bind fun t365 => (if t365 = true then ((impl_game_isOpen.f k l0_0 bt359.2.1 bt359.2.2 a1).bind fun t366 => (some (t366, true))) else (some (false, false)))) else (some (false, false)))
theorem impl_IsOpenNode.mono : ∀ a0 a1 a2 k, LeO (impl_IsOpenNode.f k a0 a1 a2) (impl_IsOpenNode.f (k + 1) a0 a1 a2) := by
 intro a0 a1 a2 k
 unfold impl_IsOpenNode.f
 repeat' first
   | (with_reducible exact impl_game_isOpen.mono _ _ _ _ _)
   | (with_reducible exact impl_newGame.mono _ _ _)
   | (with_reducible exact LeO.refl _)
   | (with_reducible exact LeO.none _)
   | (with_reducible refine LeO.ite ?_ ?_)
   | (with_reducible refine LeO.bind ?_ (fun _ => ?_))
   | exact impl_game_isOpen.mono _ _ _ _ _
   | exact impl_newGame.mono _ _ _
   | exact LeO.none _
   | refine LeO.ite ?_ ?_
   | refine LeO.bind ?_ (fun _ => ?_)
set_option maxHeartbeats 8000000 in
set_option maxRecDepth 100000 in
theorem impl_IsOpenNode.calls (k : Nat) (A0_0 : Option Addr) (c0_0 : Nat) (l0_0 : List (S67)) (a1 : Int) (a2 : Int) (r1 : Bool) (r2 : Bool) (w : World) (hr0_0 : Kd.C k67 w A0_0 l0_0.length l0_0) (hc0_0 : l0_0.length ≤ c0_0) (h : impl_IsOpenNode.f k l0_0 a1 a2 = some (r1, r2)) :
  Calls Try.prog 16 #[.agg #[.slice A0_0 l0_0.length c0_0], .int .i64 a1, .int .i64 a2] w fun e w' => e = .returned (.tuple #[.bool r1, .bool r2]) ∧ Below w.heap.size w w' := by
 have hu30 := Try.underlying30; have HR0_0 := Aside0.mk hr0_0; have HC0_0 := Aside0.mk hc0_0; clear hr0_0 hc0_0; have HB := Aside0.mk (Below.refl w.heap.size w)
 have H : ((impl_newGame.f k l0_0 a2).bind fun bt359 => (if bt359.1 = true then ((impl_in.f a1 0 (wrap64 ((l0_0.length : Int) - 1))).bind fun t365 => (if t365 = true then ((impl_game_isOpen.f k l0_0 bt359.2.1 bt359.2.2 a1).bind fun t366 => (some (t366, true))) else (some (false, false)))) else (some (false, false)))) = some (r1, r2) := h
 clear h; replace H := Option.bind_eq_some_iff.mp H
 obtain ⟨⟨t359, t361, t362⟩, A40, H⟩ := H
 replace H : (if t359 = true then ((impl_in.f a1 0 (wrap64 ((l0_0.length : Int) - 1))).bind fun t365 => (if t365 = true then ((impl_game_isOpen.f k l0_0 t361 t362 a1).bind fun t366 => (some (t366, true))) else (some (false, false)))) else (some (false, false))) = some (r1, r2) := H
 have A4 := Aside0.mk A40; clear A40
 by_cases c5 : t359 = true
 ·subst c5
  have H1 : ((impl_in.f a1 0 (wrap64 ((l0_0.length : Int) - 1))).bind fun t365 => (if t365 = true then ((impl_game_isOpen.f k l0_0 t361 t362 a1).bind fun t366 => (some (t366, true))) else (some (false, false)))) = some (r1, r2) := by rw [if_pos rfl] at H; exact H
  clear H; have H := H1; clear H1; replace H := Option.bind_eq_some_iff.mp H
  obtain ⟨t365, A60, H⟩ := H
  replace H : (if t365 = true then ((impl_game_isOpen.f k l0_0 t361 t362 a1).bind fun t366 => (some (t366, true))) else (some (false, false))) = some (r1, r2) := H
  have A6 := Aside0.mk A60; clear A60
  by_cases c7 : t365 = true
  ·subst c7
   have H1 : ((impl_game_isOpen.f k l0_0 t361 t362 a1).bind fun t366 => (some (t366, true))) = some (r1, r2) := by rw [if_pos rfl] at H; exact H
   clear H; have H := H1; clear H1; replace H := Option.bind_eq_some_iff.mp H
   obtain ⟨t366, A80, H⟩ := H
   replace H : (some (t366, true)) = some (r1, r2) := H
   have A8 := Aside0.mk A80; clear A80
   simp only [Option.some.injEq, Prod.mk.injEq] at H
   obtain ⟨rfl, rfl⟩ := H
   go_enter Try.func16, Try.ntmps16
   go_wp2_with (first | ((with_reducible refine gate_dst (N := 3) rfl ?_); (try (refine gate_guard (by rfl) ?_; dsimp only)); refine box_event ?hg (N := 3) ?hd (cs := #[.slice A0_0 l0_0.length c0_0]) (t := 30) ?hr ?_; (case hd => rfl); (case hg => rfl); (case hr => exact ax31); intro gb358 hg w9 hbox hb; have n0_ := Aside0.mk (below_step ax32 hb); have n1_ := Aside0.mk (hbox); have n2_ := Aside0.mk ((ax33 : w.heap.size ≤ gb358)); have n3_ := Aside0.mk ((ax33 : w.heap.size ≤ gb358)); clear HB; have HB := n0_; have BK358 := n1_; have GW358 := n2_; have GE358 := n3_; clear n0_ n1_ n2_ n3_; clear hb hbox hg; have hcz10_0 : w9.cell? ⟨gb358, 0, none⟩ = some (.slice A0_0 l0_0.length c0_0) := (blk_cell BK358.out 0).trans rfl; have hfz10_0 := blk_frozen BK358.out 0) | ((with_reducible refine gate_callee (f := 44) rfl ?_); refine goesL_ (some 13) rfl rfl Try.func44 (by kernel_rfl) rfl #[.agg #[.slice A0_0 l0_0.length c0_0], .int .i64 a2] rfl ax34 ?_; (with_reducible refine (impl_newGame.calls k _ _ l0_0 a2 true t361 t362 _ ?side1 ?side2 A4.out).mono ?_); (case side1 => exact ax35); (case side2 => exact ax36); (rintro e w11 ⟨hb, hno_, hyes_⟩; obtain ⟨gb360, v363, rfl, hbox, hgb, ho0⟩ := hyes_ rfl; clear hno_); refine ⟨_, rfl, ?_⟩; have n0_ := Aside0.mk (Kd.R_lower ho0 (below_size ax344)); have n1_ := Aside0.mk (blk_below (g := gb358) (o := .cells #[.slice A0_0 l0_0.length c0_0] 30 (0, 0)) ax345 hb); have n2_ := Aside0.mk (below_step ax344 hb); have n3_ := Aside0.mk (hbox); have n4_ := Aside0.mk ((Nat.le_trans (below_size ax344) hgb : w.heap.size ≤ gb360)); have n5_ := Aside0.mk ((Nat.le_trans (below_size ax344) hgb : w.heap.size ≤ gb360)); have n6_ := Aside0.mk ((Nat.ne_of_lt (Nat.lt_of_lt_of_le (blk_lt (g := gb358) (o := .cells #[.slice A0_0 l0_0.length c0_0] 30 (0, 0)) ax345) hgb) : gb358 ≠ gb360)); have n7_ := Aside0.mk ((Nat.ne_of_gt (Nat.lt_of_lt_of_le (blk_lt (g := gb358) (o := .cells #[.slice A0_0 l0_0.length c0_0] 30 (0, 0)) ax345) hgb) : gb360 ≠ gb358)); clear BK358; clear HB; have HO364 := n0_; have BK358 := n1_; have HB := n2_; have BK360 := n3_; have GW360 := n4_; have GE360 := n5_; have NB358_360 := n6_; have NB360_358 := n7_; clear n0_ n1_ n2_ n3_ n4_ n5_ n6_ n7_; (try clear hb); (try clear hbox); (try clear hgb); (try clear ho0); have hnb12 := NB358_360.out; have hnc12 := NB360_358.out; have hcz13_0 : w11.cell? ⟨gb358, 0, none⟩ = some (.slice A0_0 l0_0.length c0_0) := (blk_cell BK358.out 0).trans rfl; have hfz13_0 := blk_frozen BK358.out 0) | (go_at_call 45; (with_reducible refine (impl_in.calls a1 0 (wrap64 ((l0_0.length : Int) - 1)) true _ A6.out).mono ?_); rintro e w' ⟨rfl, ⟨nd, rfl⟩⟩; obtain ⟨Ao14, co14, eo14⟩ := Kd.R_slice HO364.out; subst eo14) | ((with_reducible refine gate_callee (f := 46) rfl ?_); refine goesL_ (some 29) rfl rfl Try.func46 (by kernel_rfl) rfl #[.pointer (some ⟨gb360, 0, none⟩), .int .i64 a1] rfl ax34 ?_; (with_reducible refine (impl_game_isOpen.calls k gb360 A0_0 c0_0 l0_0 t361 Ao14 co14 t362 a1 t366 _ ?side1 ?side2 ?side3 ?side4 ?side5 A8.out).mono ?_); (case side1 => repeat (first | exact (Kd.C_below HR0_0.out ax346) | (with_reducible refine Kd.C_alloc ?_ _) | (with_reducible refine Kd.C_drewN ?_ _) | (with_reducible refine Kd.C_drew ?_))); (case side2 => exact ax36); (case side3 => repeat (first | exact (Kd.R_reads' HO364.out).2.2 | (with_reducible refine Kd.C_alloc ?_ _) | (with_reducible refine Kd.C_drewN ?_ _) | (with_reducible refine Kd.C_drew ?_))); (case side4 => exact (Kd.R_reads' HO364.out).2.1); (case side5 => exact ax347); rintro e w15 ⟨rfl, hb⟩; refine ⟨_, rfl, ?_⟩; have n0_ := Aside0.mk (Kd.R_below (by (with_reducible repeat (first | apply Kd.R_alloc | apply Kd.R_drewN | apply Kd.R_drew)); exact HO364.out) hb); have n1_ := Aside0.mk (blk_below (g := gb358) (o := .cells #[.slice A0_0 l0_0.length c0_0] 30 (0, 0)) ax345 hb); have n2_ := Aside0.mk (blk_below (g := gb360) (o := .cells #[.slice A0_0 l0_0.length c0_0, .int .i64 t361, .slice Ao14 t362.length co14] 69 (0, 0)) ax347 hb); have n3_ := Aside0.mk (below_step ax346 hb); clear HO364; clear BK358; clear BK360; clear HB; have HO364 := n0_; have BK358 := n1_; have BK360 := n2_; have HB := n3_; clear n0_ n1_ n2_ n3_; (try clear hb); (try clear hb2); (try clear hk); (try clear hi)))
   go_ret2
   exact ⟨by first | rfl | (simp [errW_none, errW_some] <;> rfl) | (simp [*, errW_none, errW_some] <;> rfl), by repeat (first | (with_reducible first | exact HB.out | apply below_alloc | apply pw_below_drewN | apply below_drew1 | refine below_set ?_ GE358.out | refine below_set ?_ GE360.out) | exact HB.out)⟩
  ·replace c7 := Bool.eq_false_iff.mpr c7
   subst c7
   have H1 : (some (false, false)) = some (r1, r2) := by rw [if_neg (show ¬ (false = true) by decide)] at H; exact H
   clear H; have H := H1; clear H1
   simp only [Option.some.injEq, Prod.mk.injEq] at H
   obtain ⟨rfl, rfl⟩ := H
   go_enter Try.func16, Try.ntmps16
   go_wp2_with (first | ((with_reducible refine gate_dst (N := 3) rfl ?_); (try (refine gate_guard (by rfl) ?_; dsimp only)); refine box_event ?hg (N := 3) ?hd (cs := #[.slice A0_0 l0_0.length c0_0]) (t := 30) ?hr ?_; (case hd => rfl); (case hg => rfl); (case hr => exact ax31); intro gb358 hg w16 hbox hb; have n0_ := Aside0.mk (below_step ax32 hb); have n1_ := Aside0.mk (hbox); have n2_ := Aside0.mk ((ax33 : w.heap.size ≤ gb358)); have n3_ := Aside0.mk ((ax33 : w.heap.size ≤ gb358)); clear HB; have HB := n0_; have BK358 := n1_; have GW358 := n2_; have GE358 := n3_; clear n0_ n1_ n2_ n3_; clear hb hbox hg; have hcz17_0 : w16.cell? ⟨gb358, 0, none⟩ = some (.slice A0_0 l0_0.length c0_0) := (blk_cell BK358.out 0).trans rfl; have hfz17_0 := blk_frozen BK358.out 0) | ((with_reducible refine gate_callee (f := 44) rfl ?_); refine goesL_ (some 13) rfl rfl Try.func44 (by kernel_rfl) rfl #[.agg #[.slice A0_0 l0_0.length c0_0], .int .i64 a2] rfl ax34 ?_; (with_reducible refine (impl_newGame.calls k _ _ l0_0 a2 true t361 t362 _ ?side1 ?side2 A4.out).mono ?_); (case side1 => exact ax35); (case side2 => exact ax36); (rintro e w18 ⟨hb, hno_, hyes_⟩; obtain ⟨gb360, v363, rfl, hbox, hgb, ho0⟩ := hyes_ rfl; clear hno_); refine ⟨_, rfl, ?_⟩; have n0_ := Aside0.mk (Kd.R_lower ho0 (below_size ax344)); have n1_ := Aside0.mk (blk_below (g := gb358) (o := .cells #[.slice A0_0 l0_0.length c0_0] 30 (0, 0)) ax345 hb); have n2_ := Aside0.mk (below_step ax344 hb); have n3_ := Aside0.mk (hbox); have n4_ := Aside0.mk ((Nat.le_trans (below_size ax344) hgb : w.heap.size ≤ gb360)); have n5_ := Aside0.mk ((Nat.le_trans (below_size ax344) hgb : w.heap.size ≤ gb360)); have n6_ := Aside0.mk ((Nat.ne_of_lt (Nat.lt_of_lt_of_le (blk_lt (g := gb358) (o := .cells #[.slice A0_0 l0_0.length c0_0] 30 (0, 0)) ax345) hgb) : gb358 ≠ gb360)); have n7_ := Aside0.mk ((Nat.ne_of_gt (Nat.lt_of_lt_of_le (blk_lt (g := gb358) (o := .cells #[.slice A0_0 l0_0.length c0_0] 30 (0, 0)) ax345) hgb) : gb360 ≠ gb358)); clear BK358; clear HB; have HO364 := n0_; have BK358 := n1_; have HB := n2_; have BK360 := n3_; have GW360 := n4_; have GE360 := n5_; have NB358_360 := n6_; have NB360_358 := n7_; clear n0_ n1_ n2_ n3_ n4_ n5_ n6_ n7_; (try clear hb); (try clear hbox); (try clear hgb); (try clear ho0); have hnb19 := NB358_360.out; have hnc19 := NB360_358.out; have hcz20_0 : w18.cell? ⟨gb358, 0, none⟩ = some (.slice A0_0 l0_0.length c0_0) := (blk_cell BK358.out 0).trans rfl; have hfz20_0 := blk_frozen BK358.out 0) | (go_at_call 45; (with_reducible refine (impl_in.calls a1 0 (wrap64 ((l0_0.length : Int) - 1)) false _ A6.out).mono ?_); rintro e w' ⟨rfl, ⟨nd, rfl⟩⟩))
   go_ret2
   exact ⟨by first | rfl | (simp [errW_none, errW_some] <;> rfl) | (simp [*, errW_none, errW_some] <;> rfl), by repeat (first | (with_reducible first | exact HB.out | apply below_alloc | apply pw_below_drewN | apply below_drew1 | refine below_set ?_ GE358.out | refine below_set ?_ GE360.out) | exact HB.out)⟩
 ·replace c5 := Bool.eq_false_iff.mpr c5
  subst c5
  have H1 : (some (false, false)) = some (r1, r2) := by rw [if_neg (show ¬ (false = true) by decide)] at H; exact H
  clear H; have H := H1; clear H1
  simp only [Option.some.injEq, Prod.mk.injEq] at H
  obtain ⟨rfl, rfl⟩ := H
  go_enter Try.func16, Try.ntmps16
  go_wp2_with (first | ((with_reducible refine gate_dst (N := 3) rfl ?_); (try (refine gate_guard (by rfl) ?_; dsimp only)); refine box_event ?hg (N := 3) ?hd (cs := #[.slice A0_0 l0_0.length c0_0]) (t := 30) ?hr ?_; (case hd => rfl); (case hg => rfl); (case hr => exact ax31); intro gb358 hg w21 hbox hb; have n0_ := Aside0.mk (below_step ax32 hb); have n1_ := Aside0.mk (hbox); have n2_ := Aside0.mk ((ax33 : w.heap.size ≤ gb358)); have n3_ := Aside0.mk ((ax33 : w.heap.size ≤ gb358)); clear HB; have HB := n0_; have BK358 := n1_; have GW358 := n2_; have GE358 := n3_; clear n0_ n1_ n2_ n3_; clear hb hbox hg; have hcz22_0 : w21.cell? ⟨gb358, 0, none⟩ = some (.slice A0_0 l0_0.length c0_0) := (blk_cell BK358.out 0).trans rfl; have hfz22_0 := blk_frozen BK358.out 0) | ((with_reducible refine gate_callee (f := 44) rfl ?_); refine goesL_ (some 13) rfl rfl Try.func44 (by kernel_rfl) rfl #[.agg #[.slice A0_0 l0_0.length c0_0], .int .i64 a2] rfl ax34 ?_; (with_reducible refine (impl_newGame.calls k _ _ l0_0 a2 false t361 t362 _ ?side1 ?side2 A4.out).mono ?_); (case side1 => exact ax35); (case side2 => exact ax36); (rintro e w23 ⟨hb, hno_, hyes_⟩; obtain rfl := hno_ rfl; clear hyes_); refine ⟨_, rfl, ?_⟩; have n0_ := Aside0.mk (blk_below (g := gb358) (o := .cells #[.slice A0_0 l0_0.length c0_0] 30 (0, 0)) ax345 hb); have n1_ := Aside0.mk (below_step ax344 hb); clear BK358; clear HB; have BK358 := n0_; have HB := n1_; clear n0_ n1_; (try clear hb); (try clear hb2); (try clear hk); (try clear hi); (try clear ho0)))
  go_ret2
  exact ⟨by first | rfl | (simp [errW_none, errW_some] <;> rfl) | (simp [*, errW_none, errW_some] <;> rfl), by repeat (first | (with_reducible first | exact HB.out | apply below_alloc | apply pw_below_drewN | apply below_drew1 | refine below_set ?_ GE358.out) | exact HB.out)⟩

/-! ### laws_FnExactIsOpenNode: function 3 -/
def laws_FnExactIsOpenNode.j0 : Nat → Bool → List (S80) → List (S67) → Option (Bool)
 | 0, _, _, _ => none
 | k + 1, x42, x376000, x386000 => if x42 = true then (some false) else ((laws_toTrie.f k x376000).bind fun t388 => ((laws_eqTrie.f k x386000 t388).bind fun t391 => (if t391 = true then (some true) else (some false))))
def laws_FnExactIsOpenNode.f (k : Nat) (l0_0 : List (S80)) (a1 : Int) (a2 : Int) : Option (Bool) := (laws_szTrie.f l0_0 1048576).bind fun t376 => (if t376 < 0 then (some true) else ((laws_toTrie.f k l0_0).bind fun t377 => ((spec_IsOpenNode.f k t377 a1 a2).bind fun bt380 => ((laws_toTrie.f k l0_0).bind fun t382 => ((impl_IsOpenNode.f k t382 a1 a2).bind fun bt386 => (if (bt386.1 != bt380.1) = true then (laws_FnExactIsOpenNode.j0 k true l0_0 t382) else (laws_FnExactIsOpenNode.j0 k (bt386.2 != bt380.2) l0_0 t382)))))))
theorem laws_FnExactIsOpenNode.mono_l : ∀ k, (∀ y0 y1 y2, LeO (laws_FnExactIsOpenNode.j0 k y0 y1 y2) (laws_FnExactIsOpenNode.j0 (k + 1) y0 y1 y2))
 | 0 => fun _ _ _ r h => by simp [laws_FnExactIsOpenNode.j0] at h
 | k + 1 => by
  have ih0 := laws_FnExactIsOpenNode.mono_l k
  ·intro y0 y1 y2
   unfold laws_FnExactIsOpenNode.j0
   repeat' first
   | (with_reducible exact ih0 _ _ _)
   | (with_reducible exact impl_IsOpenNode.mono _ _ _ _)
   | (with_reducible exact laws_eqTrie.mono _ _ _)
   | (with_reducible exact laws_toTrie.mono _ _)
   | (with_reducible exact spec_IsOpenNode.mono _ _ _ _)
   | (with_reducible exact LeO.refl _)
   | (with_reducible exact LeO.none _)
   | (with_reducible refine LeO.ite ?_ ?_)
   | (with_reducible refine LeO.bind ?_ (fun _ => ?_))
   | exact ih0 _ _ _
   | exact impl_IsOpenNode.mono _ _ _ _
   | exact laws_eqTrie.mono _ _ _
   | exact laws_toTrie.mono _ _
   | exact spec_IsOpenNode.mono _ _ _ _
   | exact LeO.none _
   | refine LeO.ite ?_ ?_
   | refine LeO.bind ?_ (fun _ => ?_)
theorem laws_FnExactIsOpenNode.mono : ∀ a0 a1 a2 k, LeO (laws_FnExactIsOpenNode.f k a0 a1 a2) (laws_FnExactIsOpenNode.f (k + 1) a0 a1 a2) := by
 intro a0 a1 a2 k
 have ih0 := laws_FnExactIsOpenNode.mono_l k
 unfold laws_FnExactIsOpenNode.f
 repeat' first
   | (with_reducible exact ih0 _ _ _)
   | (with_reducible exact impl_IsOpenNode.mono _ _ _ _)
   | (with_reducible exact laws_eqTrie.mono _ _ _)
   | (with_reducible exact laws_toTrie.mono _ _)
   | (with_reducible exact spec_IsOpenNode.mono _ _ _ _)
   | (with_reducible exact LeO.refl _)
   | (with_reducible exact LeO.none _)
   | (with_reducible refine LeO.ite ?_ ?_)
   | (with_reducible refine LeO.bind ?_ (fun _ => ?_))
   | exact ih0 _ _ _
   | exact impl_IsOpenNode.mono _ _ _ _
   | exact laws_eqTrie.mono _ _ _
   | exact laws_toTrie.mono _ _
   | exact spec_IsOpenNode.mono _ _ _ _
   | exact LeO.none _
   | refine LeO.ite ?_ ?_
   | refine LeO.bind ?_ (fun _ => ?_)
set_option maxHeartbeats 8000000 in
set_option maxRecDepth 100000 in
theorem laws_FnExactIsOpenNode.calls (k : Nat) (A0_0 : Option Addr) (c0_0 : Nat) (l0_0 : List (S80)) (a1 : Int) (a2 : Int) (r : Bool) (w : World) (hr0_0 : Kd.C k80 w A0_0 l0_0.length l0_0) (hc0_0 : l0_0.length ≤ c0_0) (h : laws_FnExactIsOpenNode.f k l0_0 a1 a2 = some r) (hr_ : r = true) :
  Calls Try.prog 3 #[.agg #[.slice A0_0 l0_0.length c0_0], .int .i64 a1, .int .i64 a2] w fun e w' => e = .returned (.bool r) ∧ Below w.heap.size w w' := by
 have hu24 := Try.underlying24; have hu30 := Try.underlying30; have HR0_0 := Aside0.mk hr0_0; have HC0_0 := Aside0.mk hc0_0; clear hr0_0 hc0_0; have HB := Aside0.mk (Below.refl w.heap.size w); have HRT := Aside0.mk hr_; clear hr_
 have H : ((laws_szTrie.f l0_0 1048576).bind fun t376 => (if t376 < 0 then (some true) else ((laws_toTrie.f k l0_0).bind fun t377 => ((spec_IsOpenNode.f k t377 a1 a2).bind fun bt380 => ((laws_toTrie.f k l0_0).bind fun t382 => ((impl_IsOpenNode.f k t382 a1 a2).bind fun bt386 => (if (bt386.1 != bt380.1) = true then (laws_FnExactIsOpenNode.j0 k true l0_0 t382) else (laws_FnExactIsOpenNode.j0 k (bt386.2 != bt380.2) l0_0 t382)))))))) = some r := h
 clear h; replace H := Option.bind_eq_some_iff.mp H
 obtain ⟨t376, A40, H⟩ := H
 replace H : (if t376 < 0 then (some true) else ((laws_toTrie.f k l0_0).bind fun t377 => ((spec_IsOpenNode.f k t377 a1 a2).bind fun bt380 => ((laws_toTrie.f k l0_0).bind fun t382 => ((impl_IsOpenNode.f k t382 a1 a2).bind fun bt386 => (if (bt386.1 != bt380.1) = true then (laws_FnExactIsOpenNode.j0 k true l0_0 t382) else (laws_FnExactIsOpenNode.j0 k (bt386.2 != bt380.2) l0_0 t382))))))) = some r := H
 have A4 := Aside0.mk A40; clear A40
 by_cases c5 : t376 < 0
 ·rw [if_pos c5] at H
  have c5b0 : decide (t376 < 0) = true := decide_eq_true c5
  clear c5
  obtain rfl := Option.some.inj H
  go_enter Try.func3, Try.ntmps3
  go_wp2_with (first | ((with_reducible refine gate_dst (N := 3) rfl ?_); refine box_event ?hg (N := 3) ?hd (cs := #[.slice A0_0 l0_0.length c0_0]) (t := 24) ?hr ?_; (case hd => rfl); (case hg => rfl); (case hr => exact ax31); intro gb375 hg w6 hbox hb; have n0_ := Aside0.mk (below_step ax32 hb); have n1_ := Aside0.mk (hbox); have n2_ := Aside0.mk ((ax33 : w.heap.size ≤ gb375)); have n3_ := Aside0.mk ((ax33 : w.heap.size ≤ gb375)); clear HB; have HB := n0_; have BK375 := n1_; have GW375 := n2_; have GE375 := n3_; clear n0_ n1_ n2_ n3_; clear hb hbox hg; have hcz7_0 : w6.cell? ⟨gb375, 0, none⟩ = some (.slice A0_0 l0_0.length c0_0) := (blk_cell BK375.out 0).trans rfl; have hfz7_0 := blk_frozen BK375.out 0) | ((with_reducible refine gate_callee (f := 13) rfl ?_); refine goesL_ (some 15) rfl rfl Try.func13 (by kernel_rfl) rfl #[.agg #[.slice A0_0 l0_0.length c0_0], .int .i64 1048576] rfl ax34 ?_; (with_reducible refine (laws_szTrie.calls _ _ l0_0 1048576 t376 _ ?side1 ?side2 A4.out).mono ?_); (case side1 => exact ax35); (case side2 => exact ax36); rintro e w8 ⟨rfl, hb⟩; refine ⟨_, rfl, ?_⟩; have n0_ := Aside0.mk (blk_below (g := gb375) (o := .cells #[.slice A0_0 l0_0.length c0_0] 24 (0, 0)) ax348 hb); have n1_ := Aside0.mk (below_step ax349 hb); clear BK375; clear HB; have BK375 := n0_; have HB := n1_; clear n0_ n1_; (try clear hb); (try clear hb2); (try clear hk); (try clear hi)))
  go_ret
  exact ⟨by first | rfl | (simp [errW_none, errW_some] <;> rfl) | (simp [*, errW_none, errW_some] <;> rfl), by repeat (first | (with_reducible first | exact HB.out | apply below_alloc | apply pw_below_drewN | apply below_drew1 | refine below_set ?_ GE375.out) | exact HB.out)⟩
 ·rw [if_neg c5] at H
  have c5b0 : decide (t376 < 0) = false := decide_eq_false c5
  clear c5; replace H := Option.bind_eq_some_iff.mp H
  obtain ⟨t377, A90, H⟩ := H
  replace H : ((spec_IsOpenNode.f k t377 a1 a2).bind fun bt380 => ((laws_toTrie.f k l0_0).bind fun t382 => ((impl_IsOpenNode.f k t382 a1 a2).bind fun bt386 => (if (bt386.1 != bt380.1) = true then (laws_FnExactIsOpenNode.j0 k true l0_0 t382) else (laws_FnExactIsOpenNode.j0 k (bt386.2 != bt380.2) l0_0 t382))))) = some r := H
  have A9 := Aside0.mk A90; clear A90; replace H := Option.bind_eq_some_iff.mp H
  obtain ⟨⟨t380, t381⟩, A100, H⟩ := H
  replace H : ((laws_toTrie.f k l0_0).bind fun t382 => ((impl_IsOpenNode.f k t382 a1 a2).bind fun bt386 => (if (bt386.1 != t380) = true then (laws_FnExactIsOpenNode.j0 k true l0_0 t382) else (laws_FnExactIsOpenNode.j0 k (bt386.2 != t381) l0_0 t382)))) = some r := H
  have A10 := Aside0.mk A100; clear A100; replace H := Option.bind_eq_some_iff.mp H
  obtain ⟨t382, A110, H⟩ := H
  replace H : ((impl_IsOpenNode.f k t382 a1 a2).bind fun bt386 => (if (bt386.1 != t380) = true then (laws_FnExactIsOpenNode.j0 k true l0_0 t382) else (laws_FnExactIsOpenNode.j0 k (bt386.2 != t381) l0_0 t382))) = some r := H
  have A11 := Aside0.mk A110; clear A110; replace H := Option.bind_eq_some_iff.mp H
  obtain ⟨⟨t386, t387⟩, A120, H⟩ := H
  replace H : (if (t386 != t380) = true then (laws_FnExactIsOpenNode.j0 k true l0_0 t382) else (laws_FnExactIsOpenNode.j0 k (t387 != t381) l0_0 t382)) = some r := H
  have A12 := Aside0.mk A120; clear A120; have HC13 := Aside0.mk H; clear H
  go_enter Try.func3, Try.ntmps3
  go_upto_region 8 with (first | ((with_reducible refine gate_dst (N := 3) rfl ?_); refine box_event ?hg (N := 3) ?hd (cs := #[.slice A0_0 l0_0.length c0_0]) (t := 24) ?hr ?_; (case hd => rfl); (case hg => rfl); (case hr => exact ax31); intro gb375 hg w14 hbox hb; have n0_ := Aside0.mk (below_step ax32 hb); have n1_ := Aside0.mk (hbox); have n2_ := Aside0.mk ((ax33 : w.heap.size ≤ gb375)); have n3_ := Aside0.mk ((ax33 : w.heap.size ≤ gb375)); clear HB; have HB := n0_; have BK375 := n1_; have GW375 := n2_; have GE375 := n3_; clear n0_ n1_ n2_ n3_; clear hb hbox hg; have hcz15_0 : w14.cell? ⟨gb375, 0, none⟩ = some (.slice A0_0 l0_0.length c0_0) := (blk_cell BK375.out 0).trans rfl; have hfz15_0 := blk_frozen BK375.out 0) | ((with_reducible refine gate_callee (f := 13) rfl ?_); refine goesL_ (some 15) rfl rfl Try.func13 (by kernel_rfl) rfl #[.agg #[.slice A0_0 l0_0.length c0_0], .int .i64 1048576] rfl ax34 ?_; (with_reducible refine (laws_szTrie.calls _ _ l0_0 1048576 t376 _ ?side1 ?side2 A4.out).mono ?_); (case side1 => exact ax35); (case side2 => exact ax36); rintro e w16 ⟨rfl, hb⟩; refine ⟨_, rfl, ?_⟩; have n0_ := Aside0.mk (blk_below (g := gb375) (o := .cells #[.slice A0_0 l0_0.length c0_0] 24 (0, 0)) ax348 hb); have n1_ := Aside0.mk (below_step ax349 hb); clear BK375; clear HB; have BK375 := n0_; have HB := n1_; clear n0_ n1_; (try clear hb); (try clear hb2); (try clear hk); (try clear hi); have hcz17_0 : w16.cell? ⟨gb375, 0, none⟩ = some (.slice A0_0 l0_0.length c0_0) := (blk_cell BK375.out 0).trans rfl; have hfz17_0 := blk_frozen BK375.out 0) | ((with_reducible refine gate_callee (f := 15) rfl ?_); refine goesL_ (some 20) rfl rfl Try.func15 (by kernel_rfl) rfl #[.agg #[.slice A0_0 l0_0.length c0_0]] rfl ax34 ?_; (with_reducible refine (laws_toTrie.calls k _ _ l0_0 t377 _ ?side1 ?side2 A9.out).mono ?_); (case side1 => exact ax35); (case side2 => exact ax36); rintro e w18 ⟨v378, rfl, ho0, hb⟩; refine ⟨_, rfl, ?_⟩; have n0_ := Aside0.mk (Kd.R_lower ho0 (below_size ax349)); have n1_ := Aside0.mk (blk_below (g := gb375) (o := .cells #[.slice A0_0 l0_0.length c0_0] 24 (0, 0)) ax348 hb); have n2_ := Aside0.mk (below_step ax349 hb); clear BK375; clear HB; have HO379 := n0_; have BK375 := n1_; have HB := n2_; clear n0_ n1_ n2_; (try clear hb); (try clear hb2); (try clear hk); (try clear hi); (try clear ho0); obtain ⟨Ao19, co19, eo19⟩ := Kd.R_slice HO379.out; subst eo19) | ((with_reducible refine gate_callee (f := 14) rfl ?_); refine goesL_ (some 23) rfl rfl Try.func14 (by kernel_rfl) rfl #[.agg #[.slice Ao19 t377.length co19], .int .i64 a1, .int .i64 a2] rfl ax34 ?_; (with_reducible refine (spec_IsOpenNode.calls k _ _ t377 a1 a2 t380 t381 _ ?side1 ?side2 A10.out).mono ?_); (case side1 => repeat (first | exact (Kd.R_reads' HO379.out).2.2 | (with_reducible refine Kd.C_alloc ?_ _) | (with_reducible refine Kd.C_drewN ?_ _) | (with_reducible refine Kd.C_drew ?_))); (case side2 => exact (Kd.R_reads' HO379.out).2.1); rintro e w20 ⟨rfl, hb⟩; refine ⟨_, rfl, ?_⟩; have n0_ := Aside0.mk (Kd.R_below ax350 hb); have n1_ := Aside0.mk (blk_below (g := gb375) (o := .cells #[.slice A0_0 l0_0.length c0_0] 24 (0, 0)) ax348 hb); have n2_ := Aside0.mk (below_step ax349 hb); clear HO379; clear BK375; clear HB; have HO379 := n0_; have BK375 := n1_; have HB := n2_; clear n0_ n1_ n2_; (try clear hb); (try clear hb2); (try clear hk); (try clear hi); have hcz21_0 : w20.cell? ⟨gb375, 0, none⟩ = some (.slice A0_0 l0_0.length c0_0) := (blk_cell BK375.out 0).trans rfl; have hfz21_0 := blk_frozen BK375.out 0) | ((with_reducible refine gate_callee (f := 15) rfl ?_); refine goesL_ (some 27) rfl rfl Try.func15 (by kernel_rfl) rfl #[.agg #[.slice A0_0 l0_0.length c0_0]] rfl ax34 ?_; (with_reducible refine (laws_toTrie.calls k _ _ l0_0 t382 _ ?side1 ?side2 A11.out).mono ?_); (case side1 => exact ax35); (case side2 => exact ax36); rintro e w22 ⟨v383, rfl, ho0, hb⟩; refine ⟨_, rfl, ?_⟩; have n0_ := Aside0.mk (Kd.R_elder' ax350 (Kd.R_base ho0) hb); have n1_ := Aside0.mk (Kd.R_lower (Kd.R_new' ho0 (Kd.R_lt ax350)) (below_size ax349)); have n2_ := Aside0.mk (blk_below (g := gb375) (o := .cells #[.slice A0_0 l0_0.length c0_0] 24 (0, 0)) ax348 hb); have n3_ := Aside0.mk (below_step ax349 hb); clear HO379; clear BK375; clear HB; have HO379 := n0_; have HO384 := n1_; have BK375 := n2_; have HB := n3_; clear n0_ n1_ n2_ n3_; (try clear hb); (try clear hb2); (try clear hk); (try clear hi); (try clear ho0)) | ((with_reducible refine gate_dst (N := 10) rfl ?_); refine box_event ?hg (N := 10) ?hd (cs := #[.slice none 0 0]) (t := 30) ?hr ?_; (case hd => rfl); (case hg => rfl); (case hr => exact ax31); intro gb385 hg w23 hbox hb; have n0_ := Aside0.mk (Kd.R_below ax350 hb); have n1_ := Aside0.mk (Kd.R_below (by (with_reducible repeat (first | apply Kd.R_alloc | apply Kd.R_drewN | apply Kd.R_drew)); exact HO384.out) hb); have n2_ := Aside0.mk (blk_below (g := gb375) (o := .cells #[.slice A0_0 l0_0.length c0_0] 24 (0, 0)) ax348 hb); have n3_ := Aside0.mk (below_step ax349 hb); have n4_ := Aside0.mk (hbox); have n5_ := Aside0.mk ((ax351 : w.heap.size ≤ gb385)); have n6_ := Aside0.mk ((ax351 : w.heap.size ≤ gb385)); have n7_ := Aside0.mk ((by rw [hg]; exact Nat.ne_of_lt (blk_lt (g := gb375) (o := .cells #[.slice A0_0 l0_0.length c0_0] 24 (0, 0)) ax348) : gb375 ≠ gb385)); have n8_ := Aside0.mk ((by rw [hg]; exact Nat.ne_of_gt (blk_lt (g := gb375) (o := .cells #[.slice A0_0 l0_0.length c0_0] 24 (0, 0)) ax348) : gb385 ≠ gb375)); clear HO379; clear HO384; clear BK375; clear HB; have HO379 := n0_; have HO384 := n1_; have BK375 := n2_; have HB := n3_; have BK385 := n4_; have GW385 := n5_; have GE385 := n6_; have NB375_385 := n7_; have NB385_375 := n8_; clear n0_ n1_ n2_ n3_ n4_ n5_ n6_ n7_ n8_; clear hb hbox hg; obtain ⟨Ao24, co24, eo24⟩ := Kd.R_slice HO384.out; subst eo24; have hnb25 := NB385_375.out; have hnc25 := NB375_385.out; have hcz26_0 : w23.cell? ⟨gb385, 0, none⟩ = some (.slice none 0 0) := (blk_cell BK385.out 0).trans rfl; have hfz26_0 := blk_frozen BK385.out 0) | ((with_reducible refine gate_callee (f := 16) rfl ?_); refine goesL_ (some 32) rfl rfl Try.func16 (by kernel_rfl) rfl #[.agg #[.slice Ao24 t382.length co24], .int .i64 a1, .int .i64 a2] rfl ax34 ?_; (with_reducible refine (impl_IsOpenNode.calls k _ _ t382 a1 a2 t386 t387 _ ?side1 ?side2 A12.out).mono ?_); (case side1 => refine (Kd.R_reads' (e := 67) (base := w.heap.size) (ok := fun k_ => (True ∧ some k_ ≠ (.slice Ao19 t377.length co19 : Value).ownBlock)) (n := t382.length) (c := co24) ?_).2.2; exact ax352); (case side2 => exact (Kd.R_reads' HO384.out).2.1); rintro e w27 ⟨rfl, hb⟩; refine ⟨_, rfl, ?_⟩; have n0_ := Aside0.mk (Kd.R_below (by (with_reducible repeat (first | apply Kd.R_alloc | apply Kd.R_drewN | apply Kd.R_drew)); exact (Kd.R_mono (Kd.R_far (p := ⟨gb385, 0, none⟩) (Kd.R_types HO379.out BK385.out (by decide)) (fun _ hk => hk.2) (.slice Ao24 t382.length co24)) (fun _ h_ => h_.1))) hb); have n1_ := Aside0.mk (Kd.R_below ax352 hb); have n2_ := Aside0.mk (blk_below (g := gb375) (o := .cells #[.slice A0_0 l0_0.length c0_0] 24 (0, 0)) (by (with_reducible repeat (first | refine blk_drewN ?_ _ | refine blk_drew ?_ | refine blk_alloc ?_ _)); refine blk_far ?_ NB375_385.out _; (with_reducible repeat (first | refine blk_drewN ?_ _ | refine blk_drew ?_ | refine blk_alloc ?_ _)); exact BK375.out) hb); have n3_ := Aside0.mk (blk_below (g := gb385) (o := .cells #[.slice Ao24 t382.length co24] 30 (0, 0)) (by (with_reducible repeat (first | refine blk_drewN ?_ _ | refine blk_drew ?_ | refine blk_alloc ?_ _)); refine blk_put (cs := #[.slice none 0 0]) ?_ 0 _ rfl; (with_reducible repeat (first | refine blk_drewN ?_ _ | refine blk_drew ?_ | refine blk_alloc ?_ _)); exact BK385.out) hb); have n4_ := Aside0.mk (below_step ax353 hb); clear HO379; clear HO384; clear BK375; clear BK385; clear HB; have HO379 := n0_; have HO384 := n1_; have BK375 := n2_; have BK385 := n3_; have HB := n4_; clear n0_ n1_ n2_ n3_ n4_; (try clear hb); (try clear hb2); (try clear hk); (try clear hi)))
  (try simp only [Act.put, List.setIfInBounds_toArray, List.set_cons_zero, List.set_cons_succ])
  go_cut [42] (fun v42 wc => ∃ (kq : Nat) (x42_12 : Bool), v42 = .bool x42_12 ∧ Aside0 (laws_FnExactIsOpenNode.j0 kq x42_12 l0_0 t382 = some r) ∧ Aside0 (kq ≤ k) ∧ Aside0 (Kd.R k67 67 wc w.heap.size (fun _ => True) (.slice Ao24 t382.length co24) t382) ∧ Aside0 (wc.heap[gb375]? = some (.cells #[(.slice A0_0 l0_0.length c0_0)] 24 (0, 0))) ∧ Aside0 (wc.heap[gb385]? = some (.cells #[(.slice Ao24 t382.length co24)] 30 (0, 0))) ∧ Aside0 (Below w.heap.size w wc))
  case first =>
   have H := HC13.out; clear HC13
   by_cases c28 : (t386 != t380) = true
   ·rw [if_pos c28] at H
    have c28b0 : (t386 != t380) = true := c28
    (try (have c28b1 : decide (t386 = t380) = false := by simpa using c28))
    (try (have c28b2 : (t386 == t380) = false := by simpa using c28))
    (try (have c28b3 : ¬ (t386 = t380) := by simpa using c28))
    clear c28
    (first | rw [c28b0] | (simp only [i64_w, i32_w]; rw [c28b0]) | skip)
    have H' := Aside0.mk H
    clear H
    go_wp2
    go_meet
    case rel => exact ⟨_, (true), ax37, H', ⟨by first | omega | exact Nat.le_refl _⟩, ⟨by (with_reducible repeat (first | apply Kd.R_alloc | apply Kd.R_drewN | apply Kd.R_drew)); exact Kd.R_mono HO384.out (fun _ hk => trivial)⟩, ⟨by (with_reducible repeat (first | refine blk_drewN ?_ _ | refine blk_drew ?_ | refine blk_alloc ?_ _)); exact BK375.out⟩, ⟨by (with_reducible repeat (first | refine blk_drewN ?_ _ | refine blk_drew ?_ | refine blk_alloc ?_ _)); exact BK385.out⟩, ⟨by repeat (first | (with_reducible first | exact HB.out | apply below_alloc | apply pw_below_drewN | apply below_drew1 | refine below_set ?_ GE375.out | refine below_set ?_ GE385.out) | exact HB.out)⟩⟩
   ·rw [if_neg c28] at H
    have c28b0 : (t386 != t380) = false := by simpa using c28
    (try (have c28b1 : decide (t386 = t380) = true := by simpa using c28))
    (try (have c28b2 : (t386 == t380) = true := by simpa using c28))
    clear c28
    (first | rw [c28b0] | (simp only [i64_w, i32_w]; rw [c28b0]) | skip)
    have H' := Aside0.mk H
    clear H
    go_wp2
    go_meet
    case rel => exact ⟨_, ((t387 != t381)), ax37, H', ⟨by first | omega | exact Nat.le_refl _⟩, ⟨by (with_reducible repeat (first | apply Kd.R_alloc | apply Kd.R_drewN | apply Kd.R_drew)); exact Kd.R_mono HO384.out (fun _ hk => trivial)⟩, ⟨by (with_reducible repeat (first | refine blk_drewN ?_ _ | refine blk_drew ?_ | refine blk_alloc ?_ _)); exact BK375.out⟩, ⟨by (with_reducible repeat (first | refine blk_drewN ?_ _ | refine blk_drew ?_ | refine blk_alloc ?_ _)); exact BK385.out⟩, ⟨by repeat (first | (with_reducible first | exact HB.out | apply below_alloc | apply pw_below_drewN | apply below_drew1 | refine below_set ?_ GE375.out | refine below_set ?_ GE385.out) | exact HB.out)⟩⟩
  case rest =>
   clear HC13
   try clear c1
   try clear c2
   try clear p2
   try clear c3
   try clear c5
   try clear c5b0
   try clear c13
   try clear c14
   try clear c15
   try clear c16
   try clear c25
   try clear c28
   try clear c28b0
   try clear c28b1
   try clear c28b2
   try clear hcz15_0
   try clear hcz17_0
   try clear hcz21_0
   try clear hcz26_0
   try clear hcz7_0
   try clear hfz15_0
   try clear hfz17_0
   try clear hfz21_0
   try clear hfz26_0
   try clear hfz7_0
   obtain ⟨kq, x42_12, rfl, HA, HJ12, HO_386000, BK375, BK385, HB⟩ := hcut
   cases kq with
   | zero => exact absurd HA.out (by simp [laws_FnExactIsOpenNode.j0])
   | succ kj12 =>
    have H := HA.out; clear HA
    simp only [laws_FnExactIsOpenNode.j0] at H
    by_cases c29 : x42_12 = true
    ·exact ax24
    ·replace c29 := Bool.eq_false_iff.mpr c29
     subst c29
     have H1 : ((laws_toTrie.f kj12 l0_0).bind fun t388 => ((laws_eqTrie.f kj12 t382 t388).bind fun t391 => (if t391 = true then (some true) else (some false)))) = some r := by rw [if_neg (show ¬ (false = true) by decide)] at H; exact H
     clear H; have H := H1; clear H1; replace H := Option.bind_eq_some_iff.mp H
     obtain ⟨t388, A300, H⟩ := H
     replace H : ((laws_eqTrie.f kj12 t382 t388).bind fun t391 => (if t391 = true then (some true) else (some false))) = some r := H
     have A30 := Aside0.mk A300; clear A300; replace H := Option.bind_eq_some_iff.mp H
     obtain ⟨t391, A310, H⟩ := H
     replace H : (if t391 = true then (some true) else (some false)) = some r := H
     have A31 := Aside0.mk A310; clear A310
     by_cases c32 : t391 = true
     ·subst c32
      have H1 : (some true) = some r := by rw [if_pos rfl] at H; exact H
      clear H; have H := H1; clear H1
      obtain rfl := Option.some.inj H
      try go_wp2
      have n0_ := Aside0.mk (Kd.R_drew HO_386000.out); have n1_ := Aside0.mk (blk_drew BK375.out); have n2_ := Aside0.mk (blk_drew BK385.out); have n3_ := Aside0.mk (below_drew1 HB.out); clear HO_386000; clear BK375; clear BK385; clear HB; have HO_386000 := n0_; have BK375 := n1_; have BK385 := n2_; have HB := n3_; clear n0_ n1_ n2_ n3_
      refine start_ (n := 5) (S := fun w' => w'.cell? ⟨gb385, 0, none⟩ = some (.slice Ao24 t382.length co24) ∧ w'.cell? ⟨gb375, 0, none⟩ = some (.slice A0_0 l0_0.length c0_0)) (ds := []) #[false, false, false, false, false] (by kernel_rfl) rfl rfl ⟨(blk_cell BK385.out 0).trans rfl, (blk_cell BK375.out 0).trans rfl⟩ (fun hHeld => ?_)
      generalize wc.drew = w33 at HO_386000 BK375 BK385 HB hHeld ⊢
      refine take_ (i := 0) (N := some 43) (v := ?_) (a' := ?_) #[true, false, false, false, false] rfl rfl (by kernel_rfl) (fun _ _ _ h => h) (Or.inl ⟨by rfl, ?_⟩) hHeld ?_ ?_; rotate_left; exact ax17; rotate_left; exact ax6
      refine take_ (i := 1) (N := some 44) (v := ?_) (a' := ?_) #[true, true, false, false, false] rfl rfl (by kernel_rfl) (fun _ _ _ h => h) (Or.inl ⟨by rfl, ?_⟩) hHeld ?_ ?_; rotate_left; exact ax17; rotate_left; exact ax6
      refine one_ (i := 2) (N := some 45) #[true, true, true, false, false] rfl rfl (by kernel_rfl) (by decide) (fun K hK => ?_)
      refine goes_ Try.func15 (by kernel_rfl) rfl #[.agg #[.slice A0_0 l0_0.length c0_0]] (by rfl) rfl rfl ax34 ?_
      with_reducible refine (laws_toTrie.calls kj12 _ _ l0_0 t388 _ ?side1 ?side2 A30.out).mono ?_
      (case side1 => exact ax35)
      (case side2 => exact ax36)
      rintro e w34 ⟨v389, rfl, ho0, hb⟩
      refine ⟨_, rfl, ?_⟩
      have n0_ := Aside0.mk (Kd.R_elder' ax354 (Kd.R_base ho0) hb); have n1_ := Aside0.mk (Kd.R_lower (Kd.R_new' ho0 (Kd.R_lt ax354)) (below_size ax353))
      have n2_ := Aside0.mk (blk_below (g := gb375) (o := .cells #[.slice A0_0 l0_0.length c0_0] 24 (0, 0)) ax348 hb)
      have n3_ := Aside0.mk (blk_below (g := gb385) (o := .cells #[.slice Ao24 t382.length co24] 30 (0, 0)) ax355 hb)
      have n4_ := Aside0.mk (below_step ax353 hb); clear HO_386000; clear BK375; clear BK385; clear HB; have HO_386000 := n0_; have HO390 := n1_; have BK375 := n2_; have BK385 := n3_; have HB := n4_; clear n0_ n1_ n2_ n3_ n4_; (try clear hb); (try clear hb2); (try clear hk); (try clear hi); (try clear ho0)
      obtain ⟨Ao35, co35, eo35⟩ := Kd.R_slice HO390.out
      (first | subst eo35 | (injection eo35 with f1_ f2_ f3_; have f4_ := f1_.symm; have f5_ := f3_.symm; clear f1_ f2_ f3_; subst f4_; subst f5_))
      refine hK.out _ _ ⟨(blk_cell BK385.out 0).trans rfl, (blk_cell BK375.out 0).trans rfl⟩ (fun hHeld => ?_)
      clear hK K
      refine norm_ (a' := ?_) ?_ ?_
      rotate_left
      ·exact ax25
      refine one_ (i := 3) (N := some 46) #[true, true, true, true, false] rfl rfl (by kernel_rfl) (by decide) (fun K hK => ?_)
      refine goes_ Try.func17 (by kernel_rfl) rfl #[.agg #[.slice Ao24 t382.length co24], .agg #[.slice Ao35 t388.length co35]] (by rfl) rfl rfl ax34 ?_
      with_reducible refine (laws_eqTrie.calls kj12 _ _ t382 _ _ t388 true _ ?side1 ?side2 ?side3 ?side4 A31.out).mono ?_
      (case side1 => repeat (first | exact (Kd.R_reads' HO_386000.out).2.2 | (with_reducible refine Kd.C_alloc ?_ _) | (with_reducible refine Kd.C_drewN ?_ _) | (with_reducible refine Kd.C_drew ?_)))
      (case side2 => exact (Kd.R_reads' HO_386000.out).2.1)
      (case side3 => repeat (first | exact (Kd.R_reads' HO390.out).2.2 | (with_reducible refine Kd.C_alloc ?_ _) | (with_reducible refine Kd.C_drewN ?_ _) | (with_reducible refine Kd.C_drew ?_)))
      (case side4 => exact (Kd.R_reads' HO390.out).2.1)
      rintro e w36 ⟨rfl, hb⟩
      refine ⟨_, rfl, ?_⟩
      have n0_ := Aside0.mk (Kd.R_below ax354 hb)
      have n1_ := Aside0.mk (Kd.R_below (by (with_reducible repeat (first | apply Kd.R_alloc | apply Kd.R_drewN | apply Kd.R_drew)); exact HO390.out) hb)
      have n2_ := Aside0.mk (blk_below (g := gb375) (o := .cells #[.slice A0_0 l0_0.length c0_0] 24 (0, 0)) ax348 hb)
      have n3_ := Aside0.mk (blk_below (g := gb385) (o := .cells #[.slice Ao24 t382.length co24] 30 (0, 0)) ax355 hb)
      have n4_ := Aside0.mk (below_step ax353 hb); clear HO_386000; clear HO390; clear BK375; clear BK385; clear HB; have HO_386000 := n0_; have HO390 := n1_; have BK375 := n2_; have BK385 := n3_; have HB := n4_; clear n0_ n1_ n2_ n3_ n4_; (try clear hb); (try clear hb2); (try clear hk); (try clear hi)
      refine hK.out _ _ ⟨(blk_cell BK385.out 0).trans rfl, (blk_cell BK375.out 0).trans rfl⟩ (fun hHeld => ?_)
      clear hK K
      refine norm_ (a' := ?_) ?_ ?_
      rotate_left
      ·exact ax26
      refine pure_ (i := 4) (N := some 47) (v := ?_) (a' := ?_) #[true, true, true, true, true] rfl rfl (by kernel_rfl) (fun _ _ _ h => h) (Or.inl ⟨by rfl, ?_⟩) ?_ ?_; rotate_left; exact ax5; rotate_left; exact ax6
      refine done_ (by kernel_rfl) ?_
      try go_wp2
      go_ret
      exact ⟨by first | rfl | (simp [errW_none, errW_some] <;> rfl) | (simp [*, errW_none, errW_some] <;> rfl), by repeat (first | (with_reducible first | exact HB.out | apply below_alloc | apply pw_below_drewN | apply below_drew1 | refine below_set ?_ GE375.out | refine below_set ?_ GE385.out) | exact HB.out)⟩
     ·exact ax27
end Go.Proofs.Ytcbjfflaamlpcaa.X

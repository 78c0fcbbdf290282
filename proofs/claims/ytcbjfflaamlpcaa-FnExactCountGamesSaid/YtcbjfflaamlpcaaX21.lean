-- By gen.py (the session's own program over the kit's printer): functions of the program, each with its contract. Lean checks it.
import Derived.Test.YtcbjfflaamlpcaaX0
import Derived.Test.YtcbjfflaamlpcaaX2
import Derived.Test.YtcbjfflaamlpcaaX7
import Derived.Test.YtcbjfflaamlpcaaX13
import Derived.Test.YtcbjfflaamlpcaaX16
import Derived.Test.YtcbjfflaamlpcaaX20
namespace Go.Proofs.Ytcbjfflaamlpcaa.X
open Go.RowKit Go.Proofs.YtcbjfflaamlpcaaW.PrintWords Go.Proofs.YtcbjfflaamlpcaaW.PrintLast Go.Proofs.YtcbjfflaamlpcaaW.PrintMore
attribute [local go_sem] max2_int min2_int max_two min_two max_three min_three max_four min_four   -- for this text's walks alone
set_option linter.unusedVariables false
set_option linter.unusedSimpArgs false

/-! ### impl_CountGames: function 25 -/
def impl_CountGames.f (k : Nat) (l0_0 : List (S67)) (a1 : Int) (a2 : Int) : Option (Int × Bool) := (impl_gameAt.f k l0_0 a1 a2).bind fun bt548 => (if bt548.1 = true then ((impl_game_games.f k l0_0 bt548.2.1 bt548.2.2 a1).bind fun t554 => (some (t554, true))) else (some (0, false)))
theorem impl_CountGames.mono : ∀ a0 a1 a2 k, LeO (impl_CountGames.f k a0 a1 a2) (impl_CountGames.f (k + 1) a0 a1 a2) := by
 intro a0 a1 a2 k
 unfold impl_CountGames.f
 repeat' first
   | (with_reducible exact impl_gameAt.mono _ _ _ _)
   | (with_reducible exact impl_game_games.mono _ _ _ _ _)
   | (with_reducible exact LeO.refl _)
   | (with_reducible exact LeO.none _)
   | (with_reducible refine LeO.ite ?_ ?_)
   | (with_reducible refine LeO.bind ?_ (fun _ => ?_))
   | exact impl_gameAt.mono _ _ _ _
   | exact impl_game_games.mono _ _ _ _ _
   | exact LeO.none _
   | refine LeO.ite ?_ ?_
   | refine LeO.bind ?_ (fun _ => ?_)
set_option maxHeartbeats 8000000 in
set_option maxRecDepth 100000 in
theorem impl_CountGames.calls (k : Nat) (A0_0 : Option Addr) (c0_0 : Nat) (l0_0 : List (S67)) (a1 : Int) (a2 : Int) (r1 : Int) (r2 : Bool) (w : World) (hr0_0 : Kd.C k67 w A0_0 l0_0.length l0_0) (hc0_0 : l0_0.length ≤ c0_0) (h : impl_CountGames.f k l0_0 a1 a2 = some (r1, r2)) :
  Calls Try.prog 25 #[.agg #[.slice A0_0 l0_0.length c0_0], .int .i64 a1, .int .i64 a2] w fun e w' => e = .returned (.tuple #[.int .i64 r1, .bool r2]) ∧ Below w.heap.size w w' := by
 have hu30 := Try.underlying30; have HR0_0 := Aside0.mk hr0_0; have HC0_0 := Aside0.mk hc0_0; clear hr0_0 hc0_0; have HB := Aside0.mk (Below.refl w.heap.size w)
 have H : ((impl_gameAt.f k l0_0 a1 a2).bind fun bt548 => (if bt548.1 = true then ((impl_game_games.f k l0_0 bt548.2.1 bt548.2.2 a1).bind fun t554 => (some (t554, true))) else (some (0, false)))) = some (r1, r2) := h
 clear h; replace H := Option.bind_eq_some_iff.mp H
 obtain ⟨⟨t548, t550, t551⟩, A40, H⟩ := H
 replace H : (if t548 = true then ((impl_game_games.f k l0_0 t550 t551 a1).bind fun t554 => (some (t554, true))) else (some (0, false))) = some (r1, r2) := H
 have A4 := Aside0.mk A40; clear A40
 by_cases c5 : t548 = true
 ·subst c5
  have H1 : ((impl_game_games.f k l0_0 t550 t551 a1).bind fun t554 => (some (t554, true))) = some (r1, r2) := by rw [if_pos rfl] at H; exact H
  clear H; have H := H1; clear H1; replace H := Option.bind_eq_some_iff.mp H
  obtain ⟨t554, A60, H⟩ := H
  replace H : (some (t554, true)) = some (r1, r2) := H
  have A6 := Aside0.mk A60; clear A60
  simp only [Option.some.injEq, Prod.mk.injEq] at H
  obtain ⟨rfl, rfl⟩ := H
  go_enter Try.func25, Try.ntmps25
  go_wp2_with (first | ((with_reducible refine gate_dst (N := 3) rfl ?_); refine box_event ?hg (N := 3) ?hd (cs := #[.slice A0_0 l0_0.length c0_0]) (t := 30) ?hr ?_; (case hd => rfl); (case hg => rfl); (case hr => exact ax31); intro gb547 hg w7 hbox hb; have n0_ := Aside0.mk (below_step ax32 hb); have n1_ := Aside0.mk (hbox); have n2_ := Aside0.mk ((ax33 : w.heap.size ≤ gb547)); have n3_ := Aside0.mk ((ax33 : w.heap.size ≤ gb547)); clear HB; have HB := n0_; have BK547 := n1_; have GW547 := n2_; have GE547 := n3_; clear n0_ n1_ n2_ n3_; clear hb hbox hg; have hcz8_0 : w7.cell? ⟨gb547, 0, none⟩ = some (.slice A0_0 l0_0.length c0_0) := (blk_cell BK547.out 0).trans rfl; have hfz8_0 := blk_frozen BK547.out 0) | ((with_reducible refine gate_callee (f := 51) rfl ?_); refine goesL_ (some 14) rfl rfl Try.func51 (by kernel_rfl) rfl #[.agg #[.slice A0_0 l0_0.length c0_0], .int .i64 a1, .int .i64 a2] rfl ax34 ?_; (with_reducible refine (impl_gameAt.calls k _ _ l0_0 a1 a2 true t550 t551 _ ?side1 ?side2 A4.out).mono ?_); (case side1 => exact ax35); (case side2 => exact ax36); (rintro e w9 ⟨hb, hno_, hyes_⟩; obtain ⟨gb549, v552, rfl, hbox, hgb, ho0⟩ := hyes_ rfl; clear hno_); refine ⟨_, rfl, ?_⟩; have n0_ := Aside0.mk (Kd.R_lower ho0 (below_size ax234)); have n1_ := Aside0.mk (blk_below (g := gb547) (o := .cells #[.slice A0_0 l0_0.length c0_0] 30 (0, 0)) ax235 hb); have n2_ := Aside0.mk (below_step ax234 hb); have n3_ := Aside0.mk (hbox); have n4_ := Aside0.mk ((Nat.le_trans (below_size ax234) hgb : w.heap.size ≤ gb549)); have n5_ := Aside0.mk ((Nat.le_trans (below_size ax234) hgb : w.heap.size ≤ gb549)); have n6_ := Aside0.mk ((Nat.ne_of_lt (Nat.lt_of_lt_of_le (blk_lt (g := gb547) (o := .cells #[.slice A0_0 l0_0.length c0_0] 30 (0, 0)) ax235) hgb) : gb547 ≠ gb549)); have n7_ := Aside0.mk ((Nat.ne_of_gt (Nat.lt_of_lt_of_le (blk_lt (g := gb547) (o := .cells #[.slice A0_0 l0_0.length c0_0] 30 (0, 0)) ax235) hgb) : gb549 ≠ gb547)); clear BK547; clear HB; have HO553 := n0_; have BK547 := n1_; have HB := n2_; have BK549 := n3_; have GW549 := n4_; have GE549 := n5_; have NB547_549 := n6_; have NB549_547 := n7_; clear n0_ n1_ n2_ n3_ n4_ n5_ n6_ n7_; (try clear hb); (try clear hbox); (try clear hgb); (try clear ho0); obtain ⟨Ao10, co10, eo10⟩ := Kd.R_slice HO553.out; subst eo10) | ((with_reducible refine gate_callee (f := 55) rfl ?_); refine goesL_ (some 21) rfl rfl Try.func55 (by kernel_rfl) rfl #[.pointer (some ⟨gb549, 0, none⟩), .int .i64 a1] rfl ax34 ?_; (with_reducible refine (impl_game_games.calls k gb549 A0_0 c0_0 l0_0 t550 Ao10 co10 t551 a1 t554 _ ?side1 ?side2 ?side3 ?side4 ?side5 A6.out).mono ?_); (case side1 => exact ax35); (case side2 => exact ax36); (case side3 => repeat (first | exact (Kd.R_reads' HO553.out).2.2 | (with_reducible refine Kd.C_alloc ?_ _) | (with_reducible refine Kd.C_drewN ?_ _) | (with_reducible refine Kd.C_drew ?_))); (case side4 => exact (Kd.R_reads' HO553.out).2.1); (case side5 => exact ax236); rintro e w11 ⟨rfl, hb⟩; refine ⟨_, rfl, ?_⟩; have n0_ := Aside0.mk (Kd.R_below (by (with_reducible repeat (first | apply Kd.R_alloc | apply Kd.R_drewN | apply Kd.R_drew)); exact HO553.out) hb); have n1_ := Aside0.mk (blk_below (g := gb547) (o := .cells #[.slice A0_0 l0_0.length c0_0] 30 (0, 0)) ax235 hb); have n2_ := Aside0.mk (blk_below (g := gb549) (o := .cells #[.slice A0_0 l0_0.length c0_0, .int .i64 t550, .slice Ao10 t551.length co10] 69 (0, 0)) ax236 hb); have n3_ := Aside0.mk (below_step (by repeat (first | (with_reducible first | exact HB.out | apply below_alloc | apply pw_below_drewN | apply below_drew1 | refine below_set ?_ GE547.out | refine below_set ?_ GE549.out) | exact HB.out)) hb); clear HO553; clear BK547; clear BK549; clear HB; have HO553 := n0_; have BK547 := n1_; have BK549 := n2_; have HB := n3_; clear n0_ n1_ n2_ n3_; (try clear hb); (try clear hb2); (try clear hk); (try clear hi)))
  go_ret2
  exact ⟨by first | rfl | (simp [errW_none, errW_some] <;> rfl) | (simp [*, errW_none, errW_some] <;> rfl), by repeat (first | (with_reducible first | exact HB.out | apply below_alloc | apply pw_below_drewN | apply below_drew1 | refine below_set ?_ GE547.out | refine below_set ?_ GE549.out) | exact HB.out)⟩
 ·replace c5 := Bool.eq_false_iff.mpr c5
  subst c5
  have H1 : (some (0, false)) = some (r1, r2) := by rw [if_neg (show ¬ (false = true) by decide)] at H; exact H
  clear H; have H := H1; clear H1
  simp only [Option.some.injEq, Prod.mk.injEq] at H
  obtain ⟨rfl, rfl⟩ := H
  go_enter Try.func25, Try.ntmps25
  go_wp2_with (first | ((with_reducible refine gate_dst (N := 3) rfl ?_); refine box_event ?hg (N := 3) ?hd (cs := #[.slice A0_0 l0_0.length c0_0]) (t := 30) ?hr ?_; (case hd => rfl); (case hg => rfl); (case hr => exact ax31); intro gb547 hg w12 hbox hb; have n0_ := Aside0.mk (below_step ax32 hb); have n1_ := Aside0.mk (hbox); have n2_ := Aside0.mk ((ax33 : w.heap.size ≤ gb547)); have n3_ := Aside0.mk ((ax33 : w.heap.size ≤ gb547)); clear HB; have HB := n0_; have BK547 := n1_; have GW547 := n2_; have GE547 := n3_; clear n0_ n1_ n2_ n3_; clear hb hbox hg; have hcz13_0 : w12.cell? ⟨gb547, 0, none⟩ = some (.slice A0_0 l0_0.length c0_0) := (blk_cell BK547.out 0).trans rfl; have hfz13_0 := blk_frozen BK547.out 0) | ((with_reducible refine gate_callee (f := 51) rfl ?_); refine goesL_ (some 14) rfl rfl Try.func51 (by kernel_rfl) rfl #[.agg #[.slice A0_0 l0_0.length c0_0], .int .i64 a1, .int .i64 a2] rfl ax34 ?_; (with_reducible refine (impl_gameAt.calls k _ _ l0_0 a1 a2 false t550 t551 _ ?side1 ?side2 A4.out).mono ?_); (case side1 => exact ax35); (case side2 => exact ax36); (rintro e w14 ⟨hb, hno_, hyes_⟩; obtain rfl := hno_ rfl; clear hyes_); refine ⟨_, rfl, ?_⟩; have n0_ := Aside0.mk (blk_below (g := gb547) (o := .cells #[.slice A0_0 l0_0.length c0_0] 30 (0, 0)) ax235 hb); have n1_ := Aside0.mk (below_step ax234 hb); clear BK547; clear HB; have BK547 := n0_; have HB := n1_; clear n0_ n1_; (try clear hb); (try clear hb2); (try clear hk); (try clear hi); (try clear ho0)))
  go_ret2
  exact ⟨by first | rfl | (simp [errW_none, errW_some] <;> rfl) | (simp [*, errW_none, errW_some] <;> rfl), by repeat (first | (with_reducible first | exact HB.out | apply below_alloc | apply pw_below_drewN | apply below_drew1 | refine below_set ?_ GE547.out) | exact HB.out)⟩

/-! ### laws_FnExactCountGames: function 7 -/
def laws_FnExactCountGames.j0 : Nat → Bool → List (S80) → List (S67) → Option (Bool)
 | 0, _, _, _ => none
 | k + 1, x42, x556000, x566000 => if x42 = true then (some false) else ((laws_toTrie.f k x556000).bind fun t568 => ((laws_eqTrie.f k x566000 t568).bind fun t571 => (if t571 = true then (some true) else (some false))))
def laws_FnExactCountGames.f (k : Nat) (l0_0 : List (S80)) (a1 : Int) (a2 : Int) : Option (Bool) := (laws_szTrie.f l0_0 1048576).bind fun t556 => (if t556 < 0 then (some true) else ((laws_toTrie.f k l0_0).bind fun t557 => ((spec_CountGames.f k t557 a1 a2).bind fun bt560 => ((laws_toTrie.f k l0_0).bind fun t562 => ((impl_CountGames.f k t562 a1 a2).bind fun bt566 => (if bt566.1 = bt560.1 then (laws_FnExactCountGames.j0 k (bt566.2 != bt560.2) l0_0 t562) else (laws_FnExactCountGames.j0 k true l0_0 t562)))))))
theorem laws_FnExactCountGames.mono_l : ∀ k, (∀ y0 y1 y2, LeO (laws_FnExactCountGames.j0 k y0 y1 y2) (laws_FnExactCountGames.j0 (k + 1) y0 y1 y2))
 | 0 => fun _ _ _ r h => by simp [laws_FnExactCountGames.j0] at h
 | k + 1 => by
  have ih0 := laws_FnExactCountGames.mono_l k
  ·intro y0 y1 y2
   unfold laws_FnExactCountGames.j0
   repeat' first
   | (with_reducible exact ih0 _ _ _)
   | (with_reducible exact impl_CountGames.mono _ _ _ _)
   | (with_reducible exact laws_eqTrie.mono _ _ _)
   | (with_reducible exact laws_toTrie.mono _ _)
   | (with_reducible exact spec_CountGames.mono _ _ _ _)
   | (with_reducible exact LeO.refl _)
   | (with_reducible exact LeO.none _)
   | (with_reducible refine LeO.ite ?_ ?_)
   | (with_reducible refine LeO.bind ?_ (fun _ => ?_))
   | exact ih0 _ _ _
   | exact impl_CountGames.mono _ _ _ _
   | exact laws_eqTrie.mono _ _ _
   | exact laws_toTrie.mono _ _
   | exact spec_CountGames.mono _ _ _ _
   | exact LeO.none _
   | refine LeO.ite ?_ ?_
   | refine LeO.bind ?_ (fun _ => ?_)
theorem laws_FnExactCountGames.mono : ∀ a0 a1 a2 k, LeO (laws_FnExactCountGames.f k a0 a1 a2) (laws_FnExactCountGames.f (k + 1) a0 a1 a2) := by
 intro a0 a1 a2 k
 have ih0 := laws_FnExactCountGames.mono_l k
 unfold laws_FnExactCountGames.f
 repeat' first
   | (with_reducible exact ih0 _ _ _)
   | (with_reducible exact impl_CountGames.mono _ _ _ _)
   | (with_reducible exact laws_eqTrie.mono _ _ _)
   | (with_reducible exact laws_toTrie.mono _ _)
   | (with_reducible exact spec_CountGames.mono _ _ _ _)
   | (with_reducible exact LeO.refl _)
   | (with_reducible exact LeO.none _)
   | (with_reducible refine LeO.ite ?_ ?_)
   | (with_reducible refine LeO.bind ?_ (fun _ => ?_))
   | exact ih0 _ _ _
   | exact impl_CountGames.mono _ _ _ _
   | exact laws_eqTrie.mono _ _ _
   | exact laws_toTrie.mono _ _
   | exact spec_CountGames.mono _ _ _ _
   | exact LeO.none _
   | refine LeO.ite ?_ ?_
   | refine LeO.bind ?_ (fun _ => ?_)
set_option maxHeartbeats 8000000 in
set_option maxRecDepth 100000 in
theorem laws_FnExactCountGames.calls (k : Nat) (A0_0 : Option Addr) (c0_0 : Nat) (l0_0 : List (S80)) (a1 : Int) (a2 : Int) (r : Bool) (w : World) (hr0_0 : Kd.C k80 w A0_0 l0_0.length l0_0) (hc0_0 : l0_0.length ≤ c0_0) (h : laws_FnExactCountGames.f k l0_0 a1 a2 = some r) (hr_ : r = true) :
  Calls Try.prog 7 #[.agg #[.slice A0_0 l0_0.length c0_0], .int .i64 a1, .int .i64 a2] w fun e w' => e = .returned (.bool r) ∧ Below w.heap.size w w' := by
 have hu24 := Try.underlying24; have hu30 := Try.underlying30; have HR0_0 := Aside0.mk hr0_0; have HC0_0 := Aside0.mk hc0_0; clear hr0_0 hc0_0; have HB := Aside0.mk (Below.refl w.heap.size w); have HRT := Aside0.mk hr_; clear hr_
 have H : ((laws_szTrie.f l0_0 1048576).bind fun t556 => (if t556 < 0 then (some true) else ((laws_toTrie.f k l0_0).bind fun t557 => ((spec_CountGames.f k t557 a1 a2).bind fun bt560 => ((laws_toTrie.f k l0_0).bind fun t562 => ((impl_CountGames.f k t562 a1 a2).bind fun bt566 => (if bt566.1 = bt560.1 then (laws_FnExactCountGames.j0 k (bt566.2 != bt560.2) l0_0 t562) else (laws_FnExactCountGames.j0 k true l0_0 t562)))))))) = some r := h
 clear h; replace H := Option.bind_eq_some_iff.mp H
 obtain ⟨t556, A40, H⟩ := H
 replace H : (if t556 < 0 then (some true) else ((laws_toTrie.f k l0_0).bind fun t557 => ((spec_CountGames.f k t557 a1 a2).bind fun bt560 => ((laws_toTrie.f k l0_0).bind fun t562 => ((impl_CountGames.f k t562 a1 a2).bind fun bt566 => (if bt566.1 = bt560.1 then (laws_FnExactCountGames.j0 k (bt566.2 != bt560.2) l0_0 t562) else (laws_FnExactCountGames.j0 k true l0_0 t562))))))) = some r := H
 have A4 := Aside0.mk A40; clear A40
 by_cases c5 : t556 < 0
 ·rw [if_pos c5] at H
  have c5b0 : decide (t556 < 0) = true := decide_eq_true c5
  clear c5
  obtain rfl := Option.some.inj H
  go_enter Try.func7, Try.ntmps7
  go_wp2_with (first | ((with_reducible refine gate_dst (N := 3) rfl ?_); refine box_event ?hg (N := 3) ?hd (cs := #[.slice A0_0 l0_0.length c0_0]) (t := 24) ?hr ?_; (case hd => rfl); (case hg => rfl); (case hr => exact ax31); intro gb555 hg w6 hbox hb; have n0_ := Aside0.mk (below_step ax32 hb); have n1_ := Aside0.mk (hbox); have n2_ := Aside0.mk ((ax33 : w.heap.size ≤ gb555)); have n3_ := Aside0.mk ((ax33 : w.heap.size ≤ gb555)); clear HB; have HB := n0_; have BK555 := n1_; have GW555 := n2_; have GE555 := n3_; clear n0_ n1_ n2_ n3_; clear hb hbox hg; have hcz7_0 : w6.cell? ⟨gb555, 0, none⟩ = some (.slice A0_0 l0_0.length c0_0) := (blk_cell BK555.out 0).trans rfl; have hfz7_0 := blk_frozen BK555.out 0) | ((with_reducible refine gate_callee (f := 13) rfl ?_); refine goesL_ (some 15) rfl rfl Try.func13 (by kernel_rfl) rfl #[.agg #[.slice A0_0 l0_0.length c0_0], .int .i64 1048576] rfl ax34 ?_; (with_reducible refine (laws_szTrie.calls _ _ l0_0 1048576 t556 _ ?side1 ?side2 A4.out).mono ?_); (case side1 => exact ax35); (case side2 => exact ax36); rintro e w8 ⟨rfl, hb⟩; refine ⟨_, rfl, ?_⟩; have n0_ := Aside0.mk (blk_below (g := gb555) (o := .cells #[.slice A0_0 l0_0.length c0_0] 24 (0, 0)) ax237 hb); have n1_ := Aside0.mk (below_step ax238 hb); clear BK555; clear HB; have BK555 := n0_; have HB := n1_; clear n0_ n1_; (try clear hb); (try clear hb2); (try clear hk); (try clear hi)))
  go_ret
  exact ⟨by first | rfl | (simp [errW_none, errW_some] <;> rfl) | (simp [*, errW_none, errW_some] <;> rfl), by repeat (first | (with_reducible first | exact HB.out | apply below_alloc | apply pw_below_drewN | apply below_drew1 | refine below_set ?_ GE555.out) | exact HB.out)⟩
 ·rw [if_neg c5] at H
  have c5b0 : decide (t556 < 0) = false := decide_eq_false c5
  clear c5; replace H := Option.bind_eq_some_iff.mp H
  obtain ⟨t557, A90, H⟩ := H
  replace H : ((spec_CountGames.f k t557 a1 a2).bind fun bt560 => ((laws_toTrie.f k l0_0).bind fun t562 => ((impl_CountGames.f k t562 a1 a2).bind fun bt566 => (if bt566.1 = bt560.1 then (laws_FnExactCountGames.j0 k (bt566.2 != bt560.2) l0_0 t562) else (laws_FnExactCountGames.j0 k true l0_0 t562))))) = some r := H
  have A9 := Aside0.mk A90; clear A90; replace H := Option.bind_eq_some_iff.mp H
  obtain ⟨⟨t560, t561⟩, A100, H⟩ := H
  replace H : ((laws_toTrie.f k l0_0).bind fun t562 => ((impl_CountGames.f k t562 a1 a2).bind fun bt566 => (if bt566.1 = t560 then (laws_FnExactCountGames.j0 k (bt566.2 != t561) l0_0 t562) else (laws_FnExactCountGames.j0 k true l0_0 t562)))) = some r := H
  have A10 := Aside0.mk A100; clear A100; replace H := Option.bind_eq_some_iff.mp H
  obtain ⟨t562, A110, H⟩ := H
  replace H : ((impl_CountGames.f k t562 a1 a2).bind fun bt566 => (if bt566.1 = t560 then (laws_FnExactCountGames.j0 k (bt566.2 != t561) l0_0 t562) else (laws_FnExactCountGames.j0 k true l0_0 t562))) = some r := H
  have A11 := Aside0.mk A110; clear A110; replace H := Option.bind_eq_some_iff.mp H
  obtain ⟨⟨t566, t567⟩, A120, H⟩ := H
  replace H : (if t566 = t560 then (laws_FnExactCountGames.j0 k (t567 != t561) l0_0 t562) else (laws_FnExactCountGames.j0 k true l0_0 t562)) = some r := H
  have A12 := Aside0.mk A120; clear A120; have HC13 := Aside0.mk H; clear H
  go_enter Try.func7, Try.ntmps7
  go_upto_region 8 with (first | ((with_reducible refine gate_dst (N := 3) rfl ?_); refine box_event ?hg (N := 3) ?hd (cs := #[.slice A0_0 l0_0.length c0_0]) (t := 24) ?hr ?_; (case hd => rfl); (case hg => rfl); (case hr => exact ax31); intro gb555 hg w14 hbox hb; have n0_ := Aside0.mk (below_step ax32 hb); have n1_ := Aside0.mk (hbox); have n2_ := Aside0.mk ((ax33 : w.heap.size ≤ gb555)); have n3_ := Aside0.mk ((ax33 : w.heap.size ≤ gb555)); clear HB; have HB := n0_; have BK555 := n1_; have GW555 := n2_; have GE555 := n3_; clear n0_ n1_ n2_ n3_; clear hb hbox hg; have hcz15_0 : w14.cell? ⟨gb555, 0, none⟩ = some (.slice A0_0 l0_0.length c0_0) := (blk_cell BK555.out 0).trans rfl; have hfz15_0 := blk_frozen BK555.out 0) | ((with_reducible refine gate_callee (f := 13) rfl ?_); refine goesL_ (some 15) rfl rfl Try.func13 (by kernel_rfl) rfl #[.agg #[.slice A0_0 l0_0.length c0_0], .int .i64 1048576] rfl ax34 ?_; (with_reducible refine (laws_szTrie.calls _ _ l0_0 1048576 t556 _ ?side1 ?side2 A4.out).mono ?_); (case side1 => exact ax35); (case side2 => exact ax36); rintro e w16 ⟨rfl, hb⟩; refine ⟨_, rfl, ?_⟩; have n0_ := Aside0.mk (blk_below (g := gb555) (o := .cells #[.slice A0_0 l0_0.length c0_0] 24 (0, 0)) ax237 hb); have n1_ := Aside0.mk (below_step ax238 hb); clear BK555; clear HB; have BK555 := n0_; have HB := n1_; clear n0_ n1_; (try clear hb); (try clear hb2); (try clear hk); (try clear hi); have hcz17_0 : w16.cell? ⟨gb555, 0, none⟩ = some (.slice A0_0 l0_0.length c0_0) := (blk_cell BK555.out 0).trans rfl; have hfz17_0 := blk_frozen BK555.out 0) | ((with_reducible refine gate_callee (f := 15) rfl ?_); refine goesL_ (some 20) rfl rfl Try.func15 (by kernel_rfl) rfl #[.agg #[.slice A0_0 l0_0.length c0_0]] rfl ax34 ?_; (with_reducible refine (laws_toTrie.calls k _ _ l0_0 t557 _ ?side1 ?side2 A9.out).mono ?_); (case side1 => exact ax35); (case side2 => exact ax36); rintro e w18 ⟨v558, rfl, ho0, hb⟩; refine ⟨_, rfl, ?_⟩; have n0_ := Aside0.mk (Kd.R_lower ho0 (below_size ax238)); have n1_ := Aside0.mk (blk_below (g := gb555) (o := .cells #[.slice A0_0 l0_0.length c0_0] 24 (0, 0)) ax237 hb); have n2_ := Aside0.mk (below_step ax238 hb); clear BK555; clear HB; have HO559 := n0_; have BK555 := n1_; have HB := n2_; clear n0_ n1_ n2_; (try clear hb); (try clear hb2); (try clear hk); (try clear hi); (try clear ho0); obtain ⟨Ao19, co19, eo19⟩ := Kd.R_slice HO559.out; subst eo19) | ((with_reducible refine gate_callee (f := 24) rfl ?_); refine goesL_ (some 23) rfl rfl Try.func24 (by kernel_rfl) rfl #[.agg #[.slice Ao19 t557.length co19], .int .i64 a1, .int .i64 a2] rfl ax34 ?_; (with_reducible refine (spec_CountGames.calls k _ _ t557 a1 a2 t560 t561 _ ?side1 ?side2 A10.out).mono ?_); (case side1 => repeat (first | exact (Kd.R_reads' HO559.out).2.2 | (with_reducible refine Kd.C_alloc ?_ _) | (with_reducible refine Kd.C_drewN ?_ _) | (with_reducible refine Kd.C_drew ?_))); (case side2 => exact (Kd.R_reads' HO559.out).2.1); rintro e w20 ⟨rfl, hb⟩; refine ⟨_, rfl, ?_⟩; have n0_ := Aside0.mk (Kd.R_below ax239 hb); have n1_ := Aside0.mk (blk_below (g := gb555) (o := .cells #[.slice A0_0 l0_0.length c0_0] 24 (0, 0)) ax237 hb); have n2_ := Aside0.mk (below_step ax238 hb); clear HO559; clear BK555; clear HB; have HO559 := n0_; have BK555 := n1_; have HB := n2_; clear n0_ n1_ n2_; (try clear hb); (try clear hb2); (try clear hk); (try clear hi); have hcz21_0 : w20.cell? ⟨gb555, 0, none⟩ = some (.slice A0_0 l0_0.length c0_0) := (blk_cell BK555.out 0).trans rfl; have hfz21_0 := blk_frozen BK555.out 0) | ((with_reducible refine gate_callee (f := 15) rfl ?_); refine goesL_ (some 27) rfl rfl Try.func15 (by kernel_rfl) rfl #[.agg #[.slice A0_0 l0_0.length c0_0]] rfl ax34 ?_; (with_reducible refine (laws_toTrie.calls k _ _ l0_0 t562 _ ?side1 ?side2 A11.out).mono ?_); (case side1 => exact ax35); (case side2 => exact ax36); rintro e w22 ⟨v563, rfl, ho0, hb⟩; refine ⟨_, rfl, ?_⟩; have n0_ := Aside0.mk (Kd.R_elder' ax239 (Kd.R_base ho0) hb); have n1_ := Aside0.mk (Kd.R_lower (Kd.R_new' ho0 (Kd.R_lt ax239)) (below_size ax238)); have n2_ := Aside0.mk (blk_below (g := gb555) (o := .cells #[.slice A0_0 l0_0.length c0_0] 24 (0, 0)) ax237 hb); have n3_ := Aside0.mk (below_step ax238 hb); clear HO559; clear BK555; clear HB; have HO559 := n0_; have HO564 := n1_; have BK555 := n2_; have HB := n3_; clear n0_ n1_ n2_ n3_; (try clear hb); (try clear hb2); (try clear hk); (try clear hi); (try clear ho0)) | ((with_reducible refine gate_dst (N := 10) rfl ?_); refine box_event ?hg (N := 10) ?hd (cs := #[.slice none 0 0]) (t := 30) ?hr ?_; (case hd => rfl); (case hg => rfl); (case hr => exact ax31); intro gb565 hg w23 hbox hb; have n0_ := Aside0.mk (Kd.R_below ax239 hb); have n1_ := Aside0.mk (Kd.R_below (by (with_reducible repeat (first | apply Kd.R_alloc | apply Kd.R_drewN | apply Kd.R_drew)); exact HO564.out) hb); have n2_ := Aside0.mk (blk_below (g := gb555) (o := .cells #[.slice A0_0 l0_0.length c0_0] 24 (0, 0)) ax237 hb); have n3_ := Aside0.mk (below_step ax238 hb); have n4_ := Aside0.mk (hbox); have n5_ := Aside0.mk ((ax240 : w.heap.size ≤ gb565)); have n6_ := Aside0.mk ((ax240 : w.heap.size ≤ gb565)); have n7_ := Aside0.mk ((by rw [hg]; exact Nat.ne_of_lt (blk_lt (g := gb555) (o := .cells #[.slice A0_0 l0_0.length c0_0] 24 (0, 0)) ax237) : gb555 ≠ gb565)); have n8_ := Aside0.mk ((by rw [hg]; exact Nat.ne_of_gt (blk_lt (g := gb555) (o := .cells #[.slice A0_0 l0_0.length c0_0] 24 (0, 0)) ax237) : gb565 ≠ gb555)); clear HO559; clear HO564; clear BK555; clear HB; have HO559 := n0_; have HO564 := n1_; have BK555 := n2_; have HB := n3_; have BK565 := n4_; have GW565 := n5_; have GE565 := n6_; have NB555_565 := n7_; have NB565_555 := n8_; clear n0_ n1_ n2_ n3_ n4_ n5_ n6_ n7_ n8_; clear hb hbox hg; obtain ⟨Ao24, co24, eo24⟩ := Kd.R_slice HO564.out; subst eo24; have hnb25 := NB565_555.out; have hnc25 := NB555_565.out; have hcz26_0 : w23.cell? ⟨gb565, 0, none⟩ = some (.slice none 0 0) := (blk_cell BK565.out 0).trans rfl; have hfz26_0 := blk_frozen BK565.out 0) | ((with_reducible refine gate_callee (f := 25) rfl ?_); refine goesL_ (some 32) rfl rfl Try.func25 (by kernel_rfl) rfl #[.agg #[.slice Ao24 t562.length co24], .int .i64 a1, .int .i64 a2] rfl ax34 ?_; (with_reducible refine (impl_CountGames.calls k _ _ t562 a1 a2 t566 t567 _ ?side1 ?side2 A12.out).mono ?_); (case side1 => refine (Kd.R_reads' (e := 67) (base := w.heap.size) (ok := fun k_ => (True ∧ some k_ ≠ (.slice Ao19 t557.length co19 : Value).ownBlock)) (n := t562.length) (c := co24) ?_).2.2; exact ax241); (case side2 => exact (Kd.R_reads' HO564.out).2.1); rintro e w27 ⟨rfl, hb⟩; refine ⟨_, rfl, ?_⟩; have n0_ := Aside0.mk (Kd.R_below (by (with_reducible repeat (first | apply Kd.R_alloc | apply Kd.R_drewN | apply Kd.R_drew)); exact (Kd.R_mono (Kd.R_far (p := ⟨gb565, 0, none⟩) (Kd.R_types HO559.out BK565.out (by decide)) (fun _ hk => hk.2) (.slice Ao24 t562.length co24)) (fun _ h_ => h_.1))) hb); have n1_ := Aside0.mk (Kd.R_below ax241 hb); have n2_ := Aside0.mk (blk_below (g := gb555) (o := .cells #[.slice A0_0 l0_0.length c0_0] 24 (0, 0)) (by (with_reducible repeat (first | refine blk_drewN ?_ _ | refine blk_drew ?_ | refine blk_alloc ?_ _)); refine blk_far ?_ NB555_565.out _; (with_reducible repeat (first | refine blk_drewN ?_ _ | refine blk_drew ?_ | refine blk_alloc ?_ _)); exact BK555.out) hb); have n3_ := Aside0.mk (blk_below (g := gb565) (o := .cells #[.slice Ao24 t562.length co24] 30 (0, 0)) (by (with_reducible repeat (first | refine blk_drewN ?_ _ | refine blk_drew ?_ | refine blk_alloc ?_ _)); refine blk_put (cs := #[.slice none 0 0]) ?_ 0 _ rfl; (with_reducible repeat (first | refine blk_drewN ?_ _ | refine blk_drew ?_ | refine blk_alloc ?_ _)); exact BK565.out) hb); have n4_ := Aside0.mk (below_step ax242 hb); clear HO559; clear HO564; clear BK555; clear BK565; clear HB; have HO559 := n0_; have HO564 := n1_; have BK555 := n2_; have BK565 := n3_; have HB := n4_; clear n0_ n1_ n2_ n3_ n4_; (try clear hb); (try clear hb2); (try clear hk); (try clear hi)))
  (try simp only [Act.put, List.setIfInBounds_toArray, List.set_cons_zero, List.set_cons_succ])
  go_cut [42] (fun v42 wc => ∃ (kq : Nat) (x42_12 : Bool), v42 = .bool x42_12 ∧ Aside0 (laws_FnExactCountGames.j0 kq x42_12 l0_0 t562 = some r) ∧ Aside0 (kq ≤ k) ∧ Aside0 (Kd.R k67 67 wc w.heap.size (fun _ => True) (.slice Ao24 t562.length co24) t562) ∧ Aside0 (wc.heap[gb555]? = some (.cells #[(.slice A0_0 l0_0.length c0_0)] 24 (0, 0))) ∧ Aside0 (wc.heap[gb565]? = some (.cells #[(.slice Ao24 t562.length co24)] 30 (0, 0))) ∧ Aside0 (Below w.heap.size w wc))
  case first =>
   have H := HC13.out; clear HC13
   by_cases c28 : t566 = t560
   ·rw [if_pos c28] at H
    have c28b0 : (t566 == t560) = true := beq_iff_eq.mpr c28
    have c28b1 : (t566 != t560) = false := bne_eq_false_iff_eq.mpr c28
    clear c28
    (first | rw [c28b0] | (simp only [i64_w, i32_w]; rw [c28b0]) | skip)
    have H' := Aside0.mk H
    clear H
    go_wp2
    go_meet
    case rel => exact ⟨_, ((t567 != t561)), ax37, H', ⟨by first | omega | exact Nat.le_refl _⟩, ⟨by (with_reducible repeat (first | apply Kd.R_alloc | apply Kd.R_drewN | apply Kd.R_drew)); exact Kd.R_mono HO564.out (fun _ hk => trivial)⟩, ⟨by (with_reducible repeat (first | refine blk_drewN ?_ _ | refine blk_drew ?_ | refine blk_alloc ?_ _)); exact BK555.out⟩, ⟨by (with_reducible repeat (first | refine blk_drewN ?_ _ | refine blk_drew ?_ | refine blk_alloc ?_ _)); exact BK565.out⟩, ⟨by repeat (first | (with_reducible first | exact HB.out | apply below_alloc | apply pw_below_drewN | apply below_drew1 | refine below_set ?_ GE555.out | refine below_set ?_ GE565.out) | exact HB.out)⟩⟩
   ·rw [if_neg c28] at H
    have c28b0 : (t566 == t560) = false := beq_eq_false_iff_ne.mpr c28
    have c28b1 : (t566 != t560) = true := bne_iff_ne.mpr c28
    (first | rw [c28b0] | (simp only [i64_w, i32_w]; rw [c28b0]) | skip)
    have H' := Aside0.mk H
    clear H
    go_wp2
    go_meet
    case rel => exact ⟨_, (true), ax37, H', ⟨by first | omega | exact Nat.le_refl _⟩, ⟨by (with_reducible repeat (first | apply Kd.R_alloc | apply Kd.R_drewN | apply Kd.R_drew)); exact Kd.R_mono HO564.out (fun _ hk => trivial)⟩, ⟨by (with_reducible repeat (first | refine blk_drewN ?_ _ | refine blk_drew ?_ | refine blk_alloc ?_ _)); exact BK555.out⟩, ⟨by (with_reducible repeat (first | refine blk_drewN ?_ _ | refine blk_drew ?_ | refine blk_alloc ?_ _)); exact BK565.out⟩, ⟨by repeat (first | (with_reducible first | exact HB.out | apply below_alloc | apply pw_below_drewN | apply below_drew1 | refine below_set ?_ GE555.out | refine below_set ?_ GE565.out) | exact HB.out)⟩⟩
  case rest =>
   clear HC13
   try clear c1
   try clear c2
   try clear p2
   try clear c5
   try clear c5b0
   try clear c7
   try clear c13
   try clear c15
   try clear c24
   try clear c25
   try clear c28
   try clear c28b0
   try clear c28b1
   try clear hcz15_0
   try clear hcz17_0
   try clear hcz21_0
   try clear hcz26_0
   try clear hcz7_0
   try clear hfz15_0
   try clear hfz17_0
   try clear hfz21_0
   try clear hfz26_0
   try clear hfz7_0
   obtain ⟨kq, x42_12, rfl, HA, HJ12, HO_566000, BK555, BK565, HB⟩ := hcut
   cases kq with
   | zero => exact absurd HA.out (by simp [laws_FnExactCountGames.j0])
   | succ kj12 =>
    have H := HA.out; clear HA
    simp only [laws_FnExactCountGames.j0] at H
    by_cases c29 : x42_12 = true
    ·exact ax24
    ·replace c29 := Bool.eq_false_iff.mpr c29
     subst c29
     have H1 : ((laws_toTrie.f kj12 l0_0).bind fun t568 => ((laws_eqTrie.f kj12 t562 t568).bind fun t571 => (if t571 = true then (some true) else (some false)))) = some r := by rw [if_neg (show ¬ (false = true) by decide)] at H; exact H
     clear H; have H := H1; clear H1; replace H := Option.bind_eq_some_iff.mp H
     obtain ⟨t568, A300, H⟩ := H
     replace H : ((laws_eqTrie.f kj12 t562 t568).bind fun t571 => (if t571 = true then (some true) else (some false))) = some r := H
     have A30 := Aside0.mk A300; clear A300; replace H := Option.bind_eq_some_iff.mp H
     obtain ⟨t571, A310, H⟩ := H
     replace H : (if t571 = true then (some true) else (some false)) = some r := H
     have A31 := Aside0.mk A310; clear A310
     by_cases c32 : t571 = true
     ·subst c32
      have H1 : (some true) = some r := by rw [if_pos rfl] at H; exact H
      clear H; have H := H1; clear H1
      obtain rfl := Option.some.inj H
      try go_wp2
      have n0_ := Aside0.mk (Kd.R_drew HO_566000.out); have n1_ := Aside0.mk (blk_drew BK555.out); have n2_ := Aside0.mk (blk_drew BK565.out); have n3_ := Aside0.mk (below_drew1 HB.out); clear HO_566000; clear BK555; clear BK565; clear HB; have HO_566000 := n0_; have BK555 := n1_; have BK565 := n2_; have HB := n3_; clear n0_ n1_ n2_ n3_
      refine start_ (n := 5) (S := fun w' => w'.cell? ⟨gb565, 0, none⟩ = some (.slice Ao24 t562.length co24) ∧ w'.cell? ⟨gb555, 0, none⟩ = some (.slice A0_0 l0_0.length c0_0)) (ds := []) #[false, false, false, false, false] (by kernel_rfl) rfl rfl ⟨(blk_cell BK565.out 0).trans rfl, (blk_cell BK555.out 0).trans rfl⟩ (fun hHeld => ?_)
      generalize wc.drew = w33 at HO_566000 BK555 BK565 HB hHeld ⊢
      refine take_ (i := 0) (N := some 43) (v := ?_) (a' := ?_) #[true, false, false, false, false] rfl rfl (by kernel_rfl) (fun _ _ _ h => h) (Or.inl ⟨by rfl, ?_⟩) hHeld ?_ ?_; rotate_left; exact ax17; rotate_left; exact ax6
      refine take_ (i := 1) (N := some 44) (v := ?_) (a' := ?_) #[true, true, false, false, false] rfl rfl (by kernel_rfl) (fun _ _ _ h => h) (Or.inl ⟨by rfl, ?_⟩) hHeld ?_ ?_; rotate_left; exact ax17; rotate_left; exact ax6
      refine one_ (i := 2) (N := some 45) #[true, true, true, false, false] rfl rfl (by kernel_rfl) (by decide) (fun K hK => ?_)
      refine goes_ Try.func15 (by kernel_rfl) rfl #[.agg #[.slice A0_0 l0_0.length c0_0]] (by rfl) rfl rfl ax34 ?_
      with_reducible refine (laws_toTrie.calls kj12 _ _ l0_0 t568 _ ?side1 ?side2 A30.out).mono ?_
      (case side1 => exact ax35)
      (case side2 => exact ax36)
      rintro e w34 ⟨v569, rfl, ho0, hb⟩
      refine ⟨_, rfl, ?_⟩
      have n0_ := Aside0.mk (Kd.R_elder' ax243 (Kd.R_base ho0) hb); have n1_ := Aside0.mk (Kd.R_lower (Kd.R_new' ho0 (Kd.R_lt ax243)) (below_size ax242))
      have n2_ := Aside0.mk (blk_below (g := gb555) (o := .cells #[.slice A0_0 l0_0.length c0_0] 24 (0, 0)) ax237 hb)
      have n3_ := Aside0.mk (blk_below (g := gb565) (o := .cells #[.slice Ao24 t562.length co24] 30 (0, 0)) ax244 hb)
      have n4_ := Aside0.mk (below_step ax242 hb); clear HO_566000; clear BK555; clear BK565; clear HB; have HO_566000 := n0_; have HO570 := n1_; have BK555 := n2_; have BK565 := n3_; have HB := n4_; clear n0_ n1_ n2_ n3_ n4_; (try clear hb); (try clear hb2); (try clear hk); (try clear hi); (try clear ho0)
      obtain ⟨Ao35, co35, eo35⟩ := Kd.R_slice HO570.out
      (first | subst eo35 | (injection eo35 with f1_ f2_ f3_; have f4_ := f1_.symm; have f5_ := f3_.symm; clear f1_ f2_ f3_; subst f4_; subst f5_))
      refine hK.out _ _ ⟨(blk_cell BK565.out 0).trans rfl, (blk_cell BK555.out 0).trans rfl⟩ (fun hHeld => ?_)
      clear hK K
      refine norm_ (a' := ?_) ?_ ?_
      rotate_left
      ·exact ax25
      refine one_ (i := 3) (N := some 46) #[true, true, true, true, false] rfl rfl (by kernel_rfl) (by decide) (fun K hK => ?_)
      refine goes_ Try.func17 (by kernel_rfl) rfl #[.agg #[.slice Ao24 t562.length co24], .agg #[.slice Ao35 t568.length co35]] (by rfl) rfl rfl ax34 ?_
      with_reducible refine (laws_eqTrie.calls kj12 _ _ t562 _ _ t568 true _ ?side1 ?side2 ?side3 ?side4 A31.out).mono ?_
      (case side1 => repeat (first | exact (Kd.R_reads' HO_566000.out).2.2 | (with_reducible refine Kd.C_alloc ?_ _) | (with_reducible refine Kd.C_drewN ?_ _) | (with_reducible refine Kd.C_drew ?_)))
      (case side2 => exact (Kd.R_reads' HO_566000.out).2.1)
      (case side3 => repeat (first | exact (Kd.R_reads' HO570.out).2.2 | (with_reducible refine Kd.C_alloc ?_ _) | (with_reducible refine Kd.C_drewN ?_ _) | (with_reducible refine Kd.C_drew ?_)))
      (case side4 => exact (Kd.R_reads' HO570.out).2.1)
      rintro e w36 ⟨rfl, hb⟩
      refine ⟨_, rfl, ?_⟩
      have n0_ := Aside0.mk (Kd.R_below ax243 hb)
      have n1_ := Aside0.mk (Kd.R_below (by (with_reducible repeat (first | apply Kd.R_alloc | apply Kd.R_drewN | apply Kd.R_drew)); exact HO570.out) hb)
      have n2_ := Aside0.mk (blk_below (g := gb555) (o := .cells #[.slice A0_0 l0_0.length c0_0] 24 (0, 0)) ax237 hb)
      have n3_ := Aside0.mk (blk_below (g := gb565) (o := .cells #[.slice Ao24 t562.length co24] 30 (0, 0)) ax244 hb)
      have n4_ := Aside0.mk (below_step ax242 hb); clear HO_566000; clear HO570; clear BK555; clear BK565; clear HB; have HO_566000 := n0_; have HO570 := n1_; have BK555 := n2_; have BK565 := n3_; have HB := n4_; clear n0_ n1_ n2_ n3_ n4_; (try clear hb); (try clear hb2); (try clear hk); (try clear hi)
      refine hK.out _ _ ⟨(blk_cell BK565.out 0).trans rfl, (blk_cell BK555.out 0).trans rfl⟩ (fun hHeld => ?_)
      clear hK K
      refine norm_ (a' := ?_) ?_ ?_
      rotate_left
      ·exact ax26
      refine pure_ (i := 4) (N := some 47) (v := ?_) (a' := ?_) #[true, true, true, true, true] rfl rfl (by kernel_rfl) (fun _ _ _ h => h) (Or.inl ⟨by rfl, ?_⟩) ?_ ?_; rotate_left; exact ax5; rotate_left; exact ax6
      refine done_ (by kernel_rfl) ?_
      try go_wp2
      go_ret
      exact ⟨by first | rfl | (simp [errW_none, errW_some] <;> rfl) | (simp [*, errW_none, errW_some] <;> rfl), by repeat (first | (with_reducible first | exact HB.out | apply below_alloc | apply pw_below_drewN | apply below_drew1 | refine below_set ?_ GE555.out | refine below_set ?_ GE565.out) | exact HB.out)⟩
     ·exact ax27
end Go.Proofs.Ytcbjfflaamlpcaa.X

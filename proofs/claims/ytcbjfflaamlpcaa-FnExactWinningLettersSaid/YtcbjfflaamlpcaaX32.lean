-- By gen.py (the session's own program over the kit's printer): functions of the program, each with its contract. Lean checks it.
import Derived.Test.YtcbjfflaamlpcaaX0
import Derived.Test.YtcbjfflaamlpcaaX2
import Derived.Test.YtcbjfflaamlpcaaX7
import Derived.Test.YtcbjfflaamlpcaaX13
import Derived.Test.YtcbjfflaamlpcaaX14
import Derived.Test.YtcbjfflaamlpcaaX15
import Derived.Test.YtcbjfflaamlpcaaX16
import Derived.Test.YtcbjfflaamlpcaaX17
namespace Go.Proofs.Ytcbjfflaamlpcaa.X
open Go.RowKit Go.Proofs.YtcbjfflaamlpcaaW.PrintWords Go.Proofs.YtcbjfflaamlpcaaW.PrintLast Go.Proofs.YtcbjfflaamlpcaaW.PrintMore
attribute [local go_sem] max2_int min2_int max_two min_two max_three min_three max_four min_four   -- for this text's walks alone
set_option linter.unusedVariables false
set_option linter.unusedSimpArgs false

/-! ### spec_OtherWins: function 20 -/
def spec_OtherWins.f (k : Nat) (l0_0 : List (S67)) (a1 : Int) (a2 : Int) : Option (Bool × Bool) := (spec_l11Good.f k l0_0 a1 a2).bind fun t456 => (if t456 = true then ((spec_l11Open.f k l0_0 a1 a2).bind fun t457 => (if t457 = true then ((spec_l11Wins.f k l0_0 a1 a2 true).bind fun t458 => (some (t458, true))) else (some (false, false)))) else (some (false, false)))
theorem spec_OtherWins.mono : ∀ a0 a1 a2 k, LeO (spec_OtherWins.f k a0 a1 a2) (spec_OtherWins.f (k + 1) a0 a1 a2) := by
 intro a0 a1 a2 k
 unfold spec_OtherWins.f
 repeat' first
   | (with_reducible exact spec_l11Good.mono _ _ _ _)
   | (with_reducible exact spec_l11Open.mono _ _ _ _)
   | (with_reducible exact spec_l11Wins.mono _ _ _ _ _)
   | (with_reducible exact LeO.refl _)
   | (with_reducible exact LeO.none _)
   | (with_reducible refine LeO.ite ?_ ?_)
   | (with_reducible refine LeO.bind ?_ (fun _ => ?_))
   | exact spec_l11Good.mono _ _ _ _
   | exact spec_l11Open.mono _ _ _ _
   | exact spec_l11Wins.mono _ _ _ _ _
   | exact LeO.none _
   | refine LeO.ite ?_ ?_
   | refine LeO.bind ?_ (fun _ => ?_)
set_option maxHeartbeats 8000000 in
set_option maxRecDepth 100000 in
theorem spec_OtherWins.calls (k : Nat) (A0_0 : Option Addr) (c0_0 : Nat) (l0_0 : List (S67)) (a1 : Int) (a2 : Int) (r1 : Bool) (r2 : Bool) (w : World) (hr0_0 : Kd.C k67 w A0_0 l0_0.length l0_0) (hc0_0 : l0_0.length ≤ c0_0) (h : spec_OtherWins.f k l0_0 a1 a2 = some (r1, r2)) :
  Calls Try.prog 20 #[.agg #[.slice A0_0 l0_0.length c0_0], .int .i64 a1, .int .i64 a2] w fun e w' => e = .returned (.tuple #[.bool r1, .bool r2]) ∧ Below w.heap.size w w' := by
 have hu30 := Try.underlying30; have HR0_0 := Aside0.mk hr0_0; have HC0_0 := Aside0.mk hc0_0; clear hr0_0 hc0_0; have HB := Aside0.mk (Below.refl w.heap.size w)
 have H : ((spec_l11Good.f k l0_0 a1 a2).bind fun t456 => (if t456 = true then ((spec_l11Open.f k l0_0 a1 a2).bind fun t457 => (if t457 = true then ((spec_l11Wins.f k l0_0 a1 a2 true).bind fun t458 => (some (t458, true))) else (some (false, false)))) else (some (false, false)))) = some (r1, r2) := h
 clear h; replace H := Option.bind_eq_some_iff.mp H
 obtain ⟨t456, A40, H⟩ := H
 replace H : (if t456 = true then ((spec_l11Open.f k l0_0 a1 a2).bind fun t457 => (if t457 = true then ((spec_l11Wins.f k l0_0 a1 a2 true).bind fun t458 => (some (t458, true))) else (some (false, false)))) else (some (false, false))) = some (r1, r2) := H
 have A4 := Aside0.mk A40; clear A40
 by_cases c5 : t456 = true
 ·subst c5
  have H1 : ((spec_l11Open.f k l0_0 a1 a2).bind fun t457 => (if t457 = true then ((spec_l11Wins.f k l0_0 a1 a2 true).bind fun t458 => (some (t458, true))) else (some (false, false)))) = some (r1, r2) := by rw [if_pos rfl] at H; exact H
  clear H; have H := H1; clear H1; replace H := Option.bind_eq_some_iff.mp H
  obtain ⟨t457, A60, H⟩ := H
  replace H : (if t457 = true then ((spec_l11Wins.f k l0_0 a1 a2 true).bind fun t458 => (some (t458, true))) else (some (false, false))) = some (r1, r2) := H
  have A6 := Aside0.mk A60; clear A60
  by_cases c7 : t457 = true
  ·subst c7
   have H1 : ((spec_l11Wins.f k l0_0 a1 a2 true).bind fun t458 => (some (t458, true))) = some (r1, r2) := by rw [if_pos rfl] at H; exact H
   clear H; have H := H1; clear H1; replace H := Option.bind_eq_some_iff.mp H
   obtain ⟨t458, A80, H⟩ := H
   replace H : (some (t458, true)) = some (r1, r2) := H
   have A8 := Aside0.mk A80; clear A80
   simp only [Option.some.injEq, Prod.mk.injEq] at H
   obtain ⟨rfl, rfl⟩ := H
   go_enter Try.func20, Try.ntmps20
   go_wp2_with (first | ((with_reducible refine gate_dst (N := 3) rfl ?_); refine box_event ?hg (N := 3) ?hd (cs := #[.slice A0_0 l0_0.length c0_0]) (t := 30) ?hr ?_; (case hd => rfl); (case hg => rfl); (case hr => exact ax31); intro gb455 hg w9 hbox hb; have n0_ := Aside0.mk (below_step ax32 hb); have n1_ := Aside0.mk (hbox); have n2_ := Aside0.mk ((ax33 : w.heap.size ≤ gb455)); have n3_ := Aside0.mk ((ax33 : w.heap.size ≤ gb455)); clear HB; have HB := n0_; have BK455 := n1_; have GW455 := n2_; have GE455 := n3_; clear n0_ n1_ n2_ n3_; clear hb hbox hg; have hcz10_0 : w9.cell? ⟨gb455, 0, none⟩ = some (.slice A0_0 l0_0.length c0_0) := (blk_cell BK455.out 0).trans rfl; have hfz10_0 := blk_frozen BK455.out 0) | ((with_reducible refine gate_callee (f := 41) rfl ?_); refine goesL_ (some 11) rfl rfl Try.func41 (by kernel_rfl) rfl #[.agg #[.slice A0_0 l0_0.length c0_0], .int .i64 a1, .int .i64 a2] rfl ax34 ?_; (with_reducible refine (spec_l11Good.calls k _ _ l0_0 a1 a2 true _ ?side1 ?side2 A4.out).mono ?_); (case side1 => exact ax35); (case side2 => exact ax36); rintro e w11 ⟨rfl, hb⟩; refine ⟨_, rfl, ?_⟩; have n0_ := Aside0.mk (blk_below (g := gb455) (o := .cells #[.slice A0_0 l0_0.length c0_0] 30 (0, 0)) ax356 hb); have n1_ := Aside0.mk (below_step ax357 hb); clear BK455; clear HB; have BK455 := n0_; have HB := n1_; clear n0_ n1_; (try clear hb); (try clear hb2); (try clear hk); (try clear hi); have hcz12_0 : w11.cell? ⟨gb455, 0, none⟩ = some (.slice A0_0 l0_0.length c0_0) := (blk_cell BK455.out 0).trans rfl; have hfz12_0 := blk_frozen BK455.out 0) | (go_at_call 42; (with_reducible refine (spec_l11Open.calls k _ _ l0_0 a1 a2 true _ ?side1 ?side2 A6.out).mono ?_); (case side1 => exact ax35); (case side2 => exact ax36); rintro e w13 ⟨rfl, hb⟩; have n0_ := Aside0.mk (blk_below (g := gb455) (o := .cells #[.slice A0_0 l0_0.length c0_0] 30 (0, 0)) ax356 hb); have n1_ := Aside0.mk (below_step ax357 hb); clear BK455; clear HB; have BK455 := n0_; have HB := n1_; clear n0_ n1_; (try clear hb); (try clear hb2); (try clear hk); (try clear hi); have hcz14_0 : w13.cell? ⟨gb455, 0, none⟩ = some (.slice A0_0 l0_0.length c0_0) := (blk_cell BK455.out 0).trans rfl; have hfz14_0 := blk_frozen BK455.out 0) | ((with_reducible refine gate_callee (f := 50) rfl ?_); refine goesL_ (some 23) rfl rfl Try.func50 (by kernel_rfl) rfl #[.agg #[.slice A0_0 l0_0.length c0_0], .int .i64 a1, .int .i64 a2, .bool true] rfl ax34 ?_; (with_reducible refine (spec_l11Wins.calls k _ _ l0_0 a1 a2 true t458 _ ?side1 ?side2 A8.out).mono ?_); (case side1 => exact ax35); (case side2 => exact ax36); rintro e w15 ⟨rfl, hb⟩; refine ⟨_, rfl, ?_⟩; have n0_ := Aside0.mk (blk_below (g := gb455) (o := .cells #[.slice A0_0 l0_0.length c0_0] 30 (0, 0)) ax356 hb); have n1_ := Aside0.mk (below_step ax357 hb); clear BK455; clear HB; have BK455 := n0_; have HB := n1_; clear n0_ n1_; (try clear hb); (try clear hb2); (try clear hk); (try clear hi)))
   go_ret2
   exact ⟨by first | rfl | (simp [errW_none, errW_some] <;> rfl) | (simp [*, errW_none, errW_some] <;> rfl), by repeat (first | (with_reducible first | exact HB.out | apply below_alloc | apply pw_below_drewN | apply below_drew1 | refine below_set ?_ GE455.out) | exact HB.out)⟩
  ·replace c7 := Bool.eq_false_iff.mpr c7
   subst c7
   have H1 : (some (false, false)) = some (r1, r2) := by rw [if_neg (show ¬ (false = true) by decide)] at H; exact H
   clear H; have H := H1; clear H1
   simp only [Option.some.injEq, Prod.mk.injEq] at H
   obtain ⟨rfl, rfl⟩ := H
   go_enter Try.func20, Try.ntmps20
   go_wp2_with (first | ((with_reducible refine gate_dst (N := 3) rfl ?_); refine box_event ?hg (N := 3) ?hd (cs := #[.slice A0_0 l0_0.length c0_0]) (t := 30) ?hr ?_; (case hd => rfl); (case hg => rfl); (case hr => exact ax31); intro gb455 hg w16 hbox hb; have n0_ := Aside0.mk (below_step ax32 hb); have n1_ := Aside0.mk (hbox); have n2_ := Aside0.mk ((ax33 : w.heap.size ≤ gb455)); have n3_ := Aside0.mk ((ax33 : w.heap.size ≤ gb455)); clear HB; have HB := n0_; have BK455 := n1_; have GW455 := n2_; have GE455 := n3_; clear n0_ n1_ n2_ n3_; clear hb hbox hg; have hcz17_0 : w16.cell? ⟨gb455, 0, none⟩ = some (.slice A0_0 l0_0.length c0_0) := (blk_cell BK455.out 0).trans rfl; have hfz17_0 := blk_frozen BK455.out 0) | ((with_reducible refine gate_callee (f := 41) rfl ?_); refine goesL_ (some 11) rfl rfl Try.func41 (by kernel_rfl) rfl #[.agg #[.slice A0_0 l0_0.length c0_0], .int .i64 a1, .int .i64 a2] rfl ax34 ?_; (with_reducible refine (spec_l11Good.calls k _ _ l0_0 a1 a2 true _ ?side1 ?side2 A4.out).mono ?_); (case side1 => exact ax35); (case side2 => exact ax36); rintro e w18 ⟨rfl, hb⟩; refine ⟨_, rfl, ?_⟩; have n0_ := Aside0.mk (blk_below (g := gb455) (o := .cells #[.slice A0_0 l0_0.length c0_0] 30 (0, 0)) ax356 hb); have n1_ := Aside0.mk (below_step ax357 hb); clear BK455; clear HB; have BK455 := n0_; have HB := n1_; clear n0_ n1_; (try clear hb); (try clear hb2); (try clear hk); (try clear hi); have hcz19_0 : w18.cell? ⟨gb455, 0, none⟩ = some (.slice A0_0 l0_0.length c0_0) := (blk_cell BK455.out 0).trans rfl; have hfz19_0 := blk_frozen BK455.out 0) | (go_at_call 42; (with_reducible refine (spec_l11Open.calls k _ _ l0_0 a1 a2 false _ ?side1 ?side2 A6.out).mono ?_); (case side1 => exact ax35); (case side2 => exact ax36); rintro e w20 ⟨rfl, hb⟩; have n0_ := Aside0.mk (blk_below (g := gb455) (o := .cells #[.slice A0_0 l0_0.length c0_0] 30 (0, 0)) ax356 hb); have n1_ := Aside0.mk (below_step ax357 hb); clear BK455; clear HB; have BK455 := n0_; have HB := n1_; clear n0_ n1_; (try clear hb); (try clear hb2); (try clear hk); (try clear hi)))
   go_ret2
   exact ⟨by first | rfl | (simp [errW_none, errW_some] <;> rfl) | (simp [*, errW_none, errW_some] <;> rfl), by repeat (first | (with_reducible first | exact HB.out | apply below_alloc | apply pw_below_drewN | apply below_drew1 | refine below_set ?_ GE455.out) | exact HB.out)⟩
 ·replace c5 := Bool.eq_false_iff.mpr c5
  subst c5
  have H1 : (some (false, false)) = some (r1, r2) := by rw [if_neg (show ¬ (false = true) by decide)] at H; exact H
  clear H; have H := H1; clear H1
  simp only [Option.some.injEq, Prod.mk.injEq] at H
  obtain ⟨rfl, rfl⟩ := H
  go_enter Try.func20, Try.ntmps20
  go_wp2_with (first | ((with_reducible refine gate_dst (N := 3) rfl ?_); refine box_event ?hg (N := 3) ?hd (cs := #[.slice A0_0 l0_0.length c0_0]) (t := 30) ?hr ?_; (case hd => rfl); (case hg => rfl); (case hr => exact ax31); intro gb455 hg w21 hbox hb; have n0_ := Aside0.mk (below_step ax32 hb); have n1_ := Aside0.mk (hbox); have n2_ := Aside0.mk ((ax33 : w.heap.size ≤ gb455)); have n3_ := Aside0.mk ((ax33 : w.heap.size ≤ gb455)); clear HB; have HB := n0_; have BK455 := n1_; have GW455 := n2_; have GE455 := n3_; clear n0_ n1_ n2_ n3_; clear hb hbox hg; have hcz22_0 : w21.cell? ⟨gb455, 0, none⟩ = some (.slice A0_0 l0_0.length c0_0) := (blk_cell BK455.out 0).trans rfl; have hfz22_0 := blk_frozen BK455.out 0) | ((with_reducible refine gate_callee (f := 41) rfl ?_); refine goesL_ (some 11) rfl rfl Try.func41 (by kernel_rfl) rfl #[.agg #[.slice A0_0 l0_0.length c0_0], .int .i64 a1, .int .i64 a2] rfl ax34 ?_; (with_reducible refine (spec_l11Good.calls k _ _ l0_0 a1 a2 false _ ?side1 ?side2 A4.out).mono ?_); (case side1 => exact ax35); (case side2 => exact ax36); rintro e w23 ⟨rfl, hb⟩; refine ⟨_, rfl, ?_⟩; have n0_ := Aside0.mk (blk_below (g := gb455) (o := .cells #[.slice A0_0 l0_0.length c0_0] 30 (0, 0)) ax356 hb); have n1_ := Aside0.mk (below_step ax357 hb); clear BK455; clear HB; have BK455 := n0_; have HB := n1_; clear n0_ n1_; (try clear hb); (try clear hb2); (try clear hk); (try clear hi)))
  go_ret2
  exact ⟨by first | rfl | (simp [errW_none, errW_some] <;> rfl) | (simp [*, errW_none, errW_some] <;> rfl), by repeat (first | (with_reducible first | exact HB.out | apply below_alloc | apply pw_below_drewN | apply below_drew1 | refine below_set ?_ GE455.out) | exact HB.out)⟩

/-! ### impl_game_otherWins: function 52 -/
mutual
def impl_game_otherWins.l0 : Nat → List Int → Int → Int → List (S67) → Int → List ByteArray → Option (Bool)
 | 0, _, _, _, _, _, _ => none
 | k + 1, x12, x13, x14, x469000, x469001, x469002 => if x14 < x13 then (if 0 ≤ x14 then (if x14 < (x12.length : Int) then ((impl_game_isFatal.f x469000 x469001 x469002 (rd x12 x14)).bind fun t473 => (if t473 = true then (some true) else ((impl_game_otherWins.f k x469000 x469001 x469002 (rd x12 x14)).bind fun t474 => (if t474 = true then (impl_game_otherWins.l0 k x12 x13 (wrap64 (x14 + 1)) x469000 x469001 x469002) else (some true))))) else (none)) else (none)) else (some false)
def impl_game_otherWins.f : Nat → List (S67) → Int → List ByteArray → Int → Option (Bool)
 | 0, _, _, _, _ => none
 | k + 1, l0_0, a0_1, l0_2, a1 => (impl_Trie_kids.f k l0_0 a1).bind fun t469 => (impl_game_otherWins.l0 k t469 (t469.length : Int) 0 l0_0 a0_1 l0_2)
end
theorem impl_game_otherWins.mono_l : ∀ k, (∀ y0 y1 y2 y3, LeO (impl_game_otherWins.f k y0 y1 y2 y3) (impl_game_otherWins.f (k + 1) y0 y1 y2 y3)) ∧ (∀ y0 y1 y2 y3 y4 y5, LeO (impl_game_otherWins.l0 k y0 y1 y2 y3 y4 y5) (impl_game_otherWins.l0 (k + 1) y0 y1 y2 y3 y4 y5))
 | 0 => ⟨fun _ _ _ _ r h => by simp [impl_game_otherWins.f] at h, fun _ _ _ _ _ _ r h => by simp [impl_game_otherWins.l0] at h⟩
 | k + 1 => by
  obtain ⟨ih0, ih1⟩ := impl_game_otherWins.mono_l k
  refine ⟨?_, ?_⟩
  ·intro y0 y1 y2 y3
   unfold impl_game_otherWins.f
   repeat' first
   | (with_reducible exact ih0 _ _ _ _)
   | (with_reducible exact ih1 _ _ _ _ _ _)
   | (with_reducible exact impl_Trie_kids.mono _ _ _)
   | (with_reducible exact LeO.refl _)
   | (with_reducible exact LeO.none _)
   | (with_reducible refine LeO.ite ?_ ?_)
   | (with_reducible refine LeO.bind ?_ (fun _ => ?_))
   | exact ih0 _ _ _ _
   | exact ih1 _ _ _ _ _ _
   | exact impl_Trie_kids.mono _ _ _
   | exact LeO.none _
   | refine LeO.ite ?_ ?_
   | refine LeO.bind ?_ (fun _ => ?_)
  ·intro y0 y1 y2 y3 y4 y5
   unfold impl_game_otherWins.l0
   repeat' first
   | (with_reducible exact ih0 _ _ _ _)
   | (with_reducible exact ih1 _ _ _ _ _ _)
   | (with_reducible exact impl_Trie_kids.mono _ _ _)
   | (with_reducible exact LeO.refl _)
   | (with_reducible exact LeO.none _)
   | (with_reducible refine LeO.ite ?_ ?_)
   | (with_reducible refine LeO.bind ?_ (fun _ => ?_))
   | exact ih0 _ _ _ _
   | exact ih1 _ _ _ _ _ _
   | exact impl_Trie_kids.mono _ _ _
   | exact LeO.none _
   | refine LeO.ite ?_ ?_
   | refine LeO.bind ?_ (fun _ => ?_)
theorem impl_game_otherWins.mono : ∀ a0 a1 a2 a3 k, LeO (impl_game_otherWins.f k a0 a1 a2 a3) (impl_game_otherWins.f (k + 1) a0 a1 a2 a3) := by
 intro a0 a1 a2 a3 k
 obtain ⟨ih0, ih1⟩ := impl_game_otherWins.mono_l k
 exact ih0 a0 a1 a2 a3
set_option maxHeartbeats 8000000 in
set_option maxRecDepth 100000 in
theorem impl_game_otherWins.calls (k : Nat) : ∀ (G0 : Nat) (A0_0 : Option Addr) (c0_0 : Nat) (l0_0 : List (S67)) (a0_1 : Int) (A0_2 : Option Addr) (c0_2 : Nat) (l0_2 : List ByteArray) (a1 : Int) (r : Bool) (w : World) (hr0_0 : Kd.C k67 w A0_0 l0_0.length l0_0) (hc0_0 : l0_0.length ≤ c0_0) (hr0_2 : Kd.C Kd.string w A0_2 l0_2.length l0_2) (hc0_2 : l0_2.length ≤ c0_2) (hb0 : w.heap[G0]? = some (.cells #[.slice A0_0 l0_0.length c0_0, .int .i64 a0_1, .slice A0_2 l0_2.length c0_2] 69 (0, 0))) (h : impl_game_otherWins.f k l0_0 a0_1 l0_2 a1 = some r),
  Calls Try.prog 52 #[.pointer (some ⟨G0, 0, none⟩), .int .i64 a1] w fun e w' => e = .returned (.bool r) ∧ Below w.heap.size w w' := by
 induction k using Nat.strongRecOn with
 | _ k ih =>
 intro G0 A0_0 c0_0 l0_0 a0_1 A0_2 c0_2 l0_2 a1 r w hr0_0 hc0_0 hr0_2 hc0_2 hb0 h
 cases k with
 | zero => exact absurd h (by simp [impl_game_otherWins.f])
 | succ k =>
 simp only [impl_game_otherWins.f] at h
 have hu30 := Try.underlying30; have HR0_0 := Aside0.mk hr0_0; have HC0_0 := Aside0.mk hc0_0; clear hr0_0 hc0_0; have HR0_2 := Aside0.mk hr0_2; have HC0_2 := Aside0.mk hc0_2; clear hr0_2 hc0_2; have BK468 := Aside0.mk hb0; clear hb0; have HB := Aside0.mk (Below.refl w.heap.size w)
 have H : ((impl_Trie_kids.f k l0_0 a1).bind fun t469 => (impl_game_otherWins.l0 k t469 (t469.length : Int) 0 l0_0 a0_1 l0_2)) = some r := h
 clear h; replace H := Option.bind_eq_some_iff.mp H
 obtain ⟨t469, A30, H⟩ := H
 replace H : (impl_game_otherWins.l0 k t469 (t469.length : Int) 0 l0_0 a0_1 l0_2) = some r := H
 have A3 := Aside0.mk A30; clear A30
 have H' := Aside0.mk H
 clear H
 have hcz4_0 : w.cell? ⟨G0, 0, none⟩ = some (.slice A0_0 l0_0.length c0_0) := (blk_cell BK468.out 0).trans rfl
 have hcz4_1 : w.cell? ⟨G0, 1, none⟩ = some (.int .i64 a0_1) := (blk_cell BK468.out 1).trans rfl
 have hcz4_2 : w.cell? ⟨G0, 2, none⟩ = some (.slice A0_2 l0_2.length c0_2) := (blk_cell BK468.out 2).trans rfl
 have hfz4_0 := blk_frozen BK468.out 0; have hfz4_1 := blk_frozen BK468.out 1; have hfz4_2 := blk_frozen BK468.out 2
 go_enter Try.func52, Try.ntmps52
 go_wp2_with (first | ((with_reducible refine gate_callee (f := 59) rfl ?_); refine goesL_ (some 12) rfl rfl Try.func59 (by kernel_rfl) rfl #[.agg #[.slice A0_0 l0_0.length c0_0], .int .i64 a1] rfl ax34 ?_; (with_reducible refine (impl_Trie_kids.calls k _ _ l0_0 a1 t469 _ ?side1 ?side2 A3.out).mono ?_); (case side1 => exact ax230); (case side2 => exact ax36); rintro e w5 ⟨v470, rfl, ho0, hb⟩; refine ⟨_, rfl, ?_⟩; have n0_ := Aside0.mk (Kd.R_lower ho0 (below_size ax358)); have n1_ := Aside0.mk (blk_below (g := G0) (o := .cells #[.slice A0_0 l0_0.length c0_0, .int .i64 a0_1, .slice A0_2 l0_2.length c0_2] 69 (0, 0)) ax359 hb); have n2_ := Aside0.mk (below_step ax358 hb); clear BK468; clear HB; have HO471 := n0_; have BK468 := n1_; have HB := n2_; clear n0_ n1_ n2_; (try clear hb); (try clear hb2); (try clear hk); (try clear hi); (try clear ho0); obtain ⟨Ao6, co6, eo6⟩ := Kd.R_slice HO471.out; subst eo6))
 go_loopg [14] k (fun kq v14 w' => ∃ (x14_1 : Int), v14 = .int .i64 x14_1 ∧ Aside0 (impl_game_otherWins.l0 kq t469 (t469.length : Int) x14_1 l0_0 a0_1 l0_2 = some r) ∧ Aside0 (kq ≤ k) ∧ Aside0 (Kd.R (Kd.int .i64) 3 w' w.heap.size (fun _ => True) (.slice Ao6 t469.length co6) t469) ∧ Aside0 (w'.heap[G0]? = some (.cells #[(.slice A0_0 l0_0.length c0_0), .int .i64 a0_1, (.slice A0_2 l0_2.length c0_2)] 69 (0, 0))) ∧ Aside0 (Below w.heap.size w w'))
 case atStart => exact ⟨(0), ax37, H', ⟨Nat.le_refl _⟩, ⟨by (with_reducible repeat (first | apply Kd.R_alloc | apply Kd.R_drewN | apply Kd.R_drew)); exact HO471.out⟩, ⟨by (with_reducible repeat (first | refine blk_drewN ?_ _ | refine blk_drew ?_ | refine blk_alloc ?_ _)); exact BK468.out⟩, ⟨by repeat (first | (with_reducible first | exact HB.out | apply below_alloc | apply pw_below_drewN | apply below_drew1 | refine below_set ?_ GE468.out) | exact HB.out)⟩⟩
 case round =>
  clear H'
  try clear p2
  try clear c5
  try clear hcz4_0
  try clear hcz4_1
  try clear hcz4_2
  try clear hfz4_0
  try clear hfz4_1
  try clear hfz4_2
  obtain ⟨x14_1, rfl, HA, HK1, HO_12, BK468, HB⟩ := hrel
  cases gk with
  | zero => exact absurd HA.out (by simp [impl_game_otherWins.l0])
  | succ k1 =>
   have H := HA.out; clear HA
   simp only [impl_game_otherWins.l0] at H
   by_cases c7 : x14_1 < (t469.length : Int)
   ·rw [if_pos c7] at H
    have c7b0 : decide (x14_1 < (t469.length : Int)) = true := decide_eq_true c7
    clear c7
    by_cases c8 : 0 ≤ x14_1
    ·rw [if_pos c8] at H
     have c8b0 : decide (0 ≤ x14_1) = true := decide_eq_true c8
     clear c8
     by_cases c9 : x14_1 < (t469.length : Int)
     ·rw [if_pos c9] at H
      have c9b0 : decide (x14_1 < (t469.length : Int)) = true := decide_eq_true c9
      clear c9; replace H := Option.bind_eq_some_iff.mp H
      obtain ⟨t473, A100, H⟩ := H
      replace H : (if t473 = true then (some true) else ((impl_game_otherWins.f k1 l0_0 a0_1 l0_2 (rd t469 x14_1)).bind fun t474 => (if t474 = true then (impl_game_otherWins.l0 k1 t469 (t469.length : Int) (wrap64 (x14_1 + 1)) l0_0 a0_1 l0_2) else (some true)))) = some r := H
      have A10 := Aside0.mk A100; clear A100
      by_cases c11 : t473 = true
      ·subst c11
       have H1 : (some true) = some r := by rw [if_pos rfl] at H; exact H
       clear H; have H := H1; clear H1
       obtain rfl := Option.some.inj H
       have p472 : 0 ≤ (x14_1 : Int) := of_decide_eq_true ax38
       have q472 : x14_1 < (t469.length : Int) := of_decide_eq_true ax38
       obtain ⟨ad472, e472, hx472_0⟩ := Kd.at_int (Kd.R_reads' HO_12.out).2.2 x14_1 p472 q472
       cases e472; replace p472 := eq_true p472; replace q472 := eq_true q472
       go_wp2_with (first | ((with_reducible refine gate_callee (f := 63) rfl ?_); refine goesL_ (some 20) rfl rfl Try.func63 (by kernel_rfl) rfl #[.pointer (some ⟨G0, 0, none⟩), .int .i64 (rd t469 x14_1)] rfl ax34 ?_; (with_reducible refine (impl_game_isFatal.calls G0 A0_0 c0_0 l0_0 a0_1 A0_2 c0_2 l0_2 (rd t469 x14_1) true _ ?side1 ?side2 ?side3 ?side4 ?side5 A10.out).mono ?_); (case side1 => exact ax35); (case side2 => exact ax36); (case side3 => exact ax201); (case side4 => exact ax202); (case side5 => exact ax359); rintro e w12 ⟨rfl, hb⟩; refine ⟨_, rfl, ?_⟩; have n0_ := Aside0.mk (Kd.R_below ax360 hb); have n1_ := Aside0.mk (blk_below (g := G0) (o := .cells #[.slice A0_0 l0_0.length c0_0, .int .i64 a0_1, .slice A0_2 l0_2.length c0_2] 69 (0, 0)) ax359 hb); have n2_ := Aside0.mk (below_step ax358 hb); clear HO_12; clear BK468; clear HB; have HO_12 := n0_; have BK468 := n1_; have HB := n2_; clear n0_ n1_ n2_; (try clear hb); (try clear hb2); (try clear hk); (try clear hi)))
       go_ret
       exact ⟨by first | rfl | (simp [errW_none, errW_some] <;> rfl) | (simp [*, errW_none, errW_some] <;> rfl), by repeat (first | (with_reducible first | exact HB.out | apply below_alloc | apply pw_below_drewN | apply below_drew1 | refine below_set ?_ GE468.out) | exact HB.out)⟩
      ·replace c11 := Bool.eq_false_iff.mpr c11
       subst c11
       have H1 : ((impl_game_otherWins.f k1 l0_0 a0_1 l0_2 (rd t469 x14_1)).bind fun t474 => (if t474 = true then (impl_game_otherWins.l0 k1 t469 (t469.length : Int) (wrap64 (x14_1 + 1)) l0_0 a0_1 l0_2) else (some true))) = some r := by rw [if_neg (show ¬ (false = true) by decide)] at H; exact H
       clear H; have H := H1; clear H1; replace H := Option.bind_eq_some_iff.mp H
       obtain ⟨t474, A130, H⟩ := H
       replace H : (if t474 = true then (impl_game_otherWins.l0 k1 t469 (t469.length : Int) (wrap64 (x14_1 + 1)) l0_0 a0_1 l0_2) else (some true)) = some r := H
       have A13 := Aside0.mk A130; clear A130
       by_cases c14 : t474 = true
       ·subst c14
        have H1 : (impl_game_otherWins.l0 k1 t469 (t469.length : Int) (wrap64 (x14_1 + 1)) l0_0 a0_1 l0_2) = some r := by rw [if_pos rfl] at H; exact H
        clear H; have H := H1; clear H1
        have H' := Aside0.mk H
        clear H
        have p472 : 0 ≤ (x14_1 : Int) := of_decide_eq_true ax38
        have q472 : x14_1 < (t469.length : Int) := of_decide_eq_true ax38
        obtain ⟨ad472, e472, hx472_0⟩ := Kd.at_int (Kd.R_reads' HO_12.out).2.2 x14_1 p472 q472
        cases e472; replace p472 := eq_true p472; replace q472 := eq_true q472
        go_wp2_with (first | ((with_reducible refine gate_callee (f := 63) rfl ?_); refine goesL_ (some 20) rfl rfl Try.func63 (by kernel_rfl) rfl #[.pointer (some ⟨G0, 0, none⟩), .int .i64 (rd t469 x14_1)] rfl ax34 ?_; (with_reducible refine (impl_game_isFatal.calls G0 A0_0 c0_0 l0_0 a0_1 A0_2 c0_2 l0_2 (rd t469 x14_1) false _ ?side1 ?side2 ?side3 ?side4 ?side5 A10.out).mono ?_); (case side1 => exact ax35); (case side2 => exact ax36); (case side3 => exact ax201); (case side4 => exact ax202); (case side5 => exact ax359); rintro e w15 ⟨rfl, hb⟩; refine ⟨_, rfl, ?_⟩; have n0_ := Aside0.mk (Kd.R_below ax360 hb); have n1_ := Aside0.mk (blk_below (g := G0) (o := .cells #[.slice A0_0 l0_0.length c0_0, .int .i64 a0_1, .slice A0_2 l0_2.length c0_2] 69 (0, 0)) ax359 hb); have n2_ := Aside0.mk (below_step ax358 hb); clear HO_12; clear BK468; clear HB; have HO_12 := n0_; have BK468 := n1_; have HB := n2_; clear n0_ n1_ n2_; (try clear hb); (try clear hb2); (try clear hk); (try clear hi)) | (go_at_call 52; (with_reducible refine (ih k1 ax223 G0 A0_0 c0_0 l0_0 a0_1 A0_2 c0_2 l0_2 (rd t469 x14_1) true _ ?side1 ?side2 ?side3 ?side4 ?side5 A13.out).mono ?_); (case side1 => exact ax35); (case side2 => exact ax36); (case side3 => exact ax201); (case side4 => exact ax202); (case side5 => exact ax359); rintro e w16 ⟨rfl, hb⟩; have n0_ := Aside0.mk (Kd.R_below ax360 hb); have n1_ := Aside0.mk (blk_below (g := G0) (o := .cells #[.slice A0_0 l0_0.length c0_0, .int .i64 a0_1, .slice A0_2 l0_2.length c0_2] 69 (0, 0)) ax359 hb); have n2_ := Aside0.mk (below_step ax358 hb); clear HO_12; clear BK468; clear HB; have HO_12 := n0_; have BK468 := n1_; have HB := n2_; clear n0_ n1_ n2_; (try clear hb); (try clear hb2); (try clear hk); (try clear hi)))
        go_roundg k1
        case measure => have := HK1.out; omega
        case rel => exact ⟨(wrap64 (x14_1 + 1)), ax37, H', ⟨by have := HK1.out; omega⟩, ⟨by (with_reducible repeat (first | apply Kd.R_alloc | apply Kd.R_drewN | apply Kd.R_drew)); exact HO_12.out⟩, ⟨by (with_reducible repeat (first | refine blk_drewN ?_ _ | refine blk_drew ?_ | refine blk_alloc ?_ _)); exact BK468.out⟩, ⟨by repeat (first | (with_reducible first | exact HB.out | apply below_alloc | apply pw_below_drewN | apply below_drew1 | refine below_set ?_ GE468.out) | exact HB.out)⟩⟩
       ·replace c14 := Bool.eq_false_iff.mpr c14
        subst c14
        have H1 : (some true) = some r := by rw [if_neg (show ¬ (false = true) by decide)] at H; exact H
        clear H; have H := H1; clear H1
        obtain rfl := Option.some.inj H
        have p472 : 0 ≤ (x14_1 : Int) := of_decide_eq_true ax38
        have q472 : x14_1 < (t469.length : Int) := of_decide_eq_true ax38
        obtain ⟨ad472, e472, hx472_0⟩ := Kd.at_int (Kd.R_reads' HO_12.out).2.2 x14_1 p472 q472
        cases e472; replace p472 := eq_true p472; replace q472 := eq_true q472
        go_wp2_with (first | ((with_reducible refine gate_callee (f := 63) rfl ?_); refine goesL_ (some 20) rfl rfl Try.func63 (by kernel_rfl) rfl #[.pointer (some ⟨G0, 0, none⟩), .int .i64 (rd t469 x14_1)] rfl ax34 ?_; (with_reducible refine (impl_game_isFatal.calls G0 A0_0 c0_0 l0_0 a0_1 A0_2 c0_2 l0_2 (rd t469 x14_1) false _ ?side1 ?side2 ?side3 ?side4 ?side5 A10.out).mono ?_); (case side1 => exact ax35); (case side2 => exact ax36); (case side3 => exact ax201); (case side4 => exact ax202); (case side5 => exact ax359); rintro e w17 ⟨rfl, hb⟩; refine ⟨_, rfl, ?_⟩; have n0_ := Aside0.mk (Kd.R_below ax360 hb); have n1_ := Aside0.mk (blk_below (g := G0) (o := .cells #[.slice A0_0 l0_0.length c0_0, .int .i64 a0_1, .slice A0_2 l0_2.length c0_2] 69 (0, 0)) ax359 hb); have n2_ := Aside0.mk (below_step ax358 hb); clear HO_12; clear BK468; clear HB; have HO_12 := n0_; have BK468 := n1_; have HB := n2_; clear n0_ n1_ n2_; (try clear hb); (try clear hb2); (try clear hk); (try clear hi)) | (go_at_call 52; (with_reducible refine (ih k1 ax223 G0 A0_0 c0_0 l0_0 a0_1 A0_2 c0_2 l0_2 (rd t469 x14_1) false _ ?side1 ?side2 ?side3 ?side4 ?side5 A13.out).mono ?_); (case side1 => exact ax35); (case side2 => exact ax36); (case side3 => exact ax201); (case side4 => exact ax202); (case side5 => exact ax359); rintro e w18 ⟨rfl, hb⟩; have n0_ := Aside0.mk (Kd.R_below ax360 hb); have n1_ := Aside0.mk (blk_below (g := G0) (o := .cells #[.slice A0_0 l0_0.length c0_0, .int .i64 a0_1, .slice A0_2 l0_2.length c0_2] 69 (0, 0)) ax359 hb); have n2_ := Aside0.mk (below_step ax358 hb); clear HO_12; clear BK468; clear HB; have HO_12 := n0_; have BK468 := n1_; have HB := n2_; clear n0_ n1_ n2_; (try clear hb); (try clear hb2); (try clear hk); (try clear hi)))
        go_ret
        exact ⟨by first | rfl | (simp [errW_none, errW_some] <;> rfl) | (simp [*, errW_none, errW_some] <;> rfl), by repeat (first | (with_reducible first | exact HB.out | apply below_alloc | apply pw_below_drewN | apply below_drew1 | refine below_set ?_ GE468.out) | exact HB.out)⟩
     ·exact ax4
    ·rw [if_neg c8] at H
     exact absurd H (by simp)
   ·rw [if_neg c7] at H
    have c7b0 : decide (x14_1 < (t469.length : Int)) = false := decide_eq_false c7
    clear c7
    obtain rfl := Option.some.inj H
    go_wp2
    go_ret
    exact ⟨by first | rfl | (simp [errW_none, errW_some] <;> rfl) | (simp [*, errW_none, errW_some] <;> rfl), by repeat (first | (with_reducible first | exact HB.out | apply below_alloc | apply pw_below_drewN | apply below_drew1 | refine below_set ?_ GE468.out) | exact HB.out)⟩

/-! ### impl_OtherWins: function 21 -/
def impl_OtherWins.f (k : Nat) (l0_0 : List (S67)) (a1 : Int) (a2 : Int) : Option (Bool × Bool) := (impl_gameAt.f k l0_0 a1 a2).bind fun bt476 => (if bt476.1 = true then ((impl_game_otherWins.f k l0_0 bt476.2.1 bt476.2.2 a1).bind fun t482 => (some (t482, true))) else (some (false, false)))
theorem impl_OtherWins.mono : ∀ a0 a1 a2 k, LeO (impl_OtherWins.f k a0 a1 a2) (impl_OtherWins.f (k + 1) a0 a1 a2) := by
 intro a0 a1 a2 k
 unfold impl_OtherWins.f
 repeat' first
   | (with_reducible exact impl_gameAt.mono _ _ _ _)
   | (with_reducible exact impl_game_otherWins.mono _ _ _ _ _)
   | (with_reducible exact LeO.refl _)
   | (with_reducible exact LeO.none _)
   | (with_reducible refine LeO.ite ?_ ?_)
   | (with_reducible refine LeO.bind ?_ (fun _ => ?_))
   | exact impl_gameAt.mono _ _ _ _
   | exact impl_game_otherWins.mono _ _ _ _ _
   | exact LeO.none _
   | refine LeO.ite ?_ ?_
   | refine LeO.bind ?_ (fun _ => ?_)
set_option maxHeartbeats 8000000 in
set_option maxRecDepth 100000 in
theorem impl_OtherWins.calls (k : Nat) (A0_0 : Option Addr) (c0_0 : Nat) (l0_0 : List (S67)) (a1 : Int) (a2 : Int) (r1 : Bool) (r2 : Bool) (w : World) (hr0_0 : Kd.C k67 w A0_0 l0_0.length l0_0) (hc0_0 : l0_0.length ≤ c0_0) (h : impl_OtherWins.f k l0_0 a1 a2 = some (r1, r2)) :
  Calls Try.prog 21 #[.agg #[.slice A0_0 l0_0.length c0_0], .int .i64 a1, .int .i64 a2] w fun e w' => e = .returned (.tuple #[.bool r1, .bool r2]) ∧ Below w.heap.size w w' := by
 have hu30 := Try.underlying30; have HR0_0 := Aside0.mk hr0_0; have HC0_0 := Aside0.mk hc0_0; clear hr0_0 hc0_0; have HB := Aside0.mk (Below.refl w.heap.size w)
 have H : ((impl_gameAt.f k l0_0 a1 a2).bind fun bt476 => (if bt476.1 = true then ((impl_game_otherWins.f k l0_0 bt476.2.1 bt476.2.2 a1).bind fun t482 => (some (t482, true))) else (some (false, false)))) = some (r1, r2) := h
 clear h; replace H := Option.bind_eq_some_iff.mp H
 obtain ⟨⟨t476, t478, t479⟩, A40, H⟩ := H
 replace H : (if t476 = true then ((impl_game_otherWins.f k l0_0 t478 t479 a1).bind fun t482 => (some (t482, true))) else (some (false, false))) = some (r1, r2) := H
 have A4 := Aside0.mk A40; clear A40
 by_cases c5 : t476 = true
 ·subst c5
  have H1 : ((impl_game_otherWins.f k l0_0 t478 t479 a1).bind fun t482 => (some (t482, true))) = some (r1, r2) := by rw [if_pos rfl] at H; exact H
  clear H; have H := H1; clear H1; replace H := Option.bind_eq_some_iff.mp H
  obtain ⟨t482, A60, H⟩ := H
  replace H : (some (t482, true)) = some (r1, r2) := H
  have A6 := Aside0.mk A60; clear A60
  simp only [Option.some.injEq, Prod.mk.injEq] at H
  obtain ⟨rfl, rfl⟩ := H
  go_enter Try.func21, Try.ntmps21
  go_wp2_with (first | ((with_reducible refine gate_dst (N := 3) rfl ?_); refine box_event ?hg (N := 3) ?hd (cs := #[.slice A0_0 l0_0.length c0_0]) (t := 30) ?hr ?_; (case hd => rfl); (case hg => rfl); (case hr => exact ax31); intro gb475 hg w7 hbox hb; have n0_ := Aside0.mk (below_step ax32 hb); have n1_ := Aside0.mk (hbox); have n2_ := Aside0.mk ((ax33 : w.heap.size ≤ gb475)); have n3_ := Aside0.mk ((ax33 : w.heap.size ≤ gb475)); clear HB; have HB := n0_; have BK475 := n1_; have GW475 := n2_; have GE475 := n3_; clear n0_ n1_ n2_ n3_; clear hb hbox hg; have hcz8_0 : w7.cell? ⟨gb475, 0, none⟩ = some (.slice A0_0 l0_0.length c0_0) := (blk_cell BK475.out 0).trans rfl; have hfz8_0 := blk_frozen BK475.out 0) | ((with_reducible refine gate_callee (f := 51) rfl ?_); refine goesL_ (some 14) rfl rfl Try.func51 (by kernel_rfl) rfl #[.agg #[.slice A0_0 l0_0.length c0_0], .int .i64 a1, .int .i64 a2] rfl ax34 ?_; (with_reducible refine (impl_gameAt.calls k _ _ l0_0 a1 a2 true t478 t479 _ ?side1 ?side2 A4.out).mono ?_); (case side1 => exact ax35); (case side2 => exact ax36); (rintro e w9 ⟨hb, hno_, hyes_⟩; obtain ⟨gb477, v480, rfl, hbox, hgb, ho0⟩ := hyes_ rfl; clear hno_); refine ⟨_, rfl, ?_⟩; have n0_ := Aside0.mk (Kd.R_lower ho0 (below_size ax361)); have n1_ := Aside0.mk (blk_below (g := gb475) (o := .cells #[.slice A0_0 l0_0.length c0_0] 30 (0, 0)) ax362 hb); have n2_ := Aside0.mk (below_step ax361 hb); have n3_ := Aside0.mk (hbox); have n4_ := Aside0.mk ((Nat.le_trans (below_size ax361) hgb : w.heap.size ≤ gb477)); have n5_ := Aside0.mk ((Nat.le_trans (below_size ax361) hgb : w.heap.size ≤ gb477)); have n6_ := Aside0.mk ((Nat.ne_of_lt (Nat.lt_of_lt_of_le (blk_lt (g := gb475) (o := .cells #[.slice A0_0 l0_0.length c0_0] 30 (0, 0)) ax362) hgb) : gb475 ≠ gb477)); have n7_ := Aside0.mk ((Nat.ne_of_gt (Nat.lt_of_lt_of_le (blk_lt (g := gb475) (o := .cells #[.slice A0_0 l0_0.length c0_0] 30 (0, 0)) ax362) hgb) : gb477 ≠ gb475)); clear BK475; clear HB; have HO481 := n0_; have BK475 := n1_; have HB := n2_; have BK477 := n3_; have GW477 := n4_; have GE477 := n5_; have NB475_477 := n6_; have NB477_475 := n7_; clear n0_ n1_ n2_ n3_ n4_ n5_ n6_ n7_; (try clear hb); (try clear hbox); (try clear hgb); (try clear ho0); obtain ⟨Ao10, co10, eo10⟩ := Kd.R_slice HO481.out; subst eo10) | (go_at_call 52; (with_reducible refine (impl_game_otherWins.calls k gb477 A0_0 c0_0 l0_0 t478 Ao10 co10 t479 a1 t482 _ ?side1 ?side2 ?side3 ?side4 ?side5 A6.out).mono ?_); (case side1 => exact ax35); (case side2 => exact ax36); (case side3 => repeat (first | exact (Kd.R_reads' HO481.out).2.2 | (with_reducible refine Kd.C_alloc ?_ _) | (with_reducible refine Kd.C_drewN ?_ _) | (with_reducible refine Kd.C_drew ?_))); (case side4 => exact (Kd.R_reads' HO481.out).2.1); (case side5 => exact ax363); rintro e w11 ⟨rfl, hb⟩; have n0_ := Aside0.mk (Kd.R_below (by (with_reducible repeat (first | apply Kd.R_alloc | apply Kd.R_drewN | apply Kd.R_drew)); exact HO481.out) hb); have n1_ := Aside0.mk (blk_below (g := gb475) (o := .cells #[.slice A0_0 l0_0.length c0_0] 30 (0, 0)) ax362 hb); have n2_ := Aside0.mk (blk_below (g := gb477) (o := .cells #[.slice A0_0 l0_0.length c0_0, .int .i64 t478, .slice Ao10 t479.length co10] 69 (0, 0)) ax363 hb); have n3_ := Aside0.mk (below_step (by repeat (first | (with_reducible first | exact HB.out | apply below_alloc | apply pw_below_drewN | apply below_drew1 | refine below_set ?_ GE475.out | refine below_set ?_ GE477.out) | exact HB.out)) hb); clear HO481; clear BK475; clear BK477; clear HB; have HO481 := n0_; have BK475 := n1_; have BK477 := n2_; have HB := n3_; clear n0_ n1_ n2_ n3_; (try clear hb); (try clear hb2); (try clear hk); (try clear hi)))
  go_ret2
  exact ⟨by first | rfl | (simp [errW_none, errW_some] <;> rfl) | (simp [*, errW_none, errW_some] <;> rfl), by repeat (first | (with_reducible first | exact HB.out | apply below_alloc | apply pw_below_drewN | apply below_drew1 | refine below_set ?_ GE475.out | refine below_set ?_ GE477.out) | exact HB.out)⟩
 ·replace c5 := Bool.eq_false_iff.mpr c5
  subst c5
  have H1 : (some (false, false)) = some (r1, r2) := by rw [if_neg (show ¬ (false = true) by decide)] at H; exact H
  clear H; have H := H1; clear H1
  simp only [Option.some.injEq, Prod.mk.injEq] at H
  obtain ⟨rfl, rfl⟩ := H
  go_enter Try.func21, Try.ntmps21
  go_wp2_with (first | ((with_reducible refine gate_dst (N := 3) rfl ?_); refine box_event ?hg (N := 3) ?hd (cs := #[.slice A0_0 l0_0.length c0_0]) (t := 30) ?hr ?_; (case hd => rfl); (case hg => rfl); (case hr => exact ax31); intro gb475 hg w12 hbox hb; have n0_ := Aside0.mk (below_step ax32 hb); have n1_ := Aside0.mk (hbox); have n2_ := Aside0.mk ((ax33 : w.heap.size ≤ gb475)); have n3_ := Aside0.mk ((ax33 : w.heap.size ≤ gb475)); clear HB; have HB := n0_; have BK475 := n1_; have GW475 := n2_; have GE475 := n3_; clear n0_ n1_ n2_ n3_; clear hb hbox hg; have hcz13_0 : w12.cell? ⟨gb475, 0, none⟩ = some (.slice A0_0 l0_0.length c0_0) := (blk_cell BK475.out 0).trans rfl; have hfz13_0 := blk_frozen BK475.out 0) | ((with_reducible refine gate_callee (f := 51) rfl ?_); refine goesL_ (some 14) rfl rfl Try.func51 (by kernel_rfl) rfl #[.agg #[.slice A0_0 l0_0.length c0_0], .int .i64 a1, .int .i64 a2] rfl ax34 ?_; (with_reducible refine (impl_gameAt.calls k _ _ l0_0 a1 a2 false t478 t479 _ ?side1 ?side2 A4.out).mono ?_); (case side1 => exact ax35); (case side2 => exact ax36); (rintro e w14 ⟨hb, hno_, hyes_⟩; obtain rfl := hno_ rfl; clear hyes_); refine ⟨_, rfl, ?_⟩; have n0_ := Aside0.mk (blk_below (g := gb475) (o := .cells #[.slice A0_0 l0_0.length c0_0] 30 (0, 0)) ax362 hb); have n1_ := Aside0.mk (below_step ax361 hb); clear BK475; clear HB; have BK475 := n0_; have HB := n1_; clear n0_ n1_; (try clear hb); (try clear hb2); (try clear hk); (try clear hi); (try clear ho0)))
  go_ret2
  exact ⟨by first | rfl | (simp [errW_none, errW_some] <;> rfl) | (simp [*, errW_none, errW_some] <;> rfl), by repeat (first | (with_reducible first | exact HB.out | apply below_alloc | apply pw_below_drewN | apply below_drew1 | refine below_set ?_ GE475.out) | exact HB.out)⟩

/-! ### laws_FnExactOtherWins: function 5 -/
def laws_FnExactOtherWins.j0 : Nat → Bool → List (S80) → List (S67) → Option (Bool)
 | 0, _, _, _ => none
 | k + 1, x42, x484000, x494000 => if x42 = true then (some false) else ((laws_toTrie.f k x484000).bind fun t496 => ((laws_eqTrie.f k x494000 t496).bind fun t499 => (if t499 = true then (some true) else (some false))))
def laws_FnExactOtherWins.f (k : Nat) (l0_0 : List (S80)) (a1 : Int) (a2 : Int) : Option (Bool) := (laws_szTrie.f l0_0 1048576).bind fun t484 => (if t484 < 0 then (some true) else ((laws_toTrie.f k l0_0).bind fun t485 => ((spec_OtherWins.f k t485 a1 a2).bind fun bt488 => ((laws_toTrie.f k l0_0).bind fun t490 => ((impl_OtherWins.f k t490 a1 a2).bind fun bt494 => (if (bt494.1 != bt488.1) = true then (laws_FnExactOtherWins.j0 k true l0_0 t490) else (laws_FnExactOtherWins.j0 k (bt494.2 != bt488.2) l0_0 t490)))))))
theorem laws_FnExactOtherWins.mono_l : ∀ k, (∀ y0 y1 y2, LeO (laws_FnExactOtherWins.j0 k y0 y1 y2) (laws_FnExactOtherWins.j0 (k + 1) y0 y1 y2))
 | 0 => fun _ _ _ r h => by simp [laws_FnExactOtherWins.j0] at h
 | k + 1 => by
  have ih0 := laws_FnExactOtherWins.mono_l k
  ·intro y0 y1 y2
   unfold laws_FnExactOtherWins.j0
   repeat' first
   | (with_reducible exact ih0 _ _ _)
   | (with_reducible exact impl_OtherWins.mono _ _ _ _)
   | (with_reducible exact laws_eqTrie.mono _ _ _)
   | (with_reducible exact laws_toTrie.mono _ _)
   | (with_reducible exact spec_OtherWins.mono _ _ _ _)
   | (with_reducible exact LeO.refl _)
   | (with_reducible exact LeO.none _)
   | (with_reducible refine LeO.ite ?_ ?_)
   | (with_reducible refine LeO.bind ?_ (fun _ => ?_))
   | exact ih0 _ _ _
   | exact impl_OtherWins.mono _ _ _ _
   | exact laws_eqTrie.mono _ _ _
   | exact laws_toTrie.mono _ _
   | exact spec_OtherWins.mono _ _ _ _
   | exact LeO.none _
   | refine LeO.ite ?_ ?_
   | refine LeO.bind ?_ (fun _ => ?_)
theorem laws_FnExactOtherWins.mono : ∀ a0 a1 a2 k, LeO (laws_FnExactOtherWins.f k a0 a1 a2) (laws_FnExactOtherWins.f (k + 1) a0 a1 a2) := by
 intro a0 a1 a2 k
 have ih0 := laws_FnExactOtherWins.mono_l k
 unfold laws_FnExactOtherWins.f
 repeat' first
   | (with_reducible exact ih0 _ _ _)
   | (with_reducible exact impl_OtherWins.mono _ _ _ _)
   | (with_reducible exact laws_eqTrie.mono _ _ _)
   | (with_reducible exact laws_toTrie.mono _ _)
   | (with_reducible exact spec_OtherWins.mono _ _ _ _)
   | (with_reducible exact LeO.refl _)
   | (with_reducible exact LeO.none _)
   | (with_reducible refine LeO.ite ?_ ?_)
   | (with_reducible refine LeO.bind ?_ (fun _ => ?_))
   | exact ih0 _ _ _
   | exact impl_OtherWins.mono _ _ _ _
   | exact laws_eqTrie.mono _ _ _
   | exact laws_toTrie.mono _ _
   | exact spec_OtherWins.mono _ _ _ _
   | exact LeO.none _
   | refine LeO.ite ?_ ?_
   | refine LeO.bind ?_ (fun _ => ?_)
set_option maxHeartbeats 8000000 in
set_option maxRecDepth 100000 in
theorem laws_FnExactOtherWins.calls (k : Nat) (A0_0 : Option Addr) (c0_0 : Nat) (l0_0 : List (S80)) (a1 : Int) (a2 : Int) (r : Bool) (w : World) (hr0_0 : Kd.C k80 w A0_0 l0_0.length l0_0) (hc0_0 : l0_0.length ≤ c0_0) (h : laws_FnExactOtherWins.f k l0_0 a1 a2 = some r) (hr_ : r = true) :
  Calls Try.prog 5 #[.agg #[.slice A0_0 l0_0.length c0_0], .int .i64 a1, .int .i64 a2] w fun e w' => e = .returned (.bool r) ∧ Below w.heap.size w w' := by
 have hu24 := Try.underlying24; have hu30 := Try.underlying30; have HR0_0 := Aside0.mk hr0_0; have HC0_0 := Aside0.mk hc0_0; clear hr0_0 hc0_0; have HB := Aside0.mk (Below.refl w.heap.size w); have HRT := Aside0.mk hr_; clear hr_
 have H : ((laws_szTrie.f l0_0 1048576).bind fun t484 => (if t484 < 0 then (some true) else ((laws_toTrie.f k l0_0).bind fun t485 => ((spec_OtherWins.f k t485 a1 a2).bind fun bt488 => ((laws_toTrie.f k l0_0).bind fun t490 => ((impl_OtherWins.f k t490 a1 a2).bind fun bt494 => (if (bt494.1 != bt488.1) = true then (laws_FnExactOtherWins.j0 k true l0_0 t490) else (laws_FnExactOtherWins.j0 k (bt494.2 != bt488.2) l0_0 t490)))))))) = some r := h
 clear h; replace H := Option.bind_eq_some_iff.mp H
 obtain ⟨t484, A40, H⟩ := H
 replace H : (if t484 < 0 then (some true) else ((laws_toTrie.f k l0_0).bind fun t485 => ((spec_OtherWins.f k t485 a1 a2).bind fun bt488 => ((laws_toTrie.f k l0_0).bind fun t490 => ((impl_OtherWins.f k t490 a1 a2).bind fun bt494 => (if (bt494.1 != bt488.1) = true then (laws_FnExactOtherWins.j0 k true l0_0 t490) else (laws_FnExactOtherWins.j0 k (bt494.2 != bt488.2) l0_0 t490))))))) = some r := H
 have A4 := Aside0.mk A40; clear A40
 by_cases c5 : t484 < 0
 ·rw [if_pos c5] at H
  have c5b0 : decide (t484 < 0) = true := decide_eq_true c5
  clear c5
  obtain rfl := Option.some.inj H
  go_enter Try.func5, Try.ntmps5
  go_wp2_with (first | ((with_reducible refine gate_dst (N := 3) rfl ?_); refine box_event ?hg (N := 3) ?hd (cs := #[.slice A0_0 l0_0.length c0_0]) (t := 24) ?hr ?_; (case hd => rfl); (case hg => rfl); (case hr => exact ax31); intro gb483 hg w6 hbox hb; have n0_ := Aside0.mk (below_step ax32 hb); have n1_ := Aside0.mk (hbox); have n2_ := Aside0.mk ((ax33 : w.heap.size ≤ gb483)); have n3_ := Aside0.mk ((ax33 : w.heap.size ≤ gb483)); clear HB; have HB := n0_; have BK483 := n1_; have GW483 := n2_; have GE483 := n3_; clear n0_ n1_ n2_ n3_; clear hb hbox hg; have hcz7_0 : w6.cell? ⟨gb483, 0, none⟩ = some (.slice A0_0 l0_0.length c0_0) := (blk_cell BK483.out 0).trans rfl; have hfz7_0 := blk_frozen BK483.out 0) | ((with_reducible refine gate_callee (f := 13) rfl ?_); refine goesL_ (some 15) rfl rfl Try.func13 (by kernel_rfl) rfl #[.agg #[.slice A0_0 l0_0.length c0_0], .int .i64 1048576] rfl ax34 ?_; (with_reducible refine (laws_szTrie.calls _ _ l0_0 1048576 t484 _ ?side1 ?side2 A4.out).mono ?_); (case side1 => exact ax35); (case side2 => exact ax36); rintro e w8 ⟨rfl, hb⟩; refine ⟨_, rfl, ?_⟩; have n0_ := Aside0.mk (blk_below (g := gb483) (o := .cells #[.slice A0_0 l0_0.length c0_0] 24 (0, 0)) ax364 hb); have n1_ := Aside0.mk (below_step ax365 hb); clear BK483; clear HB; have BK483 := n0_; have HB := n1_; clear n0_ n1_; (try clear hb); (try clear hb2); (try clear hk); (try clear hi)))
  go_ret
  exact ⟨by first | rfl | (simp [errW_none, errW_some] <;> rfl) | (simp [*, errW_none, errW_some] <;> rfl), by repeat (first | (with_reducible first | exact HB.out | apply below_alloc | apply pw_below_drewN | apply below_drew1 | refine below_set ?_ GE483.out) | exact HB.out)⟩
 ·rw [if_neg c5] at H
  have c5b0 : decide (t484 < 0) = false := decide_eq_false c5
  clear c5; replace H := Option.bind_eq_some_iff.mp H
  obtain ⟨t485, A90, H⟩ := H
  replace H : ((spec_OtherWins.f k t485 a1 a2).bind fun bt488 => ((laws_toTrie.f k l0_0).bind fun t490 => ((impl_OtherWins.f k t490 a1 a2).bind fun bt494 => (if (bt494.1 != bt488.1) = true then (laws_FnExactOtherWins.j0 k true l0_0 t490) else (laws_FnExactOtherWins.j0 k (bt494.2 != bt488.2) l0_0 t490))))) = some r := H
  have A9 := Aside0.mk A90; clear A90; replace H := Option.bind_eq_some_iff.mp H
  obtain ⟨⟨t488, t489⟩, A100, H⟩ := H
  replace H : ((laws_toTrie.f k l0_0).bind fun t490 => ((impl_OtherWins.f k t490 a1 a2).bind fun bt494 => (if (bt494.1 != t488) = true then (laws_FnExactOtherWins.j0 k true l0_0 t490) else (laws_FnExactOtherWins.j0 k (bt494.2 != t489) l0_0 t490)))) = some r := H
  have A10 := Aside0.mk A100; clear A100; replace H := Option.bind_eq_some_iff.mp H
  obtain ⟨t490, A110, H⟩ := H
  replace H : ((impl_OtherWins.f k t490 a1 a2).bind fun bt494 => (if (bt494.1 != t488) = true then (laws_FnExactOtherWins.j0 k true l0_0 t490) else (laws_FnExactOtherWins.j0 k (bt494.2 != t489) l0_0 t490))) = some r := H
  have A11 := Aside0.mk A110; clear A110; replace H := Option.bind_eq_some_iff.mp H
  obtain ⟨⟨t494, t495⟩, A120, H⟩ := H
  replace H : (if (t494 != t488) = true then (laws_FnExactOtherWins.j0 k true l0_0 t490) else (laws_FnExactOtherWins.j0 k (t495 != t489) l0_0 t490)) = some r := H
  have A12 := Aside0.mk A120; clear A120; have HC13 := Aside0.mk H; clear H
  go_enter Try.func5, Try.ntmps5
  go_upto_region 8 with (first | ((with_reducible refine gate_dst (N := 3) rfl ?_); refine box_event ?hg (N := 3) ?hd (cs := #[.slice A0_0 l0_0.length c0_0]) (t := 24) ?hr ?_; (case hd => rfl); (case hg => rfl); (case hr => exact ax31); intro gb483 hg w14 hbox hb; have n0_ := Aside0.mk (below_step ax32 hb); have n1_ := Aside0.mk (hbox); have n2_ := Aside0.mk ((ax33 : w.heap.size ≤ gb483)); have n3_ := Aside0.mk ((ax33 : w.heap.size ≤ gb483)); clear HB; have HB := n0_; have BK483 := n1_; have GW483 := n2_; have GE483 := n3_; clear n0_ n1_ n2_ n3_; clear hb hbox hg; have hcz15_0 : w14.cell? ⟨gb483, 0, none⟩ = some (.slice A0_0 l0_0.length c0_0) := (blk_cell BK483.out 0).trans rfl; have hfz15_0 := blk_frozen BK483.out 0) | ((with_reducible refine gate_callee (f := 13) rfl ?_); refine goesL_ (some 15) rfl rfl Try.func13 (by kernel_rfl) rfl #[.agg #[.slice A0_0 l0_0.length c0_0], .int .i64 1048576] rfl ax34 ?_; (with_reducible refine (laws_szTrie.calls _ _ l0_0 1048576 t484 _ ?side1 ?side2 A4.out).mono ?_); (case side1 => exact ax35); (case side2 => exact ax36); rintro e w16 ⟨rfl, hb⟩; refine ⟨_, rfl, ?_⟩; have n0_ := Aside0.mk (blk_below (g := gb483) (o := .cells #[.slice A0_0 l0_0.length c0_0] 24 (0, 0)) ax364 hb); have n1_ := Aside0.mk (below_step ax365 hb); clear BK483; clear HB; have BK483 := n0_; have HB := n1_; clear n0_ n1_; (try clear hb); (try clear hb2); (try clear hk); (try clear hi); have hcz17_0 : w16.cell? ⟨gb483, 0, none⟩ = some (.slice A0_0 l0_0.length c0_0) := (blk_cell BK483.out 0).trans rfl; have hfz17_0 := blk_frozen BK483.out 0) | ((with_reducible refine gate_callee (f := 15) rfl ?_); refine goesL_ (some 20) rfl rfl Try.func15 (by kernel_rfl) rfl #[.agg #[.slice A0_0 l0_0.length c0_0]] rfl ax34 ?_; (with_reducible refine (laws_toTrie.calls k _ _ l0_0 t485 _ ?side1 ?side2 A9.out).mono ?_); (case side1 => exact ax35); (case side2 => exact ax36); rintro e w18 ⟨v486, rfl, ho0, hb⟩; refine ⟨_, rfl, ?_⟩; have n0_ := Aside0.mk (Kd.R_lower ho0 (below_size ax365)); have n1_ := Aside0.mk (blk_below (g := gb483) (o := .cells #[.slice A0_0 l0_0.length c0_0] 24 (0, 0)) ax364 hb); have n2_ := Aside0.mk (below_step ax365 hb); clear BK483; clear HB; have HO487 := n0_; have BK483 := n1_; have HB := n2_; clear n0_ n1_ n2_; (try clear hb); (try clear hb2); (try clear hk); (try clear hi); (try clear ho0); obtain ⟨Ao19, co19, eo19⟩ := Kd.R_slice HO487.out; subst eo19) | ((with_reducible refine gate_callee (f := 20) rfl ?_); refine goesL_ (some 23) rfl rfl Try.func20 (by kernel_rfl) rfl #[.agg #[.slice Ao19 t485.length co19], .int .i64 a1, .int .i64 a2] rfl ax34 ?_; (with_reducible refine (spec_OtherWins.calls k _ _ t485 a1 a2 t488 t489 _ ?side1 ?side2 A10.out).mono ?_); (case side1 => repeat (first | exact (Kd.R_reads' HO487.out).2.2 | (with_reducible refine Kd.C_alloc ?_ _) | (with_reducible refine Kd.C_drewN ?_ _) | (with_reducible refine Kd.C_drew ?_))); (case side2 => exact (Kd.R_reads' HO487.out).2.1); rintro e w20 ⟨rfl, hb⟩; refine ⟨_, rfl, ?_⟩; have n0_ := Aside0.mk (Kd.R_below ax366 hb); have n1_ := Aside0.mk (blk_below (g := gb483) (o := .cells #[.slice A0_0 l0_0.length c0_0] 24 (0, 0)) ax364 hb); have n2_ := Aside0.mk (below_step ax365 hb); clear HO487; clear BK483; clear HB; have HO487 := n0_; have BK483 := n1_; have HB := n2_; clear n0_ n1_ n2_; (try clear hb); (try clear hb2); (try clear hk); (try clear hi); have hcz21_0 : w20.cell? ⟨gb483, 0, none⟩ = some (.slice A0_0 l0_0.length c0_0) := (blk_cell BK483.out 0).trans rfl; have hfz21_0 := blk_frozen BK483.out 0) | ((with_reducible refine gate_callee (f := 15) rfl ?_); refine goesL_ (some 27) rfl rfl Try.func15 (by kernel_rfl) rfl #[.agg #[.slice A0_0 l0_0.length c0_0]] rfl ax34 ?_; (with_reducible refine (laws_toTrie.calls k _ _ l0_0 t490 _ ?side1 ?side2 A11.out).mono ?_); (case side1 => exact ax35); (case side2 => exact ax36); rintro e w22 ⟨v491, rfl, ho0, hb⟩; refine ⟨_, rfl, ?_⟩; have n0_ := Aside0.mk (Kd.R_elder' ax366 (Kd.R_base ho0) hb); have n1_ := Aside0.mk (Kd.R_lower (Kd.R_new' ho0 (Kd.R_lt ax366)) (below_size ax365)); have n2_ := Aside0.mk (blk_below (g := gb483) (o := .cells #[.slice A0_0 l0_0.length c0_0] 24 (0, 0)) ax364 hb); have n3_ := Aside0.mk (below_step ax365 hb); clear HO487; clear BK483; clear HB; have HO487 := n0_; have HO492 := n1_; have BK483 := n2_; have HB := n3_; clear n0_ n1_ n2_ n3_; (try clear hb); (try clear hb2); (try clear hk); (try clear hi); (try clear ho0)) | ((with_reducible refine gate_dst (N := 10) rfl ?_); refine box_event ?hg (N := 10) ?hd (cs := #[.slice none 0 0]) (t := 30) ?hr ?_; (case hd => rfl); (case hg => rfl); (case hr => exact ax31); intro gb493 hg w23 hbox hb; have n0_ := Aside0.mk (Kd.R_below ax366 hb); have n1_ := Aside0.mk (Kd.R_below (by (with_reducible repeat (first | apply Kd.R_alloc | apply Kd.R_drewN | apply Kd.R_drew)); exact HO492.out) hb); have n2_ := Aside0.mk (blk_below (g := gb483) (o := .cells #[.slice A0_0 l0_0.length c0_0] 24 (0, 0)) ax364 hb); have n3_ := Aside0.mk (below_step ax365 hb); have n4_ := Aside0.mk (hbox); have n5_ := Aside0.mk ((ax367 : w.heap.size ≤ gb493)); have n6_ := Aside0.mk ((ax367 : w.heap.size ≤ gb493)); have n7_ := Aside0.mk ((by rw [hg]; exact Nat.ne_of_lt (blk_lt (g := gb483) (o := .cells #[.slice A0_0 l0_0.length c0_0] 24 (0, 0)) ax364) : gb483 ≠ gb493)); have n8_ := Aside0.mk ((by rw [hg]; exact Nat.ne_of_gt (blk_lt (g := gb483) (o := .cells #[.slice A0_0 l0_0.length c0_0] 24 (0, 0)) ax364) : gb493 ≠ gb483)); clear HO487; clear HO492; clear BK483; clear HB; have HO487 := n0_; have HO492 := n1_; have BK483 := n2_; have HB := n3_; have BK493 := n4_; have GW493 := n5_; have GE493 := n6_; have NB483_493 := n7_; have NB493_483 := n8_; clear n0_ n1_ n2_ n3_ n4_ n5_ n6_ n7_ n8_; clear hb hbox hg; obtain ⟨Ao24, co24, eo24⟩ := Kd.R_slice HO492.out; subst eo24; have hnb25 := NB493_483.out; have hnc25 := NB483_493.out; have hcz26_0 : w23.cell? ⟨gb493, 0, none⟩ = some (.slice none 0 0) := (blk_cell BK493.out 0).trans rfl; have hfz26_0 := blk_frozen BK493.out 0) | ((with_reducible refine gate_callee (f := 21) rfl ?_); refine goesL_ (some 32) rfl rfl Try.func21 (by kernel_rfl) rfl #[.agg #[.slice Ao24 t490.length co24], .int .i64 a1, .int .i64 a2] rfl ax34 ?_; (with_reducible refine (impl_OtherWins.calls k _ _ t490 a1 a2 t494 t495 _ ?side1 ?side2 A12.out).mono ?_); (case side1 => refine (Kd.R_reads' (e := 67) (base := w.heap.size) (ok := fun k_ => (True ∧ some k_ ≠ (.slice Ao19 t485.length co19 : Value).ownBlock)) (n := t490.length) (c := co24) ?_).2.2; exact ax368); (case side2 => exact (Kd.R_reads' HO492.out).2.1); rintro e w27 ⟨rfl, hb⟩; refine ⟨_, rfl, ?_⟩; have n0_ := Aside0.mk (Kd.R_below (by (with_reducible repeat (first | apply Kd.R_alloc | apply Kd.R_drewN | apply Kd.R_drew)); exact (Kd.R_mono (Kd.R_far (p := ⟨gb493, 0, none⟩) (Kd.R_types HO487.out BK493.out (by decide)) (fun _ hk => hk.2) (.slice Ao24 t490.length co24)) (fun _ h_ => h_.1))) hb); have n1_ := Aside0.mk (Kd.R_below ax368 hb); have n2_ := Aside0.mk (blk_below (g := gb483) (o := .cells #[.slice A0_0 l0_0.length c0_0] 24 (0, 0)) (by (with_reducible repeat (first | refine blk_drewN ?_ _ | refine blk_drew ?_ | refine blk_alloc ?_ _)); refine blk_far ?_ NB483_493.out _; (with_reducible repeat (first | refine blk_drewN ?_ _ | refine blk_drew ?_ | refine blk_alloc ?_ _)); exact BK483.out) hb); have n3_ := Aside0.mk (blk_below (g := gb493) (o := .cells #[.slice Ao24 t490.length co24] 30 (0, 0)) (by (with_reducible repeat (first | refine blk_drewN ?_ _ | refine blk_drew ?_ | refine blk_alloc ?_ _)); refine blk_put (cs := #[.slice none 0 0]) ?_ 0 _ rfl; (with_reducible repeat (first | refine blk_drewN ?_ _ | refine blk_drew ?_ | refine blk_alloc ?_ _)); exact BK493.out) hb); have n4_ := Aside0.mk (below_step ax369 hb); clear HO487; clear HO492; clear BK483; clear BK493; clear HB; have HO487 := n0_; have HO492 := n1_; have BK483 := n2_; have BK493 := n3_; have HB := n4_; clear n0_ n1_ n2_ n3_ n4_; (try clear hb); (try clear hb2); (try clear hk); (try clear hi)))
  (try simp only [Act.put, List.setIfInBounds_toArray, List.set_cons_zero, List.set_cons_succ])
  go_cut [42] (fun v42 wc => ∃ (kq : Nat) (x42_12 : Bool), v42 = .bool x42_12 ∧ Aside0 (laws_FnExactOtherWins.j0 kq x42_12 l0_0 t490 = some r) ∧ Aside0 (kq ≤ k) ∧ Aside0 (Kd.R k67 67 wc w.heap.size (fun _ => True) (.slice Ao24 t490.length co24) t490) ∧ Aside0 (wc.heap[gb483]? = some (.cells #[(.slice A0_0 l0_0.length c0_0)] 24 (0, 0))) ∧ Aside0 (wc.heap[gb493]? = some (.cells #[(.slice Ao24 t490.length co24)] 30 (0, 0))) ∧ Aside0 (Below w.heap.size w wc))
  case first =>
   have H := HC13.out; clear HC13
   by_cases c28 : (t494 != t488) = true
   ·rw [if_pos c28] at H
    have c28b0 : (t494 != t488) = true := c28
    (try (have c28b1 : decide (t494 = t488) = false := by simpa using c28))
    (try (have c28b2 : (t494 == t488) = false := by simpa using c28))
    (try (have c28b3 : ¬ (t494 = t488) := by simpa using c28))
    clear c28
    (first | rw [c28b0] | (simp only [i64_w, i32_w]; rw [c28b0]) | skip)
    have H' := Aside0.mk H
    clear H
    go_wp2
    go_meet
    case rel => exact ⟨_, (true), ax37, H', ⟨by first | omega | exact Nat.le_refl _⟩, ⟨by (with_reducible repeat (first | apply Kd.R_alloc | apply Kd.R_drewN | apply Kd.R_drew)); exact Kd.R_mono HO492.out (fun _ hk => trivial)⟩, ⟨by (with_reducible repeat (first | refine blk_drewN ?_ _ | refine blk_drew ?_ | refine blk_alloc ?_ _)); exact BK483.out⟩, ⟨by (with_reducible repeat (first | refine blk_drewN ?_ _ | refine blk_drew ?_ | refine blk_alloc ?_ _)); exact BK493.out⟩, ⟨by repeat (first | (with_reducible first | exact HB.out | apply below_alloc | apply pw_below_drewN | apply below_drew1 | refine below_set ?_ GE483.out | refine below_set ?_ GE493.out) | exact HB.out)⟩⟩
   ·rw [if_neg c28] at H
    have c28b0 : (t494 != t488) = false := by simpa using c28
    (try (have c28b1 : decide (t494 = t488) = true := by simpa using c28))
    (try (have c28b2 : (t494 == t488) = true := by simpa using c28))
    clear c28
    (first | rw [c28b0] | (simp only [i64_w, i32_w]; rw [c28b0]) | skip)
    have H' := Aside0.mk H
    clear H
    go_wp2
    go_meet
    case rel => exact ⟨_, ((t495 != t489)), ax37, H', ⟨by first | omega | exact Nat.le_refl _⟩, ⟨by (with_reducible repeat (first | apply Kd.R_alloc | apply Kd.R_drewN | apply Kd.R_drew)); exact Kd.R_mono HO492.out (fun _ hk => trivial)⟩, ⟨by (with_reducible repeat (first | refine blk_drewN ?_ _ | refine blk_drew ?_ | refine blk_alloc ?_ _)); exact BK483.out⟩, ⟨by (with_reducible repeat (first | refine blk_drewN ?_ _ | refine blk_drew ?_ | refine blk_alloc ?_ _)); exact BK493.out⟩, ⟨by repeat (first | (with_reducible first | exact HB.out | apply below_alloc | apply pw_below_drewN | apply below_drew1 | refine below_set ?_ GE483.out | refine below_set ?_ GE493.out) | exact HB.out)⟩⟩
  case rest =>
   clear HC13
   try clear c1
   try clear c2
   try clear p2
   try clear c5
   try clear c5b0
   try clear c13
   try clear c15
   try clear c20
   try clear c21
   try clear c25
   try clear c28
   try clear c28b0
   try clear c28b1
   try clear c28b2
   try clear hcz15_0
   try clear hcz17_0
   try clear hcz21_0
   try clear hcz26_0
   try clear hcz7_0
   try clear hfz15_0
   try clear hfz17_0
   try clear hfz21_0
   try clear hfz26_0
   try clear hfz7_0
   obtain ⟨kq, x42_12, rfl, HA, HJ12, HO_494000, BK483, BK493, HB⟩ := hcut
   cases kq with
   | zero => exact absurd HA.out (by simp [laws_FnExactOtherWins.j0])
   | succ kj12 =>
    have H := HA.out; clear HA
    simp only [laws_FnExactOtherWins.j0] at H
    by_cases c29 : x42_12 = true
    ·exact ax24
    ·replace c29 := Bool.eq_false_iff.mpr c29
     subst c29
     have H1 : ((laws_toTrie.f kj12 l0_0).bind fun t496 => ((laws_eqTrie.f kj12 t490 t496).bind fun t499 => (if t499 = true then (some true) else (some false)))) = some r := by rw [if_neg (show ¬ (false = true) by decide)] at H; exact H
     clear H; have H := H1; clear H1; replace H := Option.bind_eq_some_iff.mp H
     obtain ⟨t496, A300, H⟩ := H
     replace H : ((laws_eqTrie.f kj12 t490 t496).bind fun t499 => (if t499 = true then (some true) else (some false))) = some r := H
     have A30 := Aside0.mk A300; clear A300; replace H := Option.bind_eq_some_iff.mp H
     obtain ⟨t499, A310, H⟩ := H
     replace H : (if t499 = true then (some true) else (some false)) = some r := H
     have A31 := Aside0.mk A310; clear A310
     by_cases c32 : t499 = true
     ·subst c32
      have H1 : (some true) = some r := by rw [if_pos rfl] at H; exact H
      clear H; have H := H1; clear H1
      obtain rfl := Option.some.inj H
      try go_wp2
      have n0_ := Aside0.mk (Kd.R_drew HO_494000.out); have n1_ := Aside0.mk (blk_drew BK483.out); have n2_ := Aside0.mk (blk_drew BK493.out); have n3_ := Aside0.mk (below_drew1 HB.out); clear HO_494000; clear BK483; clear BK493; clear HB; have HO_494000 := n0_; have BK483 := n1_; have BK493 := n2_; have HB := n3_; clear n0_ n1_ n2_ n3_
      refine start_ (n := 5) (S := fun w' => w'.cell? ⟨gb493, 0, none⟩ = some (.slice Ao24 t490.length co24) ∧ w'.cell? ⟨gb483, 0, none⟩ = some (.slice A0_0 l0_0.length c0_0)) (ds := []) #[false, false, false, false, false] (by kernel_rfl) rfl rfl ⟨(blk_cell BK493.out 0).trans rfl, (blk_cell BK483.out 0).trans rfl⟩ (fun hHeld => ?_)
      generalize wc.drew = w33 at HO_494000 BK483 BK493 HB hHeld ⊢
      refine take_ (i := 0) (N := some 43) (v := ?_) (a' := ?_) #[true, false, false, false, false] rfl rfl (by kernel_rfl) (fun _ _ _ h => h) (Or.inl ⟨by rfl, ?_⟩) hHeld ?_ ?_; rotate_left; exact ax17; rotate_left; exact ax6
      refine take_ (i := 1) (N := some 44) (v := ?_) (a' := ?_) #[true, true, false, false, false] rfl rfl (by kernel_rfl) (fun _ _ _ h => h) (Or.inl ⟨by rfl, ?_⟩) hHeld ?_ ?_; rotate_left; exact ax17; rotate_left; exact ax6
      refine one_ (i := 2) (N := some 45) #[true, true, true, false, false] rfl rfl (by kernel_rfl) (by decide) (fun K hK => ?_)
      refine goes_ Try.func15 (by kernel_rfl) rfl #[.agg #[.slice A0_0 l0_0.length c0_0]] (by rfl) rfl rfl ax34 ?_
      with_reducible refine (laws_toTrie.calls kj12 _ _ l0_0 t496 _ ?side1 ?side2 A30.out).mono ?_
      (case side1 => exact ax35)
      (case side2 => exact ax36)
      rintro e w34 ⟨v497, rfl, ho0, hb⟩
      refine ⟨_, rfl, ?_⟩
      have n0_ := Aside0.mk (Kd.R_elder' ax370 (Kd.R_base ho0) hb); have n1_ := Aside0.mk (Kd.R_lower (Kd.R_new' ho0 (Kd.R_lt ax370)) (below_size ax369))
      have n2_ := Aside0.mk (blk_below (g := gb483) (o := .cells #[.slice A0_0 l0_0.length c0_0] 24 (0, 0)) ax364 hb)
      have n3_ := Aside0.mk (blk_below (g := gb493) (o := .cells #[.slice Ao24 t490.length co24] 30 (0, 0)) ax371 hb)
      have n4_ := Aside0.mk (below_step ax369 hb); clear HO_494000; clear BK483; clear BK493; clear HB; have HO_494000 := n0_; have HO498 := n1_; have BK483 := n2_; have BK493 := n3_; have HB := n4_; clear n0_ n1_ n2_ n3_ n4_; (try clear hb); (try clear hb2); (try clear hk); (try clear hi); (try clear ho0)
      obtain ⟨Ao35, co35, eo35⟩ := Kd.R_slice HO498.out
      (first | subst eo35 | (injection eo35 with f1_ f2_ f3_; have f4_ := f1_.symm; have f5_ := f3_.symm; clear f1_ f2_ f3_; subst f4_; subst f5_))
      refine hK.out _ _ ⟨(blk_cell BK493.out 0).trans rfl, (blk_cell BK483.out 0).trans rfl⟩ (fun hHeld => ?_)
      clear hK K
      refine norm_ (a' := ?_) ?_ ?_
      rotate_left
      ·exact ax25
      refine one_ (i := 3) (N := some 46) #[true, true, true, true, false] rfl rfl (by kernel_rfl) (by decide) (fun K hK => ?_)
      refine goes_ Try.func17 (by kernel_rfl) rfl #[.agg #[.slice Ao24 t490.length co24], .agg #[.slice Ao35 t496.length co35]] (by rfl) rfl rfl ax34 ?_
      with_reducible refine (laws_eqTrie.calls kj12 _ _ t490 _ _ t496 true _ ?side1 ?side2 ?side3 ?side4 A31.out).mono ?_
      (case side1 => repeat (first | exact (Kd.R_reads' HO_494000.out).2.2 | (with_reducible refine Kd.C_alloc ?_ _) | (with_reducible refine Kd.C_drewN ?_ _) | (with_reducible refine Kd.C_drew ?_)))
      (case side2 => exact (Kd.R_reads' HO_494000.out).2.1)
      (case side3 => repeat (first | exact (Kd.R_reads' HO498.out).2.2 | (with_reducible refine Kd.C_alloc ?_ _) | (with_reducible refine Kd.C_drewN ?_ _) | (with_reducible refine Kd.C_drew ?_)))
      (case side4 => exact (Kd.R_reads' HO498.out).2.1)
      rintro e w36 ⟨rfl, hb⟩
      refine ⟨_, rfl, ?_⟩
      have n0_ := Aside0.mk (Kd.R_below ax370 hb)
      have n1_ := Aside0.mk (Kd.R_below (by (with_reducible repeat (first | apply Kd.R_alloc | apply Kd.R_drewN | apply Kd.R_drew)); exact HO498.out) hb)
      have n2_ := Aside0.mk (blk_below (g := gb483) (o := .cells #[.slice A0_0 l0_0.length c0_0] 24 (0, 0)) ax364 hb)
      have n3_ := Aside0.mk (blk_below (g := gb493) (o := .cells #[.slice Ao24 t490.length co24] 30 (0, 0)) ax371 hb)
      have n4_ := Aside0.mk (below_step ax369 hb); clear HO_494000; clear HO498; clear BK483; clear BK493; clear HB; have HO_494000 := n0_; have HO498 := n1_; have BK483 := n2_; have BK493 := n3_; have HB := n4_; clear n0_ n1_ n2_ n3_ n4_; (try clear hb); (try clear hb2); (try clear hk); (try clear hi)
      refine hK.out _ _ ⟨(blk_cell BK493.out 0).trans rfl, (blk_cell BK483.out 0).trans rfl⟩ (fun hHeld => ?_)
      clear hK K
      refine norm_ (a' := ?_) ?_ ?_
      rotate_left
      ·exact ax26
      refine pure_ (i := 4) (N := some 47) (v := ?_) (a' := ?_) #[true, true, true, true, true] rfl rfl (by kernel_rfl) (fun _ _ _ h => h) (Or.inl ⟨by rfl, ?_⟩) ?_ ?_; rotate_left; exact ax5; rotate_left; exact ax6
      refine done_ (by kernel_rfl) ?_
      try go_wp2
      go_ret
      exact ⟨by first | rfl | (simp [errW_none, errW_some] <;> rfl) | (simp [*, errW_none, errW_some] <;> rfl), by repeat (first | (with_reducible first | exact HB.out | apply below_alloc | apply pw_below_drewN | apply below_drew1 | refine below_set ?_ GE483.out | refine below_set ?_ GE493.out) | exact HB.out)⟩
     ·exact ax27
end Go.Proofs.Ytcbjfflaamlpcaa.X

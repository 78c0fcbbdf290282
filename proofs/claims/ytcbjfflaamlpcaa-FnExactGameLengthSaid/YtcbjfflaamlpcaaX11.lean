-- By gen.py (the session's own program over the kit's printer): functions of the program, each with its contract. Lean checks it.
import Derived.Test.YtcbjfflaamlpcaaX0
import Derived.Test.YtcbjfflaamlpcaaX8
import Derived.Test.YtcbjfflaamlpcaaX9
import Derived.Test.YtcbjfflaamlpcaaX10
namespace Go.Proofs.Ytcbjfflaamlpcaa.X
open Go.RowKit Go.Proofs.YtcbjfflaamlpcaaW.PrintWords Go.Proofs.YtcbjfflaamlpcaaW.PrintLast Go.Proofs.YtcbjfflaamlpcaaW.PrintMore
attribute [local go_sem] max2_int min2_int max_two min_two max_three min_three max_four min_four   -- for this text's walks alone
set_option linter.unusedVariables false
set_option linter.unusedSimpArgs false

/-! ### spec_l11Length: function 66 -/
mutual
def spec_l11Length.j0 : Nat → Int → Int → List Int → Bool → List (S67) → Option (Int)
 | 0, _, _, _, _, _ => none
 | k + 1, x1, x2, x7, x24, x286000 => if x24 = true then (some 0) else ((spec_l11Wins.f k x286000 x1 x2 false).bind fun t290 => (spec_l11Length.l0 k x2 x7 t290 (-1) 0 x286000))
def spec_l11Length.l0 : Nat → Int → List Int → Bool → Int → Int → List (S67) → Option (Int)
 | 0, _, _, _, _, _, _ => none
 | k + 1, x2, x7, x8, x9, x10, x286000 => if x10 < (x7.length : Int) then (if 0 ≤ x10 then ((spec_l11Fatal.f k x286000 (rd x7 x10) x2).bind fun t292 => (if t292 = true then ((spec_l11Length.f k x286000 (rd x7 x10) x2).bind fun t294 => (if x8 = true then (spec_l11Length.l0 k x2 x7 x8 x9 (wrap64 (x10 + 1)) x286000) else (if (wrap64 (1 + t294)) > x9 then (spec_l11Length.l0 k x2 x7 x8 (wrap64 (1 + t294)) (wrap64 (x10 + 1)) x286000) else (spec_l11Length.l0 k x2 x7 x8 x9 (wrap64 (x10 + 1)) x286000)))) else ((spec_l11Wins.f k x286000 (rd x7 x10) x2 false).bind fun t296 => ((spec_l11Length.f k x286000 (rd x7 x10) x2).bind fun t298 => (if x8 = true then (if t296 = true then (spec_l11Length.l0 k x2 x7 x8 x9 (wrap64 (x10 + 1)) x286000) else (if x9 < 0 then (spec_l11Length.l0 k x2 x7 x8 (wrap64 (1 + t298)) (wrap64 (x10 + 1)) x286000) else (if (wrap64 (1 + t298)) < x9 then (spec_l11Length.l0 k x2 x7 x8 (wrap64 (1 + t298)) (wrap64 (x10 + 1)) x286000) else (spec_l11Length.l0 k x2 x7 x8 x9 (wrap64 (x10 + 1)) x286000)))) else (if (wrap64 (1 + t298)) > x9 then (spec_l11Length.l0 k x2 x7 x8 (wrap64 (1 + t298)) (wrap64 (x10 + 1)) x286000) else (spec_l11Length.l0 k x2 x7 x8 x9 (wrap64 (x10 + 1)) x286000))))))) else (none)) else (some x9)
def spec_l11Length.f : Nat → List (S67) → Int → Int → Option (Int)
 | 0, _, _, _ => none
 | k + 1, l0_0, a1, a2 => (spec_l2Kids.f k l0_0 a1).bind fun t286 => (if (t286.length : Int) = 0 then (spec_l11Length.j0 k a1 a2 t286 true l0_0) else ((spec_l11Fatal.f k l0_0 a1 a2).bind fun t289 => (spec_l11Length.j0 k a1 a2 t286 t289 l0_0)))
end
theorem spec_l11Length.mono_l : ∀ k, (∀ y0 y1 y2, LeO (spec_l11Length.f k y0 y1 y2) (spec_l11Length.f (k + 1) y0 y1 y2)) ∧ (∀ y0 y1 y2 y3 y4, LeO (spec_l11Length.j0 k y0 y1 y2 y3 y4) (spec_l11Length.j0 (k + 1) y0 y1 y2 y3 y4)) ∧ (∀ y0 y1 y2 y3 y4 y5, LeO (spec_l11Length.l0 k y0 y1 y2 y3 y4 y5) (spec_l11Length.l0 (k + 1) y0 y1 y2 y3 y4 y5))
 | 0 => ⟨fun _ _ _ r h => by simp [spec_l11Length.f] at h, fun _ _ _ _ _ r h => by simp [spec_l11Length.j0] at h, fun _ _ _ _ _ _ r h => by simp [spec_l11Length.l0] at h⟩
 | k + 1 => by
  obtain ⟨ih0, ih1, ih2⟩ := spec_l11Length.mono_l k
  refine ⟨?_, ?_, ?_⟩
  ·intro y0 y1 y2
   unfold spec_l11Length.f
   repeat' first
   | (with_reducible exact ih0 _ _ _)
   | (with_reducible exact ih1 _ _ _ _ _)
   | (with_reducible exact ih2 _ _ _ _ _ _)
   | (with_reducible exact spec_l11Fatal.mono _ _ _ _)
   | (with_reducible exact spec_l11Wins.mono _ _ _ _ _)
   | (with_reducible exact spec_l2Kids.mono _ _ _)
   | (with_reducible exact LeO.refl _)
   | (with_reducible exact LeO.none _)
   | (with_reducible refine LeO.ite ?_ ?_)
   | (with_reducible refine LeO.bind ?_ (fun _ => ?_))
   | exact ih0 _ _ _
   | exact ih1 _ _ _ _ _
   | exact ih2 _ _ _ _ _ _
   | exact spec_l11Fatal.mono _ _ _ _
   | exact spec_l11Wins.mono _ _ _ _ _
   | exact spec_l2Kids.mono _ _ _
   | exact LeO.none _
   | refine LeO.ite ?_ ?_
   | refine LeO.bind ?_ (fun _ => ?_)
  ·intro y0 y1 y2 y3 y4
   unfold spec_l11Length.j0
   repeat' first
   | (with_reducible exact ih0 _ _ _)
   | (with_reducible exact ih1 _ _ _ _ _)
   | (with_reducible exact ih2 _ _ _ _ _ _)
   | (with_reducible exact spec_l11Fatal.mono _ _ _ _)
   | (with_reducible exact spec_l11Wins.mono _ _ _ _ _)
   | (with_reducible exact spec_l2Kids.mono _ _ _)
   | (with_reducible exact LeO.refl _)
   | (with_reducible exact LeO.none _)
   | (with_reducible refine LeO.ite ?_ ?_)
   | (with_reducible refine LeO.bind ?_ (fun _ => ?_))
   | exact ih0 _ _ _
   | exact ih1 _ _ _ _ _
   | exact ih2 _ _ _ _ _ _
   | exact spec_l11Fatal.mono _ _ _ _
   | exact spec_l11Wins.mono _ _ _ _ _
   | exact spec_l2Kids.mono _ _ _
   | exact LeO.none _
   | refine LeO.ite ?_ ?_
   | refine LeO.bind ?_ (fun _ => ?_)
  ·intro y0 y1 y2 y3 y4 y5
   unfold spec_l11Length.l0
   repeat' first
   | (with_reducible exact ih0 _ _ _)
   | (with_reducible exact ih1 _ _ _ _ _)
   | (with_reducible exact ih2 _ _ _ _ _ _)
   | (with_reducible exact spec_l11Fatal.mono _ _ _ _)
   | (with_reducible exact spec_l11Wins.mono _ _ _ _ _)
   | (with_reducible exact spec_l2Kids.mono _ _ _)
   | (with_reducible exact LeO.refl _)
   | (with_reducible exact LeO.none _)
   | (with_reducible refine LeO.ite ?_ ?_)
   | (with_reducible refine LeO.bind ?_ (fun _ => ?_))
   | exact ih0 _ _ _
   | exact ih1 _ _ _ _ _
   | exact ih2 _ _ _ _ _ _
   | exact spec_l11Fatal.mono _ _ _ _
   | exact spec_l11Wins.mono _ _ _ _ _
   | exact spec_l2Kids.mono _ _ _
   | exact LeO.none _
   | refine LeO.ite ?_ ?_
   | refine LeO.bind ?_ (fun _ => ?_)
theorem spec_l11Length.mono : ∀ a0 a1 a2 k, LeO (spec_l11Length.f k a0 a1 a2) (spec_l11Length.f (k + 1) a0 a1 a2) := by
 intro a0 a1 a2 k
 obtain ⟨ih0, ih1, ih2⟩ := spec_l11Length.mono_l k
 exact ih0 a0 a1 a2
def spec_l11Length.T8 : Bool × List (List Nat × List Nat) := (true, [([], []), ([], []), ([], []), ([1, 2], [1, 2]), ([3], [3]), ([], []), ([0, 4, 5], [0, 4, 5]), ([6], [6]), ([7, 6], [7]), ([8], [8]), ([8], [8]), ([8], [8]), ([10, 11, 8], [8, 10, 11]), ([12, 8], [8, 12]), ([8], [8]), ([9, 13, 14, 8, 8], [8, 9, 13, 14]), ([15, 8], [8, 15]), ([8, 16], [8, 16]), ([17, 15, 0, 1, 2, 3, 4, 5, 6, 7, 8, 9, 10, 11, 12, 13, 14, 15, 16, 17], [17])])
def spec_l11Length.B8 : List Nat := [0, 0, 0, 6, 14, 0, 63, 127, 255, 511, 511, 511, 3583, 7679, 511, 32767, 65535, 131071, 262143]
theorem spec_l11Length.tab8 : rtab .any (opsOf Try.f66 8) = spec_l11Length.T8 := by kernel_rfl
theorem spec_l11Length.bits8 : waitsOk spec_l11Length.T8.2 spec_l11Length.B8 = true := by kernel_rfl
def spec_l11Length.T9 : Bool × List (List Nat × List Nat) := (true, [([], []), ([], []), ([], []), ([1, 2], [1, 2]), ([3], [3]), ([], []), ([0, 4, 5], [0, 4, 5]), ([6], [6]), ([7, 6, 0, 1, 2, 3, 4, 5, 6, 7], [7])])
def spec_l11Length.B9 : List Nat := [0, 0, 0, 6, 14, 0, 63, 127, 255]
theorem spec_l11Length.tab9 : rtab .any (opsOf Try.f66 9) = spec_l11Length.T9 := by kernel_rfl
theorem spec_l11Length.bits9 : waitsOk spec_l11Length.T9.2 spec_l11Length.B9 = true := by kernel_rfl
set_option maxHeartbeats 8000000 in
set_option maxRecDepth 100000 in
theorem spec_l11Length.calls (k : Nat) : ∀ (A0_0 : Option Addr) (c0_0 : Nat) (l0_0 : List (S67)) (a1 : Int) (a2 : Int) (r : Int) (w : World) (hr0_0 : Kd.C k67 w A0_0 l0_0.length l0_0) (hc0_0 : l0_0.length ≤ c0_0) (h : spec_l11Length.f k l0_0 a1 a2 = some r),
  Calls Try.prog 66 #[.agg #[.slice A0_0 l0_0.length c0_0], .int .i64 a1, .int .i64 a2] w fun e w' => e = .returned (.int .i64 r) ∧ Below w.heap.size w w' := by
 induction k using Nat.strongRecOn with
 | _ k ih =>
 intro A0_0 c0_0 l0_0 a1 a2 r w hr0_0 hc0_0 h
 cases k with
 | zero => exact absurd h (by simp [spec_l11Length.f])
 | succ k =>
 simp only [spec_l11Length.f] at h
 have hu30 := Try.underlying30; have HR0_0 := Aside0.mk hr0_0; have HC0_0 := Aside0.mk hc0_0; clear hr0_0 hc0_0; have HB := Aside0.mk (Below.refl w.heap.size w)
 have H : ((spec_l2Kids.f k l0_0 a1).bind fun t286 => (if (t286.length : Int) = 0 then (spec_l11Length.j0 k a1 a2 t286 true l0_0) else ((spec_l11Fatal.f k l0_0 a1 a2).bind fun t289 => (spec_l11Length.j0 k a1 a2 t286 t289 l0_0)))) = some r := h
 clear h; replace H := Option.bind_eq_some_iff.mp H
 obtain ⟨t286, A40, H⟩ := H
 replace H : (if (t286.length : Int) = 0 then (spec_l11Length.j0 k a1 a2 t286 true l0_0) else ((spec_l11Fatal.f k l0_0 a1 a2).bind fun t289 => (spec_l11Length.j0 k a1 a2 t286 t289 l0_0))) = some r := H
 have A4 := Aside0.mk A40; clear A40; have HC5 := Aside0.mk H; clear H
 go_enter Try.func66, Try.ntmps66
 go_upto_region 2 with (first | ((with_reducible refine gate_dst (N := 3) rfl ?_); refine box_event ?hg (N := 3) ?hd (cs := #[.slice A0_0 l0_0.length c0_0]) (t := 30) ?hr ?_; (case hd => rfl); (case hg => rfl); (case hr => exact ax24); intro gb285 hg w6 hbox hb; have n0_ := Aside0.mk (below_step ax25 hb); have n1_ := Aside0.mk (hbox); have n2_ := Aside0.mk ((ax26 : w.heap.size ≤ gb285)); have n3_ := Aside0.mk ((ax26 : w.heap.size ≤ gb285)); clear HB; have HB := n0_; have BK285 := n1_; have GW285 := n2_; have GE285 := n3_; clear n0_ n1_ n2_ n3_; clear hb hbox hg; have hcz7_0 : w6.cell? ⟨gb285, 0, none⟩ = some (.slice A0_0 l0_0.length c0_0) := (blk_cell BK285.out 0).trans rfl; have hfz7_0 := blk_frozen BK285.out 0) | ((with_reducible refine gate_callee (f := 56) rfl ?_); refine goesL_ (some 15) rfl rfl Try.func56 (by kernel_rfl) rfl #[.agg #[.slice A0_0 l0_0.length c0_0], .int .i64 a1] rfl ax27 ?_; (with_reducible refine (spec_l2Kids.calls k _ _ l0_0 a1 t286 _ ?side1 ?side2 A4.out).mono ?_); (case side1 => exact ax28); (case side2 => exact ax29); rintro e w8 ⟨v287, rfl, ho0, hb⟩; refine ⟨_, rfl, ?_⟩; have n0_ := Aside0.mk (Kd.R_lower ho0 (below_size ax152)); have n1_ := Aside0.mk (blk_below (g := gb285) (o := .cells #[.slice A0_0 l0_0.length c0_0] 30 (0, 0)) ax153 hb); have n2_ := Aside0.mk (below_step ax152 hb); clear BK285; clear HB; have HO288 := n0_; have BK285 := n1_; have HB := n2_; clear n0_ n1_ n2_; (try clear hb); (try clear hb2); (try clear hk); (try clear hi); (try clear ho0)))
 (try simp only [Act.put, List.setIfInBounds_toArray, List.set_cons_zero, List.set_cons_succ])
 go_cut [24] (fun v24 wc => ∃ (kq : Nat) (x24_4 : Bool), v24 = .bool x24_4 ∧ Aside0 (spec_l11Length.j0 kq a1 a2 t286 x24_4 l0_0 = some r) ∧ Aside0 (kq ≤ k) ∧ Aside0 (Kd.R (Kd.int .i64) 3 wc w.heap.size (fun _ => True) v287 t286) ∧ Aside0 (wc.heap[gb285]? = some (.cells #[(.slice A0_0 l0_0.length c0_0)] 30 (0, 0))) ∧ Aside0 (Below w.heap.size w wc))
 case first =>
  have H := HC5.out; clear HC5
  by_cases c9 : (t286.length : Int) = 0
  ·rw [if_pos c9] at H
   have c9b0 : ((t286.length : Int) == 0) = true := beq_iff_eq.mpr c9
   have c9b1 : ((t286.length : Int) != 0) = false := bne_eq_false_iff_eq.mpr c9
   clear c9
   (first | rw [c9b0] | (simp only [i64_w, i32_w]; rw [c9b0]) | skip)
   have H' := Aside0.mk H
   clear H
   obtain ⟨Ao10, co10, eo10⟩ := Kd.R_slice HO288.out
   subst eo10
   go_wp2
   go_meet
   case rel => exact ⟨_, (true), ax39, H', ⟨by first | omega | exact Nat.le_refl _⟩, ⟨by (with_reducible repeat (first | apply Kd.R_alloc | apply Kd.R_drewN | apply Kd.R_drew)); exact HO288.out⟩, ⟨by (with_reducible repeat (first | refine blk_drewN ?_ _ | refine blk_drew ?_ | refine blk_alloc ?_ _)); exact BK285.out⟩, ⟨by repeat (first | (with_reducible first | exact HB.out | apply below_alloc | apply pw_below_drewN | apply below_drew1 | refine below_set ?_ GE285.out) | exact HB.out)⟩⟩
  ·rw [if_neg c9] at H
   have c9b0 : ((t286.length : Int) == 0) = false := beq_eq_false_iff_ne.mpr c9
   have c9b1 : ((t286.length : Int) != 0) = true := bne_iff_ne.mpr c9
   have c9b2 : ¬ (t286 = []) := fun h_ => c9 (by rw [h_]; rfl)
   (first | rw [c9b0] | (simp only [i64_w, i32_w]; rw [c9b0]) | skip)
   replace H := Option.bind_eq_some_iff.mp H
   obtain ⟨t289, A110, H⟩ := H
   replace H : (spec_l11Length.j0 k a1 a2 t286 t289 l0_0) = some r := H
   have A11 := Aside0.mk A110; clear A110
   have H' := Aside0.mk H
   clear H
   obtain ⟨Ao12, co12, eo12⟩ := Kd.R_slice HO288.out
   subst eo12
   have hcz13_0 : w8.cell? ⟨gb285, 0, none⟩ = some (.slice A0_0 l0_0.length c0_0) := (blk_cell BK285.out 0).trans rfl
   have hfz13_0 := blk_frozen BK285.out 0
   go_wp2_with (first | (go_at_call 57; (with_reducible refine (spec_l11Fatal.calls k _ _ l0_0 a1 a2 t289 _ ?side1 ?side2 A11.out).mono ?_); (case side1 => exact ax28); (case side2 => exact ax29); rintro e w14 ⟨rfl, hb⟩; have n0_ := Aside0.mk (Kd.R_below (by (with_reducible repeat (first | apply Kd.R_alloc | apply Kd.R_drewN | apply Kd.R_drew)); exact HO288.out) hb); have n1_ := Aside0.mk (blk_below (g := gb285) (o := .cells #[.slice A0_0 l0_0.length c0_0] 30 (0, 0)) ax153 hb); have n2_ := Aside0.mk (below_step ax152 hb); clear HO288; clear BK285; clear HB; have HO288 := n0_; have BK285 := n1_; have HB := n2_; clear n0_ n1_ n2_; (try clear hb); (try clear hb2); (try clear hk); (try clear hi)))
   go_meet
   case rel => exact ⟨_, (t289), ax39, H', ⟨by first | omega | exact Nat.le_refl _⟩, ⟨by (with_reducible repeat (first | apply Kd.R_alloc | apply Kd.R_drewN | apply Kd.R_drew)); exact HO288.out⟩, ⟨by (with_reducible repeat (first | refine blk_drewN ?_ _ | refine blk_drew ?_ | refine blk_alloc ?_ _)); exact BK285.out⟩, ⟨by repeat (first | (with_reducible first | exact HB.out | apply below_alloc | apply pw_below_drewN | apply below_drew1 | refine below_set ?_ GE285.out) | exact HB.out)⟩⟩
 case rest =>
  clear HC5
  try clear p2
  try clear c5
  try clear c6
  try clear c9
  try clear c9b0
  try clear c9b1
  try clear c9b2
  try clear hcz13_0
  try clear hcz7_0
  try clear hfz13_0
  try clear hfz7_0
  obtain ⟨kq, x24_4, rfl, HA, HJ4, HO_7, BK285, HB⟩ := hcut
  cases kq with
  | zero => exact absurd HA.out (by simp [spec_l11Length.j0])
  | succ kj4 =>
   have H := HA.out; clear HA
   simp only [spec_l11Length.j0] at H
   by_cases c15 : x24_4 = true
   ·subst c15
    have H1 : (some 0) = some r := by rw [if_pos rfl] at H; exact H
    clear H; have H := H1; clear H1
    obtain rfl := Option.some.inj H
    go_wp2
    go_ret
    exact ⟨by first | rfl | (simp [errW_none, errW_some] <;> rfl) | (simp [*, errW_none, errW_some] <;> rfl), by repeat (first | (with_reducible first | exact HB.out | apply below_alloc | apply pw_below_drewN | apply below_drew1 | refine below_set ?_ GE285.out) | exact HB.out)⟩
   ·replace c15 := Bool.eq_false_iff.mpr c15
    subst c15
    have H1 : ((spec_l11Wins.f kj4 l0_0 a1 a2 false).bind fun t290 => (spec_l11Length.l0 kj4 a2 t286 t290 (-1) 0 l0_0)) = some r := by rw [if_neg (show ¬ (false = true) by decide)] at H; exact H
    clear H; have H := H1; clear H1; replace H := Option.bind_eq_some_iff.mp H
    obtain ⟨t290, A160, H⟩ := H
    replace H : (spec_l11Length.l0 kj4 a2 t286 t290 (-1) 0 l0_0) = some r := H
    have A16 := Aside0.mk A160; clear A160
    have H' := Aside0.mk H
    clear H
    have hcz17_0 : wc.cell? ⟨gb285, 0, none⟩ = some (.slice A0_0 l0_0.length c0_0) := (blk_cell BK285.out 0).trans rfl
    have hfz17_0 := blk_frozen BK285.out 0
    go_wp2_with (first | ((with_reducible refine gate_callee (f := 50) rfl ?_); refine goesL_ (some 28) rfl rfl Try.func50 (by kernel_rfl) rfl #[.agg #[.slice A0_0 l0_0.length c0_0], .int .i64 a1, .int .i64 a2, .bool false] rfl ax27 ?_; (with_reducible refine (spec_l11Wins.calls kj4 _ _ l0_0 a1 a2 false t290 _ ?side1 ?side2 A16.out).mono ?_); (case side1 => exact ax28); (case side2 => exact ax29); rintro e w18 ⟨rfl, hb⟩; refine ⟨_, rfl, ?_⟩; have n0_ := Aside0.mk (Kd.R_below ax154 hb); have n1_ := Aside0.mk (blk_below (g := gb285) (o := .cells #[.slice A0_0 l0_0.length c0_0] 30 (0, 0)) ax153 hb); have n2_ := Aside0.mk (below_step ax152 hb); clear HO_7; clear BK285; clear HB; have HO_7 := n0_; have BK285 := n1_; have HB := n2_; clear n0_ n1_ n2_; (try clear hb); (try clear hb2); (try clear hk); (try clear hi)))
    go_loopg [9, 10] kj4 (fun kq v9 v10 w' => ∃ (x9_2 : Int) (x10_2 : Int), v9 = .int .i64 x9_2 ∧ v10 = .int .i64 x10_2 ∧ Aside0 (spec_l11Length.l0 kq a2 t286 t290 x9_2 x10_2 l0_0 = some r) ∧ Aside0 (kq ≤ kj4) ∧ Aside0 (Kd.R (Kd.int .i64) 3 w' w.heap.size (fun _ => True) v287 t286) ∧ Aside0 (w'.heap[gb285]? = some (.cells #[(.slice A0_0 l0_0.length c0_0)] 30 (0, 0))) ∧ Aside0 (Below w.heap.size w w'))
    case atStart => exact ⟨((-1)), (0), ax39, ax39, H', ⟨Nat.le_refl _⟩, ⟨by (with_reducible repeat (first | apply Kd.R_alloc | apply Kd.R_drewN | apply Kd.R_drew)); exact HO_7.out⟩, ⟨by (with_reducible repeat (first | refine blk_drewN ?_ _ | refine blk_drew ?_ | refine blk_alloc ?_ _)); exact BK285.out⟩, ⟨by repeat (first | (with_reducible first | exact HB.out | apply below_alloc | apply pw_below_drewN | apply below_drew1 | refine below_set ?_ GE285.out) | exact HB.out)⟩⟩
    case round =>
     clear H'
     try clear c1
     try clear p2
     try clear c5
     try clear c6
     try clear c9
     try clear c9b0
     try clear c9b1
     try clear c9b2
     try clear c15
     try clear hcz13_0
     try clear hcz17_0
     try clear hcz7_0
     try clear hfz13_0
     try clear hfz17_0
     try clear hfz7_0
     try clear p2
     obtain ⟨x9_2, x10_2, rfl, rfl, HA, HK2, HO_7, BK285, HB⟩ := hrel
     cases gk with
     | zero => exact absurd HA.out (by simp [spec_l11Length.l0])
     | succ k2 =>
      have H := HA.out; clear HA
      simp only [spec_l11Length.l0] at H
      by_cases c19 : x10_2 < (t286.length : Int)
      ·rw [if_pos c19] at H
       have c19b0 : decide (x10_2 < (t286.length : Int)) = true := decide_eq_true c19
       clear c19
       by_cases c20 : 0 ≤ x10_2
       ·rw [if_pos c20] at H
        have c20b0 : decide (0 ≤ x10_2) = true := decide_eq_true c20
        clear c20; replace H := Option.bind_eq_some_iff.mp H
        obtain ⟨t292, A210, H⟩ := H
        replace H : (if t292 = true then ((spec_l11Length.f k2 l0_0 (rd t286 x10_2) a2).bind fun t294 => (if t290 = true then (spec_l11Length.l0 k2 a2 t286 t290 x9_2 (wrap64 (x10_2 + 1)) l0_0) else (if (wrap64 (1 + t294)) > x9_2 then (spec_l11Length.l0 k2 a2 t286 t290 (wrap64 (1 + t294)) (wrap64 (x10_2 + 1)) l0_0) else (spec_l11Length.l0 k2 a2 t286 t290 x9_2 (wrap64 (x10_2 + 1)) l0_0)))) else ((spec_l11Wins.f k2 l0_0 (rd t286 x10_2) a2 false).bind fun t296 => ((spec_l11Length.f k2 l0_0 (rd t286 x10_2) a2).bind fun t298 => (if t290 = true then (if t296 = true then (spec_l11Length.l0 k2 a2 t286 t290 x9_2 (wrap64 (x10_2 + 1)) l0_0) else (if x9_2 < 0 then (spec_l11Length.l0 k2 a2 t286 t290 (wrap64 (1 + t298)) (wrap64 (x10_2 + 1)) l0_0) else (if (wrap64 (1 + t298)) < x9_2 then (spec_l11Length.l0 k2 a2 t286 t290 (wrap64 (1 + t298)) (wrap64 (x10_2 + 1)) l0_0) else (spec_l11Length.l0 k2 a2 t286 t290 x9_2 (wrap64 (x10_2 + 1)) l0_0)))) else (if (wrap64 (1 + t298)) > x9_2 then (spec_l11Length.l0 k2 a2 t286 t290 (wrap64 (1 + t298)) (wrap64 (x10_2 + 1)) l0_0) else (spec_l11Length.l0 k2 a2 t286 t290 x9_2 (wrap64 (x10_2 + 1)) l0_0)))))) = some r := H
        have A21 := Aside0.mk A210; clear A210
        by_cases c22 : t292 = true
        ·subst c22
         have H1 : ((spec_l11Length.f k2 l0_0 (rd t286 x10_2) a2).bind fun t294 => (if t290 = true then (spec_l11Length.l0 k2 a2 t286 t290 x9_2 (wrap64 (x10_2 + 1)) l0_0) else (if (wrap64 (1 + t294)) > x9_2 then (spec_l11Length.l0 k2 a2 t286 t290 (wrap64 (1 + t294)) (wrap64 (x10_2 + 1)) l0_0) else (spec_l11Length.l0 k2 a2 t286 t290 x9_2 (wrap64 (x10_2 + 1)) l0_0)))) = some r := by rw [if_pos rfl] at H; exact H
         clear H; have H := H1; clear H1; replace H := Option.bind_eq_some_iff.mp H
         obtain ⟨t294, A230, H⟩ := H
         replace H : (if t290 = true then (spec_l11Length.l0 k2 a2 t286 t290 x9_2 (wrap64 (x10_2 + 1)) l0_0) else (if (wrap64 (1 + t294)) > x9_2 then (spec_l11Length.l0 k2 a2 t286 t290 (wrap64 (1 + t294)) (wrap64 (x10_2 + 1)) l0_0) else (spec_l11Length.l0 k2 a2 t286 t290 x9_2 (wrap64 (x10_2 + 1)) l0_0))) = some r := H
         have A23 := Aside0.mk A230; clear A230
         by_cases c24 : t290 = true
         ·subst c24
          have H1 : (spec_l11Length.l0 k2 a2 t286 true x9_2 (wrap64 (x10_2 + 1)) l0_0) = some r := by rw [if_pos rfl] at H; exact H
          clear H; have H := H1; clear H1
          have H' := Aside0.mk H
          clear H
          obtain ⟨Ao25, co25, eo25⟩ := Kd.R_slice HO_7.out
          subst eo25
          try go_wp2
          have n0_ := Aside0.mk (Kd.R_drew HO_7.out); have n1_ := Aside0.mk (blk_drew BK285.out); have n2_ := Aside0.mk (below_drew1 HB.out); clear HO_7; clear BK285; clear HB; have HO_7 := n0_; have BK285 := n1_; have HB := n2_; clear n0_ n1_ n2_
          have p291 : 0 ≤ (x10_2 : Int) := of_decide_eq_true ax38
          have q291 : x10_2 < (t286.length : Int) := of_decide_eq_true ax38
          obtain ⟨ad291, e291, hx291_0⟩ := Kd.at_int (Kd.R_reads' HO_7.out).2.2 x10_2 p291 q291
          cases e291; replace p291 := eq_true p291; replace q291 := eq_true q291
          refine start_ (n := 19) (S := fun w' => w'.cell? ⟨gb285, 0, none⟩ = some (.slice A0_0 l0_0.length c0_0) ∧ w'.cell? (ad291.add (x10_2).toNat) = some (.int .i64 (rd t286 x10_2))) (ds := []) (ob 19 0) (by kernel_rfl) rfl rfl ⟨(blk_cell BK285.out 0).trans rfl, hx291_0⟩ (fun hHeld => ?_); refine with_tabW spec_l11Length.tab8 spec_l11Length.bits8 (fun HT_ HW_ => ?_)
          generalize wr.drew = w26 at HO_7 BK285 HB hx291_0 hHeld ⊢
          refine pure_ (i := 1) (N := some 36) (v := ?_) (a' := ?_) (ob 19 2) rfl rfl (any_of HT_.out (by kernel_rfl)) (fun _ _ _ h => h) (Or.inl ⟨by rfl, ?_⟩) ?_ ?_; rotate_left; exact ax3; rotate_left; exact ax4
          refine pure_ (i := 2) (N := some 37) (v := ?_) (a' := ?_) (ob 19 6) rfl rfl (any_of HT_.out (by kernel_rfl)) (fun _ _ _ h => h) (Or.inl ⟨by rfl, ?_⟩) ?_ ?_; rotate_left; exact ax3; rotate_left; exact ax4
          refine pure_ (i := 3) (N := some 38) (v := ?_) (a' := ?_) (ob 19 14) rfl rfl (any_of HT_.out (by kernel_rfl)) (fun _ _ _ h => h) (Or.inl ⟨by rfl, ?_⟩) ?_ ?_; rotate_left; exact ax3; rotate_left; exact ax4
          refine pure_ (i := 5) (N := some 40) (v := ?_) (a' := ?_) (ob 19 46) rfl rfl (any_of HT_.out (by kernel_rfl)) (fun _ _ _ h => h) (Or.inl ⟨by rfl, ?_⟩) ?_ ?_; rotate_left; exact ax3; rotate_left; exact ax4
          refine take_ (i := 0) (N := some 35) (v := ?_) (a' := ?_) (ob 19 47) rfl rfl (take_ofW HT_.out HW_.out (by kernel_rfl)) (fun _ _ _ h => h) (Or.inl ⟨by rfl, ?_⟩) hHeld ?_ ?_; rotate_left; exact ax14; rotate_left; exact ax4
          refine take_ (i := 4) (N := some 39) (v := ?_) (a' := ?_) (ob 19 63) rfl rfl (take_ofW HT_.out HW_.out (by kernel_rfl)) (fun _ _ _ h => h) (Or.inl ⟨by rfl, ?_⟩) hHeld ?_ ?_; rotate_left; exact ax14; rotate_left; exact ax4
          refine one_ (i := 6) (N := some 41) (ob 19 127) rfl rfl (one_of HT_.out (by kernel_rfl)) (by decide) (fun K hK => ?_)
          refine goes_ Try.func57 (by kernel_rfl) rfl #[.agg #[.slice A0_0 l0_0.length c0_0], .int .i64 (rd t286 x10_2), .int .i64 a2] (by rfl) rfl rfl ax27 ?_
          with_reducible refine (spec_l11Fatal.calls k2 _ _ l0_0 (rd t286 x10_2) a2 true _ ?side1 ?side2 A21.out).mono ?_
          (case side1 => exact ax28)
          (case side2 => exact ax29)
          rintro e w27 ⟨rfl, hb⟩
          have HS1_ := (hb.cell (World.block_lt_of_cell? _ _ (hHeld.2))).trans (hHeld.2)
          refine ⟨_, rfl, ?_⟩
          have n0_ := Aside0.mk (Kd.R_below ax154 hb)
          have n1_ := Aside0.mk (blk_below (g := gb285) (o := .cells #[.slice A0_0 l0_0.length c0_0] 30 (0, 0)) ax153 hb)
          have n2_ := Aside0.mk (below_step ax152 hb); clear HO_7; clear BK285; clear HB; have HO_7 := n0_; have BK285 := n1_; have HB := n2_; clear n0_ n1_ n2_; (try clear hb); (try clear hb2); (try clear hk); (try clear hi)
          refine hK.out _ _ ⟨(blk_cell BK285.out 0).trans rfl, HS1_⟩ (fun hHeld => ?_)
          clear hK K
          refine norm_ (a' := ?_) ?_ ?_
          rotate_left
          ·exact ax20
          refine pure_ (i := 7) (N := some 42) (v := ?_) (a' := ?_) (ob 19 255) rfl rfl (any_of HT_.out (by kernel_rfl)) (fun _ _ _ h => h) (Or.inl ⟨by rfl, ?_⟩) ?_ ?_; rotate_left; exact ax3; rotate_left; exact ax4
          refine pure_ (i := 8) (N := some 43) (v := ?_) (a' := ?_) (ob 19 511) rfl rfl (any_of HT_.out (by kernel_rfl)) (fun _ _ _ h => h) (Or.inl ⟨by rfl, ?_⟩) ?_ ?_; rotate_left; exact ax3; rotate_left; exact ax4
          refine pure_ (i := 9) (N := some 44) (v := undef) (a' := ?_) (ob 19 1023) rfl rfl (any_of HT_.out (by kernel_rfl)) (fun _ _ _ h => h) (Or.inr ⟨by rfl, rfl⟩) ?_ ?_
          rotate_left
          ·exact ax4
          refine pure_ (i := 10) (N := some 45) (v := undef) (a' := ?_) (ob 19 2047) rfl rfl (any_of HT_.out (by kernel_rfl)) (fun _ _ _ h => h) (Or.inr ⟨by rfl, rfl⟩) ?_ ?_
          rotate_left
          ·exact ax4
          refine pure_ (i := 11) (N := some 46) (v := undef) (a' := ?_) (ob 19 4095) rfl rfl (any_of HT_.out (by kernel_rfl)) (fun _ _ _ h => h) (Or.inr ⟨by rfl, rfl⟩) ?_ ?_
          rotate_left
          ·exact ax4
          refine pure_ (i := 12) (N := some 47) (v := undef) (a' := ?_) (ob 19 8191) rfl rfl (any_of HT_.out (by kernel_rfl)) (fun _ _ _ h => h) (Or.inr ⟨by rfl, rfl⟩) ?_ ?_
          rotate_left
          ·exact ax4
          refine pure_ (i := 13) (N := some 48) (v := undef) (a' := ?_) (ob 19 16383) rfl rfl (any_of HT_.out (by kernel_rfl)) (fun _ _ _ h => h) (Or.inr ⟨by rfl, rfl⟩) ?_ ?_
          rotate_left
          ·exact ax4
          refine pure_ (i := 14) (N := some 49) (v := undef) (a' := ?_) (ob 19 32767) rfl rfl (any_of HT_.out (by kernel_rfl)) (fun _ _ _ h => h) (Or.inr ⟨by rfl, rfl⟩) ?_ ?_
          rotate_left
          ·exact ax4
          refine pure_ (i := 15) (N := some 50) (v := undef) (a' := ?_) (ob 19 65535) rfl rfl (any_of HT_.out (by kernel_rfl)) (fun _ _ _ h => h) (Or.inr ⟨by rfl, rfl⟩) ?_ ?_
          rotate_left
          ·exact ax4
          refine pure_ (i := 16) (N := some 51) (v := undef) (a' := ?_) (ob 19 131071) rfl rfl (any_of HT_.out (by kernel_rfl)) (fun _ _ _ h => h) (Or.inr ⟨by rfl, rfl⟩) ?_ ?_
          rotate_left
          ·exact ax4
          refine pure_ (i := 17) (N := some 52) (v := ?_) (a' := ?_) (ob 19 262143) rfl rfl (any_of HT_.out (by kernel_rfl)) (fun _ _ _ h => h) (Or.inl ⟨by rfl, ?_⟩) ?_ ?_; rotate_left; exact ax3; rotate_left; exact ax4
          refine pure_ (i := 18) (N := some 11) (v := ?_) (a' := ?_) (ob 19 524287) rfl rfl (any_of HT_.out (by kernel_rfl)) (fun _ _ _ h => h) (Or.inl ⟨by rfl, ?_⟩) ?_ ?_; rotate_left; exact ax3; rotate_left; exact ax4
          refine done_ (done_of HT_.out (by kernel_rfl)) ?_
          try go_wp2
          have n0_ := Aside0.mk (Kd.R_drew HO_7.out); have n1_ := Aside0.mk (blk_drew BK285.out); have n2_ := Aside0.mk (below_drew1 HB.out); clear HO_7; clear BK285; clear HB; have HO_7 := n0_; have BK285 := n1_; have HB := n2_; clear n0_ n1_ n2_
          have p293 : 0 ≤ (x10_2 : Int) := of_decide_eq_true ax38
          have q293 : x10_2 < (t286.length : Int) := of_decide_eq_true ax38
          obtain ⟨ad293, e293, hx293_0⟩ := Kd.at_int (Kd.R_reads' HO_7.out).2.2 x10_2 p293 q293
          obtain rfl : ad291 = ad293 := (by injection e293)
          replace p293 := eq_true p293; replace q293 := eq_true q293
          refine start_ (n := 9) (S := fun w' => w'.cell? ⟨gb285, 0, none⟩ = some (.slice A0_0 l0_0.length c0_0) ∧ w'.cell? (ad291.add (x10_2).toNat) = some (.int .i64 (rd t286 x10_2))) (ds := []) (ob 9 0) (by kernel_rfl) rfl rfl ⟨(blk_cell BK285.out 0).trans rfl, hx293_0⟩ (fun hHeld => ?_); refine with_tabW spec_l11Length.tab9 spec_l11Length.bits9 (fun HT_ HW_ => ?_)
          generalize w27.drew = w28 at HO_7 BK285 HB hx293_0 hHeld ⊢
          refine pure_ (i := 1) (N := some 54) (v := ?_) (a' := ?_) (ob 9 2) rfl rfl (any_of HT_.out (by kernel_rfl)) (fun _ _ _ h => h) (Or.inl ⟨by rfl, ?_⟩) ?_ ?_; rotate_left; exact ax3; rotate_left; exact ax4
          refine pure_ (i := 2) (N := some 55) (v := ?_) (a' := ?_) (ob 9 6) rfl rfl (any_of HT_.out (by kernel_rfl)) (fun _ _ _ h => h) (Or.inl ⟨by rfl, ?_⟩) ?_ ?_; rotate_left; exact ax3; rotate_left; exact ax4
          refine pure_ (i := 3) (N := some 56) (v := ?_) (a' := ?_) (ob 9 14) rfl rfl (any_of HT_.out (by kernel_rfl)) (fun _ _ _ h => h) (Or.inl ⟨by rfl, ?_⟩) ?_ ?_; rotate_left; exact ax3; rotate_left; exact ax4
          refine pure_ (i := 5) (N := some 58) (v := ?_) (a' := ?_) (ob 9 46) rfl rfl (any_of HT_.out (by kernel_rfl)) (fun _ _ _ h => h) (Or.inl ⟨by rfl, ?_⟩) ?_ ?_; rotate_left; exact ax3; rotate_left; exact ax4
          refine take_ (i := 0) (N := some 53) (v := ?_) (a' := ?_) (ob 9 47) rfl rfl (take_ofW HT_.out HW_.out (by kernel_rfl)) (fun _ _ _ h => h) (Or.inl ⟨by rfl, ?_⟩) hHeld ?_ ?_; rotate_left; exact ax14; rotate_left; exact ax4
          refine take_ (i := 4) (N := some 57) (v := ?_) (a' := ?_) (ob 9 63) rfl rfl (take_ofW HT_.out HW_.out (by kernel_rfl)) (fun _ _ _ h => h) (Or.inl ⟨by rfl, ?_⟩) hHeld ?_ ?_; rotate_left; exact ax14; rotate_left; exact ax4
          refine one_ (i := 6) (N := some 59) (ob 9 127) rfl rfl (one_of HT_.out (by kernel_rfl)) (by decide) (fun K hK => ?_)
          refine goes_ Try.func66 (by kernel_rfl) rfl #[.agg #[.slice A0_0 l0_0.length c0_0], .int .i64 (rd t286 x10_2), .int .i64 a2] (by rfl) rfl rfl ax27 ?_
          with_reducible refine (ih k2 ax155 _ _ l0_0 (rd t286 x10_2) a2 t294 _ ?side1 ?side2 A23.out).mono ?_
          (case side1 => exact ax28)
          (case side2 => exact ax29)
          rintro e w29 ⟨rfl, hb⟩
          have HS1_ := (hb.cell (World.block_lt_of_cell? _ _ (hHeld.2))).trans (hHeld.2)
          refine ⟨_, rfl, ?_⟩
          have n0_ := Aside0.mk (Kd.R_below ax154 hb)
          have n1_ := Aside0.mk (blk_below (g := gb285) (o := .cells #[.slice A0_0 l0_0.length c0_0] 30 (0, 0)) ax153 hb)
          have n2_ := Aside0.mk (below_step ax152 hb); clear HO_7; clear BK285; clear HB; have HO_7 := n0_; have BK285 := n1_; have HB := n2_; clear n0_ n1_ n2_; (try clear hb); (try clear hb2); (try clear hk); (try clear hi)
          refine hK.out _ _ ⟨(blk_cell BK285.out 0).trans rfl, HS1_⟩ (fun hHeld => ?_)
          clear hK K
          refine norm_ (a' := ?_) ?_ ?_
          rotate_left
          ·exact ax21
          refine pure_ (i := 7) (N := some 60) (v := ?_) (a' := ?_) (ob 9 255) rfl rfl (any_of HT_.out (by kernel_rfl)) (fun _ _ _ h => h) (Or.inl ⟨by rfl, ?_⟩) ?_ ?_; rotate_left; exact ax3; rotate_left; exact ax4
          refine pure_ (i := 8) (N := some 12) (v := ?_) (a' := ?_) (ob 9 511) rfl rfl (any_of HT_.out (by kernel_rfl)) (fun _ _ _ h => h) (Or.inl ⟨by rfl, ?_⟩) ?_ ?_; rotate_left; exact ax3; rotate_left; exact ax4
          refine done_ (done_of HT_.out (by kernel_rfl)) ?_
          try go_wp2
          go_roundg k2
          case measure => have := HJ4.out; have := HK2.out; omega
          case rel => exact ⟨(x9_2), (wrap64 (x10_2 + 1)), ax39, ax39, H', ⟨by have := HJ4.out; have := HK2.out; omega⟩, ⟨by (with_reducible repeat (first | apply Kd.R_alloc | apply Kd.R_drewN | apply Kd.R_drew)); exact HO_7.out⟩, ⟨by (with_reducible repeat (first | refine blk_drewN ?_ _ | refine blk_drew ?_ | refine blk_alloc ?_ _)); exact BK285.out⟩, ⟨by repeat (first | (with_reducible first | exact HB.out | apply below_alloc | apply pw_below_drewN | apply below_drew1 | refine below_set ?_ GE285.out) | exact HB.out)⟩⟩
         ·replace c24 := Bool.eq_false_iff.mpr c24
          subst c24
          have H1 : (if (wrap64 (1 + t294)) > x9_2 then (spec_l11Length.l0 k2 a2 t286 false (wrap64 (1 + t294)) (wrap64 (x10_2 + 1)) l0_0) else (spec_l11Length.l0 k2 a2 t286 false x9_2 (wrap64 (x10_2 + 1)) l0_0)) = some r := by rw [if_neg (show ¬ (false = true) by decide)] at H; exact H
          clear H; have H := H1; clear H1
          by_cases c30 : (wrap64 (1 + t294)) > x9_2
          ·rw [if_pos c30] at H
           have c30b0 : decide (x9_2 < (wrap64 (1 + t294))) = true := decide_eq_true c30
           clear c30
           have H' := Aside0.mk H
           clear H
           obtain ⟨Ao31, co31, eo31⟩ := Kd.R_slice HO_7.out
           subst eo31
           try go_wp2
           have n0_ := Aside0.mk (Kd.R_drew HO_7.out); have n1_ := Aside0.mk (blk_drew BK285.out); have n2_ := Aside0.mk (below_drew1 HB.out); clear HO_7; clear BK285; clear HB; have HO_7 := n0_; have BK285 := n1_; have HB := n2_; clear n0_ n1_ n2_
           have p291 : 0 ≤ (x10_2 : Int) := of_decide_eq_true ax38
           have q291 : x10_2 < (t286.length : Int) := of_decide_eq_true ax38
           obtain ⟨ad291, e291, hx291_0⟩ := Kd.at_int (Kd.R_reads' HO_7.out).2.2 x10_2 p291 q291
           cases e291; replace p291 := eq_true p291; replace q291 := eq_true q291
           refine start_ (n := 19) (S := fun w' => w'.cell? ⟨gb285, 0, none⟩ = some (.slice A0_0 l0_0.length c0_0) ∧ w'.cell? (ad291.add (x10_2).toNat) = some (.int .i64 (rd t286 x10_2))) (ds := []) (ob 19 0) (by kernel_rfl) rfl rfl ⟨(blk_cell BK285.out 0).trans rfl, hx291_0⟩ (fun hHeld => ?_); refine with_tabW spec_l11Length.tab8 spec_l11Length.bits8 (fun HT_ HW_ => ?_)
           generalize wr.drew = w32 at HO_7 BK285 HB hx291_0 hHeld ⊢
           refine pure_ (i := 1) (N := some 36) (v := ?_) (a' := ?_) (ob 19 2) rfl rfl (any_of HT_.out (by kernel_rfl)) (fun _ _ _ h => h) (Or.inl ⟨by rfl, ?_⟩) ?_ ?_; rotate_left; exact ax3; rotate_left; exact ax4
           refine pure_ (i := 2) (N := some 37) (v := ?_) (a' := ?_) (ob 19 6) rfl rfl (any_of HT_.out (by kernel_rfl)) (fun _ _ _ h => h) (Or.inl ⟨by rfl, ?_⟩) ?_ ?_; rotate_left; exact ax3; rotate_left; exact ax4
           refine pure_ (i := 3) (N := some 38) (v := ?_) (a' := ?_) (ob 19 14) rfl rfl (any_of HT_.out (by kernel_rfl)) (fun _ _ _ h => h) (Or.inl ⟨by rfl, ?_⟩) ?_ ?_; rotate_left; exact ax3; rotate_left; exact ax4
           refine pure_ (i := 5) (N := some 40) (v := ?_) (a' := ?_) (ob 19 46) rfl rfl (any_of HT_.out (by kernel_rfl)) (fun _ _ _ h => h) (Or.inl ⟨by rfl, ?_⟩) ?_ ?_; rotate_left; exact ax3; rotate_left; exact ax4
           refine take_ (i := 0) (N := some 35) (v := ?_) (a' := ?_) (ob 19 47) rfl rfl (take_ofW HT_.out HW_.out (by kernel_rfl)) (fun _ _ _ h => h) (Or.inl ⟨by rfl, ?_⟩) hHeld ?_ ?_; rotate_left; exact ax14; rotate_left; exact ax4
           refine take_ (i := 4) (N := some 39) (v := ?_) (a' := ?_) (ob 19 63) rfl rfl (take_ofW HT_.out HW_.out (by kernel_rfl)) (fun _ _ _ h => h) (Or.inl ⟨by rfl, ?_⟩) hHeld ?_ ?_; rotate_left; exact ax14; rotate_left; exact ax4
           refine one_ (i := 6) (N := some 41) (ob 19 127) rfl rfl (one_of HT_.out (by kernel_rfl)) (by decide) (fun K hK => ?_)
           refine goes_ Try.func57 (by kernel_rfl) rfl #[.agg #[.slice A0_0 l0_0.length c0_0], .int .i64 (rd t286 x10_2), .int .i64 a2] (by rfl) rfl rfl ax27 ?_
           with_reducible refine (spec_l11Fatal.calls k2 _ _ l0_0 (rd t286 x10_2) a2 true _ ?side1 ?side2 A21.out).mono ?_
           (case side1 => exact ax28)
           (case side2 => exact ax29)
           rintro e w33 ⟨rfl, hb⟩
           have HS1_ := (hb.cell (World.block_lt_of_cell? _ _ (hHeld.2))).trans (hHeld.2)
           refine ⟨_, rfl, ?_⟩
           have n0_ := Aside0.mk (Kd.R_below ax154 hb)
           have n1_ := Aside0.mk (blk_below (g := gb285) (o := .cells #[.slice A0_0 l0_0.length c0_0] 30 (0, 0)) ax153 hb)
           have n2_ := Aside0.mk (below_step ax152 hb); clear HO_7; clear BK285; clear HB; have HO_7 := n0_; have BK285 := n1_; have HB := n2_; clear n0_ n1_ n2_; (try clear hb); (try clear hb2); (try clear hk); (try clear hi)
           refine hK.out _ _ ⟨(blk_cell BK285.out 0).trans rfl, HS1_⟩ (fun hHeld => ?_)
           clear hK K
           refine norm_ (a' := ?_) ?_ ?_
           rotate_left
           ·exact ax20
           refine pure_ (i := 7) (N := some 42) (v := ?_) (a' := ?_) (ob 19 255) rfl rfl (any_of HT_.out (by kernel_rfl)) (fun _ _ _ h => h) (Or.inl ⟨by rfl, ?_⟩) ?_ ?_; rotate_left; exact ax3; rotate_left; exact ax4
           refine pure_ (i := 8) (N := some 43) (v := ?_) (a' := ?_) (ob 19 511) rfl rfl (any_of HT_.out (by kernel_rfl)) (fun _ _ _ h => h) (Or.inl ⟨by rfl, ?_⟩) ?_ ?_; rotate_left; exact ax3; rotate_left; exact ax4
           refine pure_ (i := 9) (N := some 44) (v := undef) (a' := ?_) (ob 19 1023) rfl rfl (any_of HT_.out (by kernel_rfl)) (fun _ _ _ h => h) (Or.inr ⟨by rfl, rfl⟩) ?_ ?_
           rotate_left
           ·exact ax4
           refine pure_ (i := 10) (N := some 45) (v := undef) (a' := ?_) (ob 19 2047) rfl rfl (any_of HT_.out (by kernel_rfl)) (fun _ _ _ h => h) (Or.inr ⟨by rfl, rfl⟩) ?_ ?_
           rotate_left
           ·exact ax4
           refine pure_ (i := 11) (N := some 46) (v := undef) (a' := ?_) (ob 19 4095) rfl rfl (any_of HT_.out (by kernel_rfl)) (fun _ _ _ h => h) (Or.inr ⟨by rfl, rfl⟩) ?_ ?_
           rotate_left
           ·exact ax4
           refine pure_ (i := 12) (N := some 47) (v := undef) (a' := ?_) (ob 19 8191) rfl rfl (any_of HT_.out (by kernel_rfl)) (fun _ _ _ h => h) (Or.inr ⟨by rfl, rfl⟩) ?_ ?_
           rotate_left
           ·exact ax4
           refine pure_ (i := 13) (N := some 48) (v := undef) (a' := ?_) (ob 19 16383) rfl rfl (any_of HT_.out (by kernel_rfl)) (fun _ _ _ h => h) (Or.inr ⟨by rfl, rfl⟩) ?_ ?_
           rotate_left
           ·exact ax4
           refine pure_ (i := 14) (N := some 49) (v := undef) (a' := ?_) (ob 19 32767) rfl rfl (any_of HT_.out (by kernel_rfl)) (fun _ _ _ h => h) (Or.inr ⟨by rfl, rfl⟩) ?_ ?_
           rotate_left
           ·exact ax4
           refine pure_ (i := 15) (N := some 50) (v := undef) (a' := ?_) (ob 19 65535) rfl rfl (any_of HT_.out (by kernel_rfl)) (fun _ _ _ h => h) (Or.inr ⟨by rfl, rfl⟩) ?_ ?_
           rotate_left
           ·exact ax4
           refine pure_ (i := 16) (N := some 51) (v := undef) (a' := ?_) (ob 19 131071) rfl rfl (any_of HT_.out (by kernel_rfl)) (fun _ _ _ h => h) (Or.inr ⟨by rfl, rfl⟩) ?_ ?_
           rotate_left
           ·exact ax4
           refine pure_ (i := 17) (N := some 52) (v := ?_) (a' := ?_) (ob 19 262143) rfl rfl (any_of HT_.out (by kernel_rfl)) (fun _ _ _ h => h) (Or.inl ⟨by rfl, ?_⟩) ?_ ?_; rotate_left; exact ax3; rotate_left; exact ax4
           refine pure_ (i := 18) (N := some 11) (v := ?_) (a' := ?_) (ob 19 524287) rfl rfl (any_of HT_.out (by kernel_rfl)) (fun _ _ _ h => h) (Or.inl ⟨by rfl, ?_⟩) ?_ ?_; rotate_left; exact ax3; rotate_left; exact ax4
           refine done_ (done_of HT_.out (by kernel_rfl)) ?_
           try go_wp2
           have n0_ := Aside0.mk (Kd.R_drew HO_7.out); have n1_ := Aside0.mk (blk_drew BK285.out); have n2_ := Aside0.mk (below_drew1 HB.out); clear HO_7; clear BK285; clear HB; have HO_7 := n0_; have BK285 := n1_; have HB := n2_; clear n0_ n1_ n2_
           have p293 : 0 ≤ (x10_2 : Int) := of_decide_eq_true ax38
           have q293 : x10_2 < (t286.length : Int) := of_decide_eq_true ax38
           obtain ⟨ad293, e293, hx293_0⟩ := Kd.at_int (Kd.R_reads' HO_7.out).2.2 x10_2 p293 q293
           obtain rfl : ad291 = ad293 := (by injection e293)
           replace p293 := eq_true p293; replace q293 := eq_true q293
           refine start_ (n := 9) (S := fun w' => w'.cell? ⟨gb285, 0, none⟩ = some (.slice A0_0 l0_0.length c0_0) ∧ w'.cell? (ad291.add (x10_2).toNat) = some (.int .i64 (rd t286 x10_2))) (ds := []) (ob 9 0) (by kernel_rfl) rfl rfl ⟨(blk_cell BK285.out 0).trans rfl, hx293_0⟩ (fun hHeld => ?_); refine with_tabW spec_l11Length.tab9 spec_l11Length.bits9 (fun HT_ HW_ => ?_)
           generalize w33.drew = w34 at HO_7 BK285 HB hx293_0 hHeld ⊢
           refine pure_ (i := 1) (N := some 54) (v := ?_) (a' := ?_) (ob 9 2) rfl rfl (any_of HT_.out (by kernel_rfl)) (fun _ _ _ h => h) (Or.inl ⟨by rfl, ?_⟩) ?_ ?_; rotate_left; exact ax3; rotate_left; exact ax4
           refine pure_ (i := 2) (N := some 55) (v := ?_) (a' := ?_) (ob 9 6) rfl rfl (any_of HT_.out (by kernel_rfl)) (fun _ _ _ h => h) (Or.inl ⟨by rfl, ?_⟩) ?_ ?_; rotate_left; exact ax3; rotate_left; exact ax4
           refine pure_ (i := 3) (N := some 56) (v := ?_) (a' := ?_) (ob 9 14) rfl rfl (any_of HT_.out (by kernel_rfl)) (fun _ _ _ h => h) (Or.inl ⟨by rfl, ?_⟩) ?_ ?_; rotate_left; exact ax3; rotate_left; exact ax4
           refine pure_ (i := 5) (N := some 58) (v := ?_) (a' := ?_) (ob 9 46) rfl rfl (any_of HT_.out (by kernel_rfl)) (fun _ _ _ h => h) (Or.inl ⟨by rfl, ?_⟩) ?_ ?_; rotate_left; exact ax3; rotate_left; exact ax4
           refine take_ (i := 0) (N := some 53) (v := ?_) (a' := ?_) (ob 9 47) rfl rfl (take_ofW HT_.out HW_.out (by kernel_rfl)) (fun _ _ _ h => h) (Or.inl ⟨by rfl, ?_⟩) hHeld ?_ ?_; rotate_left; exact ax14; rotate_left; exact ax4
           refine take_ (i := 4) (N := some 57) (v := ?_) (a' := ?_) (ob 9 63) rfl rfl (take_ofW HT_.out HW_.out (by kernel_rfl)) (fun _ _ _ h => h) (Or.inl ⟨by rfl, ?_⟩) hHeld ?_ ?_; rotate_left; exact ax14; rotate_left; exact ax4
           refine one_ (i := 6) (N := some 59) (ob 9 127) rfl rfl (one_of HT_.out (by kernel_rfl)) (by decide) (fun K hK => ?_)
           refine goes_ Try.func66 (by kernel_rfl) rfl #[.agg #[.slice A0_0 l0_0.length c0_0], .int .i64 (rd t286 x10_2), .int .i64 a2] (by rfl) rfl rfl ax27 ?_
           with_reducible refine (ih k2 ax155 _ _ l0_0 (rd t286 x10_2) a2 t294 _ ?side1 ?side2 A23.out).mono ?_
           (case side1 => exact ax28)
           (case side2 => exact ax29)
           rintro e w35 ⟨rfl, hb⟩
           have HS1_ := (hb.cell (World.block_lt_of_cell? _ _ (hHeld.2))).trans (hHeld.2)
           refine ⟨_, rfl, ?_⟩
           have n0_ := Aside0.mk (Kd.R_below ax154 hb)
           have n1_ := Aside0.mk (blk_below (g := gb285) (o := .cells #[.slice A0_0 l0_0.length c0_0] 30 (0, 0)) ax153 hb)
           have n2_ := Aside0.mk (below_step ax152 hb); clear HO_7; clear BK285; clear HB; have HO_7 := n0_; have BK285 := n1_; have HB := n2_; clear n0_ n1_ n2_; (try clear hb); (try clear hb2); (try clear hk); (try clear hi)
           refine hK.out _ _ ⟨(blk_cell BK285.out 0).trans rfl, HS1_⟩ (fun hHeld => ?_)
           clear hK K
           refine norm_ (a' := ?_) ?_ ?_
           rotate_left
           ·exact ax21
           refine pure_ (i := 7) (N := some 60) (v := ?_) (a' := ?_) (ob 9 255) rfl rfl (any_of HT_.out (by kernel_rfl)) (fun _ _ _ h => h) (Or.inl ⟨by rfl, ?_⟩) ?_ ?_; rotate_left; exact ax3; rotate_left; exact ax4
           refine pure_ (i := 8) (N := some 12) (v := ?_) (a' := ?_) (ob 9 511) rfl rfl (any_of HT_.out (by kernel_rfl)) (fun _ _ _ h => h) (Or.inl ⟨by rfl, ?_⟩) ?_ ?_; rotate_left; exact ax3; rotate_left; exact ax4
           refine done_ (done_of HT_.out (by kernel_rfl)) ?_
           try go_wp2
           go_roundg k2
           case measure => have := HJ4.out; have := HK2.out; omega
           case rel => exact ⟨(wrap64 (1 + t294)), (wrap64 (x10_2 + 1)), ax39, ax39, H', ⟨by have := HJ4.out; have := HK2.out; omega⟩, ⟨by (with_reducible repeat (first | apply Kd.R_alloc | apply Kd.R_drewN | apply Kd.R_drew)); exact HO_7.out⟩, ⟨by (with_reducible repeat (first | refine blk_drewN ?_ _ | refine blk_drew ?_ | refine blk_alloc ?_ _)); exact BK285.out⟩, ⟨by repeat (first | (with_reducible first | exact HB.out | apply below_alloc | apply pw_below_drewN | apply below_drew1 | refine below_set ?_ GE285.out) | exact HB.out)⟩⟩
          ·rw [if_neg c30] at H
           have c30b0 : decide (x9_2 < (wrap64 (1 + t294))) = false := decide_eq_false c30
           clear c30
           have H' := Aside0.mk H
           clear H
           obtain ⟨Ao36, co36, eo36⟩ := Kd.R_slice HO_7.out
           subst eo36
           try go_wp2
           have n0_ := Aside0.mk (Kd.R_drew HO_7.out); have n1_ := Aside0.mk (blk_drew BK285.out); have n2_ := Aside0.mk (below_drew1 HB.out); clear HO_7; clear BK285; clear HB; have HO_7 := n0_; have BK285 := n1_; have HB := n2_; clear n0_ n1_ n2_
           have p291 : 0 ≤ (x10_2 : Int) := of_decide_eq_true ax38
           have q291 : x10_2 < (t286.length : Int) := of_decide_eq_true ax38
           obtain ⟨ad291, e291, hx291_0⟩ := Kd.at_int (Kd.R_reads' HO_7.out).2.2 x10_2 p291 q291
           cases e291; replace p291 := eq_true p291; replace q291 := eq_true q291
           refine start_ (n := 19) (S := fun w' => w'.cell? ⟨gb285, 0, none⟩ = some (.slice A0_0 l0_0.length c0_0) ∧ w'.cell? (ad291.add (x10_2).toNat) = some (.int .i64 (rd t286 x10_2))) (ds := []) (ob 19 0) (by kernel_rfl) rfl rfl ⟨(blk_cell BK285.out 0).trans rfl, hx291_0⟩ (fun hHeld => ?_); refine with_tabW spec_l11Length.tab8 spec_l11Length.bits8 (fun HT_ HW_ => ?_)
           generalize wr.drew = w37 at HO_7 BK285 HB hx291_0 hHeld ⊢
           refine pure_ (i := 1) (N := some 36) (v := ?_) (a' := ?_) (ob 19 2) rfl rfl (any_of HT_.out (by kernel_rfl)) (fun _ _ _ h => h) (Or.inl ⟨by rfl, ?_⟩) ?_ ?_; rotate_left; exact ax3; rotate_left; exact ax4
           refine pure_ (i := 2) (N := some 37) (v := ?_) (a' := ?_) (ob 19 6) rfl rfl (any_of HT_.out (by kernel_rfl)) (fun _ _ _ h => h) (Or.inl ⟨by rfl, ?_⟩) ?_ ?_; rotate_left; exact ax3; rotate_left; exact ax4
           refine pure_ (i := 3) (N := some 38) (v := ?_) (a' := ?_) (ob 19 14) rfl rfl (any_of HT_.out (by kernel_rfl)) (fun _ _ _ h => h) (Or.inl ⟨by rfl, ?_⟩) ?_ ?_; rotate_left; exact ax3; rotate_left; exact ax4
           refine pure_ (i := 5) (N := some 40) (v := ?_) (a' := ?_) (ob 19 46) rfl rfl (any_of HT_.out (by kernel_rfl)) (fun _ _ _ h => h) (Or.inl ⟨by rfl, ?_⟩) ?_ ?_; rotate_left; exact ax3; rotate_left; exact ax4
           refine take_ (i := 0) (N := some 35) (v := ?_) (a' := ?_) (ob 19 47) rfl rfl (take_ofW HT_.out HW_.out (by kernel_rfl)) (fun _ _ _ h => h) (Or.inl ⟨by rfl, ?_⟩) hHeld ?_ ?_; rotate_left; exact ax14; rotate_left; exact ax4
           refine take_ (i := 4) (N := some 39) (v := ?_) (a' := ?_) (ob 19 63) rfl rfl (take_ofW HT_.out HW_.out (by kernel_rfl)) (fun _ _ _ h => h) (Or.inl ⟨by rfl, ?_⟩) hHeld ?_ ?_; rotate_left; exact ax14; rotate_left; exact ax4
           refine one_ (i := 6) (N := some 41) (ob 19 127) rfl rfl (one_of HT_.out (by kernel_rfl)) (by decide) (fun K hK => ?_)
           refine goes_ Try.func57 (by kernel_rfl) rfl #[.agg #[.slice A0_0 l0_0.length c0_0], .int .i64 (rd t286 x10_2), .int .i64 a2] (by rfl) rfl rfl ax27 ?_
           with_reducible refine (spec_l11Fatal.calls k2 _ _ l0_0 (rd t286 x10_2) a2 true _ ?side1 ?side2 A21.out).mono ?_
           (case side1 => exact ax28)
           (case side2 => exact ax29)
           rintro e w38 ⟨rfl, hb⟩
           have HS1_ := (hb.cell (World.block_lt_of_cell? _ _ (hHeld.2))).trans (hHeld.2)
           refine ⟨_, rfl, ?_⟩
           have n0_ := Aside0.mk (Kd.R_below ax154 hb)
           have n1_ := Aside0.mk (blk_below (g := gb285) (o := .cells #[.slice A0_0 l0_0.length c0_0] 30 (0, 0)) ax153 hb)
           have n2_ := Aside0.mk (below_step ax152 hb); clear HO_7; clear BK285; clear HB; have HO_7 := n0_; have BK285 := n1_; have HB := n2_; clear n0_ n1_ n2_; (try clear hb); (try clear hb2); (try clear hk); (try clear hi)
           refine hK.out _ _ ⟨(blk_cell BK285.out 0).trans rfl, HS1_⟩ (fun hHeld => ?_)
           clear hK K
           refine norm_ (a' := ?_) ?_ ?_
           rotate_left
           ·exact ax20
           refine pure_ (i := 7) (N := some 42) (v := ?_) (a' := ?_) (ob 19 255) rfl rfl (any_of HT_.out (by kernel_rfl)) (fun _ _ _ h => h) (Or.inl ⟨by rfl, ?_⟩) ?_ ?_; rotate_left; exact ax3; rotate_left; exact ax4
           refine pure_ (i := 8) (N := some 43) (v := ?_) (a' := ?_) (ob 19 511) rfl rfl (any_of HT_.out (by kernel_rfl)) (fun _ _ _ h => h) (Or.inl ⟨by rfl, ?_⟩) ?_ ?_; rotate_left; exact ax3; rotate_left; exact ax4
           refine pure_ (i := 9) (N := some 44) (v := undef) (a' := ?_) (ob 19 1023) rfl rfl (any_of HT_.out (by kernel_rfl)) (fun _ _ _ h => h) (Or.inr ⟨by rfl, rfl⟩) ?_ ?_
           rotate_left
           ·exact ax4
           refine pure_ (i := 10) (N := some 45) (v := undef) (a' := ?_) (ob 19 2047) rfl rfl (any_of HT_.out (by kernel_rfl)) (fun _ _ _ h => h) (Or.inr ⟨by rfl, rfl⟩) ?_ ?_
           rotate_left
           ·exact ax4
           refine pure_ (i := 11) (N := some 46) (v := undef) (a' := ?_) (ob 19 4095) rfl rfl (any_of HT_.out (by kernel_rfl)) (fun _ _ _ h => h) (Or.inr ⟨by rfl, rfl⟩) ?_ ?_
           rotate_left
           ·exact ax4
           refine pure_ (i := 12) (N := some 47) (v := undef) (a' := ?_) (ob 19 8191) rfl rfl (any_of HT_.out (by kernel_rfl)) (fun _ _ _ h => h) (Or.inr ⟨by rfl, rfl⟩) ?_ ?_
           rotate_left
           ·exact ax4
           refine pure_ (i := 13) (N := some 48) (v := undef) (a' := ?_) (ob 19 16383) rfl rfl (any_of HT_.out (by kernel_rfl)) (fun _ _ _ h => h) (Or.inr ⟨by rfl, rfl⟩) ?_ ?_
           rotate_left
           ·exact ax4
           refine pure_ (i := 14) (N := some 49) (v := undef) (a' := ?_) (ob 19 32767) rfl rfl (any_of HT_.out (by kernel_rfl)) (fun _ _ _ h => h) (Or.inr ⟨by rfl, rfl⟩) ?_ ?_
           rotate_left
           ·exact ax4
           refine pure_ (i := 15) (N := some 50) (v := undef) (a' := ?_) (ob 19 65535) rfl rfl (any_of HT_.out (by kernel_rfl)) (fun _ _ _ h => h) (Or.inr ⟨by rfl, rfl⟩) ?_ ?_
           rotate_left
           ·exact ax4
           refine pure_ (i := 16) (N := some 51) (v := undef) (a' := ?_) (ob 19 131071) rfl rfl (any_of HT_.out (by kernel_rfl)) (fun _ _ _ h => h) (Or.inr ⟨by rfl, rfl⟩) ?_ ?_
           rotate_left
           ·exact ax4
           refine pure_ (i := 17) (N := some 52) (v := ?_) (a' := ?_) (ob 19 262143) rfl rfl (any_of HT_.out (by kernel_rfl)) (fun _ _ _ h => h) (Or.inl ⟨by rfl, ?_⟩) ?_ ?_; rotate_left; exact ax3; rotate_left; exact ax4
           refine pure_ (i := 18) (N := some 11) (v := ?_) (a' := ?_) (ob 19 524287) rfl rfl (any_of HT_.out (by kernel_rfl)) (fun _ _ _ h => h) (Or.inl ⟨by rfl, ?_⟩) ?_ ?_; rotate_left; exact ax3; rotate_left; exact ax4
           refine done_ (done_of HT_.out (by kernel_rfl)) ?_
           try go_wp2
           have n0_ := Aside0.mk (Kd.R_drew HO_7.out); have n1_ := Aside0.mk (blk_drew BK285.out); have n2_ := Aside0.mk (below_drew1 HB.out); clear HO_7; clear BK285; clear HB; have HO_7 := n0_; have BK285 := n1_; have HB := n2_; clear n0_ n1_ n2_
           have p293 : 0 ≤ (x10_2 : Int) := of_decide_eq_true ax38
           have q293 : x10_2 < (t286.length : Int) := of_decide_eq_true ax38
           obtain ⟨ad293, e293, hx293_0⟩ := Kd.at_int (Kd.R_reads' HO_7.out).2.2 x10_2 p293 q293
           obtain rfl : ad291 = ad293 := (by injection e293)
           replace p293 := eq_true p293; replace q293 := eq_true q293
           refine start_ (n := 9) (S := fun w' => w'.cell? ⟨gb285, 0, none⟩ = some (.slice A0_0 l0_0.length c0_0) ∧ w'.cell? (ad291.add (x10_2).toNat) = some (.int .i64 (rd t286 x10_2))) (ds := []) (ob 9 0) (by kernel_rfl) rfl rfl ⟨(blk_cell BK285.out 0).trans rfl, hx293_0⟩ (fun hHeld => ?_); refine with_tabW spec_l11Length.tab9 spec_l11Length.bits9 (fun HT_ HW_ => ?_)
           generalize w38.drew = w39 at HO_7 BK285 HB hx293_0 hHeld ⊢
           refine pure_ (i := 1) (N := some 54) (v := ?_) (a' := ?_) (ob 9 2) rfl rfl (any_of HT_.out (by kernel_rfl)) (fun _ _ _ h => h) (Or.inl ⟨by rfl, ?_⟩) ?_ ?_; rotate_left; exact ax3; rotate_left; exact ax4
           refine pure_ (i := 2) (N := some 55) (v := ?_) (a' := ?_) (ob 9 6) rfl rfl (any_of HT_.out (by kernel_rfl)) (fun _ _ _ h => h) (Or.inl ⟨by rfl, ?_⟩) ?_ ?_; rotate_left; exact ax3; rotate_left; exact ax4
           refine pure_ (i := 3) (N := some 56) (v := ?_) (a' := ?_) (ob 9 14) rfl rfl (any_of HT_.out (by kernel_rfl)) (fun _ _ _ h => h) (Or.inl ⟨by rfl, ?_⟩) ?_ ?_; rotate_left; exact ax3; rotate_left; exact ax4
           refine pure_ (i := 5) (N := some 58) (v := ?_) (a' := ?_) (ob 9 46) rfl rfl (any_of HT_.out (by kernel_rfl)) (fun _ _ _ h => h) (Or.inl ⟨by rfl, ?_⟩) ?_ ?_; rotate_left; exact ax3; rotate_left; exact ax4
           refine take_ (i := 0) (N := some 53) (v := ?_) (a' := ?_) (ob 9 47) rfl rfl (take_ofW HT_.out HW_.out (by kernel_rfl)) (fun _ _ _ h => h) (Or.inl ⟨by rfl, ?_⟩) hHeld ?_ ?_; rotate_left; exact ax14; rotate_left; exact ax4
           refine take_ (i := 4) (N := some 57) (v := ?_) (a' := ?_) (ob 9 63) rfl rfl (take_ofW HT_.out HW_.out (by kernel_rfl)) (fun _ _ _ h => h) (Or.inl ⟨by rfl, ?_⟩) hHeld ?_ ?_; rotate_left; exact ax14; rotate_left; exact ax4
           refine one_ (i := 6) (N := some 59) (ob 9 127) rfl rfl (one_of HT_.out (by kernel_rfl)) (by decide) (fun K hK => ?_)
           refine goes_ Try.func66 (by kernel_rfl) rfl #[.agg #[.slice A0_0 l0_0.length c0_0], .int .i64 (rd t286 x10_2), .int .i64 a2] (by rfl) rfl rfl ax27 ?_
           with_reducible refine (ih k2 ax155 _ _ l0_0 (rd t286 x10_2) a2 t294 _ ?side1 ?side2 A23.out).mono ?_
           (case side1 => exact ax28)
           (case side2 => exact ax29)
           rintro e w40 ⟨rfl, hb⟩
           have HS1_ := (hb.cell (World.block_lt_of_cell? _ _ (hHeld.2))).trans (hHeld.2)
           refine ⟨_, rfl, ?_⟩
           have n0_ := Aside0.mk (Kd.R_below ax154 hb)
           have n1_ := Aside0.mk (blk_below (g := gb285) (o := .cells #[.slice A0_0 l0_0.length c0_0] 30 (0, 0)) ax153 hb)
           have n2_ := Aside0.mk (below_step ax152 hb); clear HO_7; clear BK285; clear HB; have HO_7 := n0_; have BK285 := n1_; have HB := n2_; clear n0_ n1_ n2_; (try clear hb); (try clear hb2); (try clear hk); (try clear hi)
           refine hK.out _ _ ⟨(blk_cell BK285.out 0).trans rfl, HS1_⟩ (fun hHeld => ?_)
           clear hK K
           refine norm_ (a' := ?_) ?_ ?_
           rotate_left
           ·exact ax21
           refine pure_ (i := 7) (N := some 60) (v := ?_) (a' := ?_) (ob 9 255) rfl rfl (any_of HT_.out (by kernel_rfl)) (fun _ _ _ h => h) (Or.inl ⟨by rfl, ?_⟩) ?_ ?_; rotate_left; exact ax3; rotate_left; exact ax4
           refine pure_ (i := 8) (N := some 12) (v := ?_) (a' := ?_) (ob 9 511) rfl rfl (any_of HT_.out (by kernel_rfl)) (fun _ _ _ h => h) (Or.inl ⟨by rfl, ?_⟩) ?_ ?_; rotate_left; exact ax3; rotate_left; exact ax4
           refine done_ (done_of HT_.out (by kernel_rfl)) ?_
           try go_wp2
           go_roundg k2
           case measure => have := HJ4.out; have := HK2.out; omega
           case rel => exact ⟨(x9_2), (wrap64 (x10_2 + 1)), ax39, ax39, H', ⟨by have := HJ4.out; have := HK2.out; omega⟩, ⟨by (with_reducible repeat (first | apply Kd.R_alloc | apply Kd.R_drewN | apply Kd.R_drew)); exact HO_7.out⟩, ⟨by (with_reducible repeat (first | refine blk_drewN ?_ _ | refine blk_drew ?_ | refine blk_alloc ?_ _)); exact BK285.out⟩, ⟨by repeat (first | (with_reducible first | exact HB.out | apply below_alloc | apply pw_below_drewN | apply below_drew1 | refine below_set ?_ GE285.out) | exact HB.out)⟩⟩
        ·replace c22 := Bool.eq_false_iff.mpr c22
         subst c22
         have H1 : ((spec_l11Wins.f k2 l0_0 (rd t286 x10_2) a2 false).bind fun t296 => ((spec_l11Length.f k2 l0_0 (rd t286 x10_2) a2).bind fun t298 => (if t290 = true then (if t296 = true then (spec_l11Length.l0 k2 a2 t286 t290 x9_2 (wrap64 (x10_2 + 1)) l0_0) else (if x9_2 < 0 then (spec_l11Length.l0 k2 a2 t286 t290 (wrap64 (1 + t298)) (wrap64 (x10_2 + 1)) l0_0) else (if (wrap64 (1 + t298)) < x9_2 then (spec_l11Length.l0 k2 a2 t286 t290 (wrap64 (1 + t298)) (wrap64 (x10_2 + 1)) l0_0) else (spec_l11Length.l0 k2 a2 t286 t290 x9_2 (wrap64 (x10_2 + 1)) l0_0)))) else (if (wrap64 (1 + t298)) > x9_2 then (spec_l11Length.l0 k2 a2 t286 t290 (wrap64 (1 + t298)) (wrap64 (x10_2 + 1)) l0_0) else (spec_l11Length.l0 k2 a2 t286 t290 x9_2 (wrap64 (x10_2 + 1)) l0_0))))) = some r := by rw [if_neg (show ¬ (false = true) by decide)] at H; exact H
         clear H; have H := H1; clear H1; replace H := Option.bind_eq_some_iff.mp H
         obtain ⟨t296, A410, H⟩ := H
         replace H : ((spec_l11Length.f k2 l0_0 (rd t286 x10_2) a2).bind fun t298 => (if t290 = true then (if t296 = true then (spec_l11Length.l0 k2 a2 t286 t290 x9_2 (wrap64 (x10_2 + 1)) l0_0) else (if x9_2 < 0 then (spec_l11Length.l0 k2 a2 t286 t290 (wrap64 (1 + t298)) (wrap64 (x10_2 + 1)) l0_0) else (if (wrap64 (1 + t298)) < x9_2 then (spec_l11Length.l0 k2 a2 t286 t290 (wrap64 (1 + t298)) (wrap64 (x10_2 + 1)) l0_0) else (spec_l11Length.l0 k2 a2 t286 t290 x9_2 (wrap64 (x10_2 + 1)) l0_0)))) else (if (wrap64 (1 + t298)) > x9_2 then (spec_l11Length.l0 k2 a2 t286 t290 (wrap64 (1 + t298)) (wrap64 (x10_2 + 1)) l0_0) else (spec_l11Length.l0 k2 a2 t286 t290 x9_2 (wrap64 (x10_2 + 1)) l0_0)))) = some r := H
         have A41 := Aside0.mk A410; clear A410; replace H := Option.bind_eq_some_iff.mp H
         obtain ⟨t298, A420, H⟩ := H
         replace H : (if t290 = true then (if t296 = true then (spec_l11Length.l0 k2 a2 t286 t290 x9_2 (wrap64 (x10_2 + 1)) l0_0) else (if x9_2 < 0 then (spec_l11Length.l0 k2 a2 t286 t290 (wrap64 (1 + t298)) (wrap64 (x10_2 + 1)) l0_0) else (if (wrap64 (1 + t298)) < x9_2 then (spec_l11Length.l0 k2 a2 t286 t290 (wrap64 (1 + t298)) (wrap64 (x10_2 + 1)) l0_0) else (spec_l11Length.l0 k2 a2 t286 t290 x9_2 (wrap64 (x10_2 + 1)) l0_0)))) else (if (wrap64 (1 + t298)) > x9_2 then (spec_l11Length.l0 k2 a2 t286 t290 (wrap64 (1 + t298)) (wrap64 (x10_2 + 1)) l0_0) else (spec_l11Length.l0 k2 a2 t286 t290 x9_2 (wrap64 (x10_2 + 1)) l0_0))) = some r := H
         have A42 := Aside0.mk A420; clear A420
         by_cases c43 : t290 = true
         ·subst c43
          have H1 : (if t296 = true then (spec_l11Length.l0 k2 a2 t286 true x9_2 (wrap64 (x10_2 + 1)) l0_0) else (if x9_2 < 0 then (spec_l11Length.l0 k2 a2 t286 true (wrap64 (1 + t298)) (wrap64 (x10_2 + 1)) l0_0) else (if (wrap64 (1 + t298)) < x9_2 then (spec_l11Length.l0 k2 a2 t286 true (wrap64 (1 + t298)) (wrap64 (x10_2 + 1)) l0_0) else (spec_l11Length.l0 k2 a2 t286 true x9_2 (wrap64 (x10_2 + 1)) l0_0)))) = some r := by rw [if_pos rfl] at H; exact H
          clear H; have H := H1; clear H1
          by_cases c44 : t296 = true
          ·subst c44
           have H1 : (spec_l11Length.l0 k2 a2 t286 true x9_2 (wrap64 (x10_2 + 1)) l0_0) = some r := by rw [if_pos rfl] at H; exact H
           clear H; have H := H1; clear H1
           have H' := Aside0.mk H
           clear H
           obtain ⟨Ao45, co45, eo45⟩ := Kd.R_slice HO_7.out
           subst eo45
           try go_wp2
           have n0_ := Aside0.mk (Kd.R_drew HO_7.out); have n1_ := Aside0.mk (blk_drew BK285.out); have n2_ := Aside0.mk (below_drew1 HB.out); clear HO_7; clear BK285; clear HB; have HO_7 := n0_; have BK285 := n1_; have HB := n2_; clear n0_ n1_ n2_
           have p291 : 0 ≤ (x10_2 : Int) := of_decide_eq_true ax38
           have q291 : x10_2 < (t286.length : Int) := of_decide_eq_true ax38
           obtain ⟨ad291, e291, hx291_0⟩ := Kd.at_int (Kd.R_reads' HO_7.out).2.2 x10_2 p291 q291
           cases e291; replace p291 := eq_true p291; replace q291 := eq_true q291
           have p295 : 0 ≤ (x10_2 : Int) := of_decide_eq_true ax38
           have q295 : x10_2 < (t286.length : Int) := of_decide_eq_true ax38
           obtain ⟨ad295, e295, hx295_0⟩ := Kd.at_int (Kd.R_reads' HO_7.out).2.2 x10_2 p295 q295
           obtain rfl : ad291 = ad295 := ax156
           replace p295 := eq_true p295; replace q295 := eq_true q295
           refine start_ (n := 19) (S := fun w' => w'.cell? ⟨gb285, 0, none⟩ = some (.slice A0_0 l0_0.length c0_0) ∧ w'.cell? (ad291.add (x10_2).toNat) = some (.int .i64 (rd t286 x10_2)) ∧ w'.cell? (ad291.add (x10_2).toNat) = some (.int .i64 (rd t286 x10_2))) (ds := []) (ob 19 0) (by kernel_rfl) rfl rfl ⟨(blk_cell BK285.out 0).trans rfl, hx291_0, hx295_0⟩ (fun hHeld => ?_); refine with_tabW spec_l11Length.tab8 spec_l11Length.bits8 (fun HT_ HW_ => ?_)
           generalize wr.drew = w46 at HO_7 BK285 HB hx291_0 hx295_0 hHeld ⊢
           refine pure_ (i := 1) (N := some 36) (v := ?_) (a' := ?_) (ob 19 2) rfl rfl (any_of HT_.out (by kernel_rfl)) (fun _ _ _ h => h) (Or.inl ⟨by rfl, ?_⟩) ?_ ?_; rotate_left; exact ax3; rotate_left; exact ax4
           refine pure_ (i := 2) (N := some 37) (v := ?_) (a' := ?_) (ob 19 6) rfl rfl (any_of HT_.out (by kernel_rfl)) (fun _ _ _ h => h) (Or.inl ⟨by rfl, ?_⟩) ?_ ?_; rotate_left; exact ax3; rotate_left; exact ax4
           refine pure_ (i := 3) (N := some 38) (v := ?_) (a' := ?_) (ob 19 14) rfl rfl (any_of HT_.out (by kernel_rfl)) (fun _ _ _ h => h) (Or.inl ⟨by rfl, ?_⟩) ?_ ?_; rotate_left; exact ax3; rotate_left; exact ax4
           refine pure_ (i := 5) (N := some 40) (v := ?_) (a' := ?_) (ob 19 46) rfl rfl (any_of HT_.out (by kernel_rfl)) (fun _ _ _ h => h) (Or.inl ⟨by rfl, ?_⟩) ?_ ?_; rotate_left; exact ax3; rotate_left; exact ax4
           refine take_ (i := 0) (N := some 35) (v := ?_) (a' := ?_) (ob 19 47) rfl rfl (take_ofW HT_.out HW_.out (by kernel_rfl)) (fun _ _ _ h => h) (Or.inl ⟨by rfl, ?_⟩) hHeld ?_ ?_; rotate_left; exact ax16; rotate_left; exact ax4
           refine take_ (i := 4) (N := some 39) (v := ?_) (a' := ?_) (ob 19 63) rfl rfl (take_ofW HT_.out HW_.out (by kernel_rfl)) (fun _ _ _ h => h) (Or.inl ⟨by rfl, ?_⟩) hHeld ?_ ?_; rotate_left; exact ax16; rotate_left; exact ax4
           refine one_ (i := 6) (N := some 41) (ob 19 127) rfl rfl (one_of HT_.out (by kernel_rfl)) (by decide) (fun K hK => ?_)
           refine goes_ Try.func57 (by kernel_rfl) rfl #[.agg #[.slice A0_0 l0_0.length c0_0], .int .i64 (rd t286 x10_2), .int .i64 a2] (by rfl) rfl rfl ax27 ?_
           with_reducible refine (spec_l11Fatal.calls k2 _ _ l0_0 (rd t286 x10_2) a2 false _ ?side1 ?side2 A21.out).mono ?_
           (case side1 => exact ax28)
           (case side2 => exact ax29)
           rintro e w47 ⟨rfl, hb⟩
           have HS1_ := (hb.cell (World.block_lt_of_cell? _ _ (hHeld.2.1))).trans (hHeld.2.1); have HS2_ := (hb.cell (World.block_lt_of_cell? _ _ (hHeld.2.2))).trans (hHeld.2.2)
           refine ⟨_, rfl, ?_⟩
           have n0_ := Aside0.mk (Kd.R_below ax154 hb)
           have n1_ := Aside0.mk (blk_below (g := gb285) (o := .cells #[.slice A0_0 l0_0.length c0_0] 30 (0, 0)) ax153 hb)
           have n2_ := Aside0.mk (below_step ax152 hb); clear HO_7; clear BK285; clear HB; have HO_7 := n0_; have BK285 := n1_; have HB := n2_; clear n0_ n1_ n2_; (try clear hb); (try clear hb2); (try clear hk); (try clear hi)
           refine hK.out _ _ ⟨(blk_cell BK285.out 0).trans rfl, HS1_, HS2_⟩ (fun hHeld => ?_)
           clear hK K
           refine norm_ (a' := ?_) ?_ ?_
           rotate_left
           ·exact ax20
           refine pure_ (i := 7) (N := some 42) (v := ?_) (a' := ?_) (ob 19 255) rfl rfl (any_of HT_.out (by kernel_rfl)) (fun _ _ _ h => h) (Or.inl ⟨by rfl, ?_⟩) ?_ ?_; rotate_left; exact ax3; rotate_left; exact ax4
           refine pure_ (i := 8) (N := some 43) (v := ?_) (a' := ?_) (ob 19 511) rfl rfl (any_of HT_.out (by kernel_rfl)) (fun _ _ _ h => h) (Or.inl ⟨by rfl, ?_⟩) ?_ ?_; rotate_left; exact ax3; rotate_left; exact ax4
           refine pure_ (i := 10) (N := some 45) (v := ?_) (a' := ?_) (ob 19 1535) rfl rfl (any_of HT_.out (by kernel_rfl)) (fun _ _ _ h => h) (Or.inl ⟨by rfl, ?_⟩) ?_ ?_; rotate_left; exact ax3; rotate_left; exact ax4
           refine pure_ (i := 11) (N := some 46) (v := ?_) (a' := ?_) (ob 19 3583) rfl rfl (any_of HT_.out (by kernel_rfl)) (fun _ _ _ h => h) (Or.inl ⟨by rfl, ?_⟩) ?_ ?_; rotate_left; exact ax3; rotate_left; exact ax4
           refine pure_ (i := 12) (N := some 47) (v := ?_) (a' := ?_) (ob 19 7679) rfl rfl (any_of HT_.out (by kernel_rfl)) (fun _ _ _ h => h) (Or.inl ⟨by rfl, ?_⟩) ?_ ?_; rotate_left; exact ax3; rotate_left; exact ax4
           refine pure_ (i := 14) (N := some 49) (v := ?_) (a' := ?_) (ob 19 24063) rfl rfl (any_of HT_.out (by kernel_rfl)) (fun _ _ _ h => h) (Or.inl ⟨by rfl, ?_⟩) ?_ ?_; rotate_left; exact ax3; rotate_left; exact ax4
           refine take_ (i := 9) (N := some 44) (v := ?_) (a' := ?_) (ob 19 24575) rfl rfl (take_ofW HT_.out HW_.out (by kernel_rfl)) (fun _ _ _ h => h) (Or.inl ⟨by rfl, ?_⟩) hHeld ?_ ?_; rotate_left; exact ax16; rotate_left; exact ax4
           refine take_ (i := 13) (N := some 48) (v := ?_) (a' := ?_) (ob 19 32767) rfl rfl (take_ofW HT_.out HW_.out (by kernel_rfl)) (fun _ _ _ h => h) (Or.inl ⟨by rfl, ?_⟩) hHeld ?_ ?_; rotate_left; exact ax16; rotate_left; exact ax4
           refine one_ (i := 15) (N := some 50) (ob 19 65535) rfl rfl (one_of HT_.out (by kernel_rfl)) (by decide) (fun K hK => ?_)
           refine goes_ Try.func50 (by kernel_rfl) rfl #[.agg #[.slice A0_0 l0_0.length c0_0], .int .i64 (rd t286 x10_2), .int .i64 a2, .bool false] (by rfl) rfl rfl ax27 ?_
           with_reducible refine (spec_l11Wins.calls k2 _ _ l0_0 (rd t286 x10_2) a2 false true _ ?side1 ?side2 A41.out).mono ?_
           (case side1 => exact ax28)
           (case side2 => exact ax29)
           rintro e w48 ⟨rfl, hb⟩
           have HS1_ := (hb.cell (World.block_lt_of_cell? _ _ (hHeld.2.1))).trans (hHeld.2.1); have HS2_ := (hb.cell (World.block_lt_of_cell? _ _ (hHeld.2.2))).trans (hHeld.2.2)
           refine ⟨_, rfl, ?_⟩
           have n0_ := Aside0.mk (Kd.R_below ax154 hb)
           have n1_ := Aside0.mk (blk_below (g := gb285) (o := .cells #[.slice A0_0 l0_0.length c0_0] 30 (0, 0)) ax153 hb)
           have n2_ := Aside0.mk (below_step ax152 hb); clear HO_7; clear BK285; clear HB; have HO_7 := n0_; have BK285 := n1_; have HB := n2_; clear n0_ n1_ n2_; (try clear hb); (try clear hb2); (try clear hk); (try clear hi)
           refine hK.out _ _ ⟨(blk_cell BK285.out 0).trans rfl, HS1_, HS2_⟩ (fun hHeld => ?_)
           clear hK K
           refine norm_ (a' := ?_) ?_ ?_
           rotate_left
           ·exact ax22
           refine pure_ (i := 16) (N := some 51) (v := ?_) (a' := ?_) (ob 19 131071) rfl rfl (any_of HT_.out (by kernel_rfl)) (fun _ _ _ h => h) (Or.inl ⟨by rfl, ?_⟩) ?_ ?_; rotate_left; exact ax3; rotate_left; exact ax4
           refine pure_ (i := 17) (N := some 52) (v := ?_) (a' := ?_) (ob 19 262143) rfl rfl (any_of HT_.out (by kernel_rfl)) (fun _ _ _ h => h) (Or.inl ⟨by rfl, ?_⟩) ?_ ?_; rotate_left; exact ax3; rotate_left; exact ax4
           refine pure_ (i := 18) (N := some 11) (v := ?_) (a' := ?_) (ob 19 524287) rfl rfl (any_of HT_.out (by kernel_rfl)) (fun _ _ _ h => h) (Or.inl ⟨by rfl, ?_⟩) ?_ ?_; rotate_left; exact ax3; rotate_left; exact ax4
           refine done_ (done_of HT_.out (by kernel_rfl)) ?_
           try go_wp2
           have n0_ := Aside0.mk (Kd.R_drew HO_7.out); have n1_ := Aside0.mk (blk_drew BK285.out); have n2_ := Aside0.mk (below_drew1 HB.out); clear HO_7; clear BK285; clear HB; have HO_7 := n0_; have BK285 := n1_; have HB := n2_; clear n0_ n1_ n2_
           have p297 : 0 ≤ (x10_2 : Int) := of_decide_eq_true ax38
           have q297 : x10_2 < (t286.length : Int) := of_decide_eq_true ax38
           obtain ⟨ad297, e297, hx297_0⟩ := Kd.at_int (Kd.R_reads' HO_7.out).2.2 x10_2 p297 q297
           obtain rfl : ad291 = ad297 := ax157
           replace p297 := eq_true p297; replace q297 := eq_true q297
           refine start_ (n := 9) (S := fun w' => w'.cell? ⟨gb285, 0, none⟩ = some (.slice A0_0 l0_0.length c0_0) ∧ w'.cell? (ad291.add (x10_2).toNat) = some (.int .i64 (rd t286 x10_2))) (ds := []) (ob 9 0) (by kernel_rfl) rfl rfl ⟨(blk_cell BK285.out 0).trans rfl, hx297_0⟩ (fun hHeld => ?_); refine with_tabW spec_l11Length.tab9 spec_l11Length.bits9 (fun HT_ HW_ => ?_)
           generalize w48.drew = w49 at HO_7 BK285 HB hx297_0 hHeld ⊢
           refine pure_ (i := 1) (N := some 54) (v := ?_) (a' := ?_) (ob 9 2) rfl rfl (any_of HT_.out (by kernel_rfl)) (fun _ _ _ h => h) (Or.inl ⟨by rfl, ?_⟩) ?_ ?_; rotate_left; exact ax3; rotate_left; exact ax4
           refine pure_ (i := 2) (N := some 55) (v := ?_) (a' := ?_) (ob 9 6) rfl rfl (any_of HT_.out (by kernel_rfl)) (fun _ _ _ h => h) (Or.inl ⟨by rfl, ?_⟩) ?_ ?_; rotate_left; exact ax3; rotate_left; exact ax4
           refine pure_ (i := 3) (N := some 56) (v := ?_) (a' := ?_) (ob 9 14) rfl rfl (any_of HT_.out (by kernel_rfl)) (fun _ _ _ h => h) (Or.inl ⟨by rfl, ?_⟩) ?_ ?_; rotate_left; exact ax3; rotate_left; exact ax4
           refine pure_ (i := 5) (N := some 58) (v := ?_) (a' := ?_) (ob 9 46) rfl rfl (any_of HT_.out (by kernel_rfl)) (fun _ _ _ h => h) (Or.inl ⟨by rfl, ?_⟩) ?_ ?_; rotate_left; exact ax3; rotate_left; exact ax4
           refine take_ (i := 0) (N := some 53) (v := ?_) (a' := ?_) (ob 9 47) rfl rfl (take_ofW HT_.out HW_.out (by kernel_rfl)) (fun _ _ _ h => h) (Or.inl ⟨by rfl, ?_⟩) hHeld ?_ ?_; rotate_left; exact ax14; rotate_left; exact ax4
           refine take_ (i := 4) (N := some 57) (v := ?_) (a' := ?_) (ob 9 63) rfl rfl (take_ofW HT_.out HW_.out (by kernel_rfl)) (fun _ _ _ h => h) (Or.inl ⟨by rfl, ?_⟩) hHeld ?_ ?_; rotate_left; exact ax14; rotate_left; exact ax4
           refine one_ (i := 6) (N := some 59) (ob 9 127) rfl rfl (one_of HT_.out (by kernel_rfl)) (by decide) (fun K hK => ?_)
           refine goes_ Try.func66 (by kernel_rfl) rfl #[.agg #[.slice A0_0 l0_0.length c0_0], .int .i64 (rd t286 x10_2), .int .i64 a2] (by rfl) rfl rfl ax27 ?_
           with_reducible refine (ih k2 ax155 _ _ l0_0 (rd t286 x10_2) a2 t298 _ ?side1 ?side2 A42.out).mono ?_
           (case side1 => exact ax28)
           (case side2 => exact ax29)
           rintro e w50 ⟨rfl, hb⟩
           have HS1_ := (hb.cell (World.block_lt_of_cell? _ _ (hHeld.2))).trans (hHeld.2)
           refine ⟨_, rfl, ?_⟩
           have n0_ := Aside0.mk (Kd.R_below ax154 hb)
           have n1_ := Aside0.mk (blk_below (g := gb285) (o := .cells #[.slice A0_0 l0_0.length c0_0] 30 (0, 0)) ax153 hb)
           have n2_ := Aside0.mk (below_step ax152 hb); clear HO_7; clear BK285; clear HB; have HO_7 := n0_; have BK285 := n1_; have HB := n2_; clear n0_ n1_ n2_; (try clear hb); (try clear hb2); (try clear hk); (try clear hi)
           refine hK.out _ _ ⟨(blk_cell BK285.out 0).trans rfl, HS1_⟩ (fun hHeld => ?_)
           clear hK K
           refine norm_ (a' := ?_) ?_ ?_
           rotate_left
           ·exact ax21
           refine pure_ (i := 7) (N := some 60) (v := ?_) (a' := ?_) (ob 9 255) rfl rfl (any_of HT_.out (by kernel_rfl)) (fun _ _ _ h => h) (Or.inl ⟨by rfl, ?_⟩) ?_ ?_; rotate_left; exact ax3; rotate_left; exact ax4
           refine pure_ (i := 8) (N := some 12) (v := ?_) (a' := ?_) (ob 9 511) rfl rfl (any_of HT_.out (by kernel_rfl)) (fun _ _ _ h => h) (Or.inl ⟨by rfl, ?_⟩) ?_ ?_; rotate_left; exact ax3; rotate_left; exact ax4
           refine done_ (done_of HT_.out (by kernel_rfl)) ?_
           try go_wp2
           go_roundg k2
           case measure => have := HJ4.out; have := HK2.out; omega
           case rel => exact ⟨(x9_2), (wrap64 (x10_2 + 1)), ax39, ax39, H', ⟨by have := HJ4.out; have := HK2.out; omega⟩, ⟨by (with_reducible repeat (first | apply Kd.R_alloc | apply Kd.R_drewN | apply Kd.R_drew)); exact HO_7.out⟩, ⟨by (with_reducible repeat (first | refine blk_drewN ?_ _ | refine blk_drew ?_ | refine blk_alloc ?_ _)); exact BK285.out⟩, ⟨by repeat (first | (with_reducible first | exact HB.out | apply below_alloc | apply pw_below_drewN | apply below_drew1 | refine below_set ?_ GE285.out) | exact HB.out)⟩⟩
          ·replace c44 := Bool.eq_false_iff.mpr c44
           subst c44
           have H1 : (if x9_2 < 0 then (spec_l11Length.l0 k2 a2 t286 true (wrap64 (1 + t298)) (wrap64 (x10_2 + 1)) l0_0) else (if (wrap64 (1 + t298)) < x9_2 then (spec_l11Length.l0 k2 a2 t286 true (wrap64 (1 + t298)) (wrap64 (x10_2 + 1)) l0_0) else (spec_l11Length.l0 k2 a2 t286 true x9_2 (wrap64 (x10_2 + 1)) l0_0))) = some r := by rw [if_neg (show ¬ (false = true) by decide)] at H; exact H
           clear H; have H := H1; clear H1
           by_cases c51 : x9_2 < 0
           ·rw [if_pos c51] at H
            have c51b0 : decide (x9_2 < 0) = true := decide_eq_true c51
            clear c51
            have H' := Aside0.mk H
            clear H
            obtain ⟨Ao52, co52, eo52⟩ := Kd.R_slice HO_7.out
            subst eo52
            try go_wp2
            have n0_ := Aside0.mk (Kd.R_drew HO_7.out); have n1_ := Aside0.mk (blk_drew BK285.out); have n2_ := Aside0.mk (below_drew1 HB.out); clear HO_7; clear BK285; clear HB; have HO_7 := n0_; have BK285 := n1_; have HB := n2_; clear n0_ n1_ n2_
            have p291 : 0 ≤ (x10_2 : Int) := of_decide_eq_true ax38
            have q291 : x10_2 < (t286.length : Int) := of_decide_eq_true ax38
            obtain ⟨ad291, e291, hx291_0⟩ := Kd.at_int (Kd.R_reads' HO_7.out).2.2 x10_2 p291 q291
            cases e291; replace p291 := eq_true p291; replace q291 := eq_true q291
            have p295 : 0 ≤ (x10_2 : Int) := of_decide_eq_true ax38
            have q295 : x10_2 < (t286.length : Int) := of_decide_eq_true ax38
            obtain ⟨ad295, e295, hx295_0⟩ := Kd.at_int (Kd.R_reads' HO_7.out).2.2 x10_2 p295 q295
            obtain rfl : ad291 = ad295 := ax156
            replace p295 := eq_true p295; replace q295 := eq_true q295
            refine start_ (n := 19) (S := fun w' => w'.cell? ⟨gb285, 0, none⟩ = some (.slice A0_0 l0_0.length c0_0) ∧ w'.cell? (ad291.add (x10_2).toNat) = some (.int .i64 (rd t286 x10_2)) ∧ w'.cell? (ad291.add (x10_2).toNat) = some (.int .i64 (rd t286 x10_2))) (ds := []) (ob 19 0) (by kernel_rfl) rfl rfl ⟨(blk_cell BK285.out 0).trans rfl, hx291_0, hx295_0⟩ (fun hHeld => ?_); refine with_tabW spec_l11Length.tab8 spec_l11Length.bits8 (fun HT_ HW_ => ?_)
            generalize wr.drew = w53 at HO_7 BK285 HB hx291_0 hx295_0 hHeld ⊢
            refine pure_ (i := 1) (N := some 36) (v := ?_) (a' := ?_) (ob 19 2) rfl rfl (any_of HT_.out (by kernel_rfl)) (fun _ _ _ h => h) (Or.inl ⟨by rfl, ?_⟩) ?_ ?_; rotate_left; exact ax3; rotate_left; exact ax4
            refine pure_ (i := 2) (N := some 37) (v := ?_) (a' := ?_) (ob 19 6) rfl rfl (any_of HT_.out (by kernel_rfl)) (fun _ _ _ h => h) (Or.inl ⟨by rfl, ?_⟩) ?_ ?_; rotate_left; exact ax3; rotate_left; exact ax4
            refine pure_ (i := 3) (N := some 38) (v := ?_) (a' := ?_) (ob 19 14) rfl rfl (any_of HT_.out (by kernel_rfl)) (fun _ _ _ h => h) (Or.inl ⟨by rfl, ?_⟩) ?_ ?_; rotate_left; exact ax3; rotate_left; exact ax4
            refine pure_ (i := 5) (N := some 40) (v := ?_) (a' := ?_) (ob 19 46) rfl rfl (any_of HT_.out (by kernel_rfl)) (fun _ _ _ h => h) (Or.inl ⟨by rfl, ?_⟩) ?_ ?_; rotate_left; exact ax3; rotate_left; exact ax4
            refine take_ (i := 0) (N := some 35) (v := ?_) (a' := ?_) (ob 19 47) rfl rfl (take_ofW HT_.out HW_.out (by kernel_rfl)) (fun _ _ _ h => h) (Or.inl ⟨by rfl, ?_⟩) hHeld ?_ ?_; rotate_left; exact ax16; rotate_left; exact ax4
            refine take_ (i := 4) (N := some 39) (v := ?_) (a' := ?_) (ob 19 63) rfl rfl (take_ofW HT_.out HW_.out (by kernel_rfl)) (fun _ _ _ h => h) (Or.inl ⟨by rfl, ?_⟩) hHeld ?_ ?_; rotate_left; exact ax16; rotate_left; exact ax4
            refine one_ (i := 6) (N := some 41) (ob 19 127) rfl rfl (one_of HT_.out (by kernel_rfl)) (by decide) (fun K hK => ?_)
            refine goes_ Try.func57 (by kernel_rfl) rfl #[.agg #[.slice A0_0 l0_0.length c0_0], .int .i64 (rd t286 x10_2), .int .i64 a2] (by rfl) rfl rfl ax27 ?_
            with_reducible refine (spec_l11Fatal.calls k2 _ _ l0_0 (rd t286 x10_2) a2 false _ ?side1 ?side2 A21.out).mono ?_
            (case side1 => exact ax28)
            (case side2 => exact ax29)
            rintro e w54 ⟨rfl, hb⟩
            have HS1_ := (hb.cell (World.block_lt_of_cell? _ _ (hHeld.2.1))).trans (hHeld.2.1); have HS2_ := (hb.cell (World.block_lt_of_cell? _ _ (hHeld.2.2))).trans (hHeld.2.2)
            refine ⟨_, rfl, ?_⟩
            have n0_ := Aside0.mk (Kd.R_below ax154 hb)
            have n1_ := Aside0.mk (blk_below (g := gb285) (o := .cells #[.slice A0_0 l0_0.length c0_0] 30 (0, 0)) ax153 hb)
            have n2_ := Aside0.mk (below_step ax152 hb); clear HO_7; clear BK285; clear HB; have HO_7 := n0_; have BK285 := n1_; have HB := n2_; clear n0_ n1_ n2_; (try clear hb); (try clear hb2); (try clear hk); (try clear hi)
            refine hK.out _ _ ⟨(blk_cell BK285.out 0).trans rfl, HS1_, HS2_⟩ (fun hHeld => ?_)
            clear hK K
            refine norm_ (a' := ?_) ?_ ?_
            rotate_left
            ·exact ax20
            refine pure_ (i := 7) (N := some 42) (v := ?_) (a' := ?_) (ob 19 255) rfl rfl (any_of HT_.out (by kernel_rfl)) (fun _ _ _ h => h) (Or.inl ⟨by rfl, ?_⟩) ?_ ?_; rotate_left; exact ax3; rotate_left; exact ax4
            refine pure_ (i := 8) (N := some 43) (v := ?_) (a' := ?_) (ob 19 511) rfl rfl (any_of HT_.out (by kernel_rfl)) (fun _ _ _ h => h) (Or.inl ⟨by rfl, ?_⟩) ?_ ?_; rotate_left; exact ax3; rotate_left; exact ax4
            refine pure_ (i := 10) (N := some 45) (v := ?_) (a' := ?_) (ob 19 1535) rfl rfl (any_of HT_.out (by kernel_rfl)) (fun _ _ _ h => h) (Or.inl ⟨by rfl, ?_⟩) ?_ ?_; rotate_left; exact ax3; rotate_left; exact ax4
            refine pure_ (i := 11) (N := some 46) (v := ?_) (a' := ?_) (ob 19 3583) rfl rfl (any_of HT_.out (by kernel_rfl)) (fun _ _ _ h => h) (Or.inl ⟨by rfl, ?_⟩) ?_ ?_; rotate_left; exact ax3; rotate_left; exact ax4
            refine pure_ (i := 12) (N := some 47) (v := ?_) (a' := ?_) (ob 19 7679) rfl rfl (any_of HT_.out (by kernel_rfl)) (fun _ _ _ h => h) (Or.inl ⟨by rfl, ?_⟩) ?_ ?_; rotate_left; exact ax3; rotate_left; exact ax4
            refine pure_ (i := 14) (N := some 49) (v := ?_) (a' := ?_) (ob 19 24063) rfl rfl (any_of HT_.out (by kernel_rfl)) (fun _ _ _ h => h) (Or.inl ⟨by rfl, ?_⟩) ?_ ?_; rotate_left; exact ax3; rotate_left; exact ax4
            refine take_ (i := 9) (N := some 44) (v := ?_) (a' := ?_) (ob 19 24575) rfl rfl (take_ofW HT_.out HW_.out (by kernel_rfl)) (fun _ _ _ h => h) (Or.inl ⟨by rfl, ?_⟩) hHeld ?_ ?_; rotate_left; exact ax16; rotate_left; exact ax4
            refine take_ (i := 13) (N := some 48) (v := ?_) (a' := ?_) (ob 19 32767) rfl rfl (take_ofW HT_.out HW_.out (by kernel_rfl)) (fun _ _ _ h => h) (Or.inl ⟨by rfl, ?_⟩) hHeld ?_ ?_; rotate_left; exact ax16; rotate_left; exact ax4
            refine one_ (i := 15) (N := some 50) (ob 19 65535) rfl rfl (one_of HT_.out (by kernel_rfl)) (by decide) (fun K hK => ?_)
            refine goes_ Try.func50 (by kernel_rfl) rfl #[.agg #[.slice A0_0 l0_0.length c0_0], .int .i64 (rd t286 x10_2), .int .i64 a2, .bool false] (by rfl) rfl rfl ax27 ?_
            with_reducible refine (spec_l11Wins.calls k2 _ _ l0_0 (rd t286 x10_2) a2 false false _ ?side1 ?side2 A41.out).mono ?_
            (case side1 => exact ax28)
            (case side2 => exact ax29)
            rintro e w55 ⟨rfl, hb⟩
            have HS1_ := (hb.cell (World.block_lt_of_cell? _ _ (hHeld.2.1))).trans (hHeld.2.1); have HS2_ := (hb.cell (World.block_lt_of_cell? _ _ (hHeld.2.2))).trans (hHeld.2.2)
            refine ⟨_, rfl, ?_⟩
            have n0_ := Aside0.mk (Kd.R_below ax154 hb)
            have n1_ := Aside0.mk (blk_below (g := gb285) (o := .cells #[.slice A0_0 l0_0.length c0_0] 30 (0, 0)) ax153 hb)
            have n2_ := Aside0.mk (below_step ax152 hb); clear HO_7; clear BK285; clear HB; have HO_7 := n0_; have BK285 := n1_; have HB := n2_; clear n0_ n1_ n2_; (try clear hb); (try clear hb2); (try clear hk); (try clear hi)
            refine hK.out _ _ ⟨(blk_cell BK285.out 0).trans rfl, HS1_, HS2_⟩ (fun hHeld => ?_)
            clear hK K
            refine norm_ (a' := ?_) ?_ ?_
            rotate_left
            ·exact ax22
            refine pure_ (i := 16) (N := some 51) (v := ?_) (a' := ?_) (ob 19 131071) rfl rfl (any_of HT_.out (by kernel_rfl)) (fun _ _ _ h => h) (Or.inl ⟨by rfl, ?_⟩) ?_ ?_; rotate_left; exact ax3; rotate_left; exact ax4
            refine pure_ (i := 17) (N := some 52) (v := ?_) (a' := ?_) (ob 19 262143) rfl rfl (any_of HT_.out (by kernel_rfl)) (fun _ _ _ h => h) (Or.inl ⟨by rfl, ?_⟩) ?_ ?_; rotate_left; exact ax3; rotate_left; exact ax4
            refine pure_ (i := 18) (N := some 11) (v := ?_) (a' := ?_) (ob 19 524287) rfl rfl (any_of HT_.out (by kernel_rfl)) (fun _ _ _ h => h) (Or.inl ⟨by rfl, ?_⟩) ?_ ?_; rotate_left; exact ax3; rotate_left; exact ax4
            refine done_ (done_of HT_.out (by kernel_rfl)) ?_
            try go_wp2
            have n0_ := Aside0.mk (Kd.R_drew HO_7.out); have n1_ := Aside0.mk (blk_drew BK285.out); have n2_ := Aside0.mk (below_drew1 HB.out); clear HO_7; clear BK285; clear HB; have HO_7 := n0_; have BK285 := n1_; have HB := n2_; clear n0_ n1_ n2_
            have p297 : 0 ≤ (x10_2 : Int) := of_decide_eq_true ax38
            have q297 : x10_2 < (t286.length : Int) := of_decide_eq_true ax38
            obtain ⟨ad297, e297, hx297_0⟩ := Kd.at_int (Kd.R_reads' HO_7.out).2.2 x10_2 p297 q297
            obtain rfl : ad291 = ad297 := ax157
            replace p297 := eq_true p297; replace q297 := eq_true q297
            refine start_ (n := 9) (S := fun w' => w'.cell? ⟨gb285, 0, none⟩ = some (.slice A0_0 l0_0.length c0_0) ∧ w'.cell? (ad291.add (x10_2).toNat) = some (.int .i64 (rd t286 x10_2))) (ds := []) (ob 9 0) (by kernel_rfl) rfl rfl ⟨(blk_cell BK285.out 0).trans rfl, hx297_0⟩ (fun hHeld => ?_); refine with_tabW spec_l11Length.tab9 spec_l11Length.bits9 (fun HT_ HW_ => ?_)
            generalize w55.drew = w56 at HO_7 BK285 HB hx297_0 hHeld ⊢
            refine pure_ (i := 1) (N := some 54) (v := ?_) (a' := ?_) (ob 9 2) rfl rfl (any_of HT_.out (by kernel_rfl)) (fun _ _ _ h => h) (Or.inl ⟨by rfl, ?_⟩) ?_ ?_; rotate_left; exact ax3; rotate_left; exact ax4
            refine pure_ (i := 2) (N := some 55) (v := ?_) (a' := ?_) (ob 9 6) rfl rfl (any_of HT_.out (by kernel_rfl)) (fun _ _ _ h => h) (Or.inl ⟨by rfl, ?_⟩) ?_ ?_; rotate_left; exact ax3; rotate_left; exact ax4
            refine pure_ (i := 3) (N := some 56) (v := ?_) (a' := ?_) (ob 9 14) rfl rfl (any_of HT_.out (by kernel_rfl)) (fun _ _ _ h => h) (Or.inl ⟨by rfl, ?_⟩) ?_ ?_; rotate_left; exact ax3; rotate_left; exact ax4
            refine pure_ (i := 5) (N := some 58) (v := ?_) (a' := ?_) (ob 9 46) rfl rfl (any_of HT_.out (by kernel_rfl)) (fun _ _ _ h => h) (Or.inl ⟨by rfl, ?_⟩) ?_ ?_; rotate_left; exact ax3; rotate_left; exact ax4
            refine take_ (i := 0) (N := some 53) (v := ?_) (a' := ?_) (ob 9 47) rfl rfl (take_ofW HT_.out HW_.out (by kernel_rfl)) (fun _ _ _ h => h) (Or.inl ⟨by rfl, ?_⟩) hHeld ?_ ?_; rotate_left; exact ax14; rotate_left; exact ax4
            refine take_ (i := 4) (N := some 57) (v := ?_) (a' := ?_) (ob 9 63) rfl rfl (take_ofW HT_.out HW_.out (by kernel_rfl)) (fun _ _ _ h => h) (Or.inl ⟨by rfl, ?_⟩) hHeld ?_ ?_; rotate_left; exact ax14; rotate_left; exact ax4
            refine one_ (i := 6) (N := some 59) (ob 9 127) rfl rfl (one_of HT_.out (by kernel_rfl)) (by decide) (fun K hK => ?_)
            refine goes_ Try.func66 (by kernel_rfl) rfl #[.agg #[.slice A0_0 l0_0.length c0_0], .int .i64 (rd t286 x10_2), .int .i64 a2] (by rfl) rfl rfl ax27 ?_
            with_reducible refine (ih k2 ax155 _ _ l0_0 (rd t286 x10_2) a2 t298 _ ?side1 ?side2 A42.out).mono ?_
            (case side1 => exact ax28)
            (case side2 => exact ax29)
            rintro e w57 ⟨rfl, hb⟩
            have HS1_ := (hb.cell (World.block_lt_of_cell? _ _ (hHeld.2))).trans (hHeld.2)
            refine ⟨_, rfl, ?_⟩
            have n0_ := Aside0.mk (Kd.R_below ax154 hb)
            have n1_ := Aside0.mk (blk_below (g := gb285) (o := .cells #[.slice A0_0 l0_0.length c0_0] 30 (0, 0)) ax153 hb)
            have n2_ := Aside0.mk (below_step ax152 hb); clear HO_7; clear BK285; clear HB; have HO_7 := n0_; have BK285 := n1_; have HB := n2_; clear n0_ n1_ n2_; (try clear hb); (try clear hb2); (try clear hk); (try clear hi)
            refine hK.out _ _ ⟨(blk_cell BK285.out 0).trans rfl, HS1_⟩ (fun hHeld => ?_)
            clear hK K
            refine norm_ (a' := ?_) ?_ ?_
            rotate_left
            ·exact ax21
            refine pure_ (i := 7) (N := some 60) (v := ?_) (a' := ?_) (ob 9 255) rfl rfl (any_of HT_.out (by kernel_rfl)) (fun _ _ _ h => h) (Or.inl ⟨by rfl, ?_⟩) ?_ ?_; rotate_left; exact ax3; rotate_left; exact ax4
            refine pure_ (i := 8) (N := some 12) (v := ?_) (a' := ?_) (ob 9 511) rfl rfl (any_of HT_.out (by kernel_rfl)) (fun _ _ _ h => h) (Or.inl ⟨by rfl, ?_⟩) ?_ ?_; rotate_left; exact ax3; rotate_left; exact ax4
            refine done_ (done_of HT_.out (by kernel_rfl)) ?_
            try go_wp2
            go_roundg k2
            case measure => have := HJ4.out; have := HK2.out; omega
            case rel => exact ⟨(wrap64 (1 + t298)), (wrap64 (x10_2 + 1)), ax39, ax39, H', ⟨by have := HJ4.out; have := HK2.out; omega⟩, ⟨by (with_reducible repeat (first | apply Kd.R_alloc | apply Kd.R_drewN | apply Kd.R_drew)); exact HO_7.out⟩, ⟨by (with_reducible repeat (first | refine blk_drewN ?_ _ | refine blk_drew ?_ | refine blk_alloc ?_ _)); exact BK285.out⟩, ⟨by repeat (first | (with_reducible first | exact HB.out | apply below_alloc | apply pw_below_drewN | apply below_drew1 | refine below_set ?_ GE285.out) | exact HB.out)⟩⟩
           ·rw [if_neg c51] at H
            have c51b0 : decide (x9_2 < 0) = false := decide_eq_false c51
            clear c51
            by_cases c58 : (wrap64 (1 + t298)) < x9_2
            ·rw [if_pos c58] at H
             have c58b0 : decide ((wrap64 (1 + t298)) < x9_2) = true := decide_eq_true c58
             clear c58
             have H' := Aside0.mk H
             clear H
             obtain ⟨Ao59, co59, eo59⟩ := Kd.R_slice HO_7.out
             subst eo59
             try go_wp2
             have n0_ := Aside0.mk (Kd.R_drew HO_7.out); have n1_ := Aside0.mk (blk_drew BK285.out); have n2_ := Aside0.mk (below_drew1 HB.out); clear HO_7; clear BK285; clear HB; have HO_7 := n0_; have BK285 := n1_; have HB := n2_; clear n0_ n1_ n2_
             have p291 : 0 ≤ (x10_2 : Int) := of_decide_eq_true ax38
             have q291 : x10_2 < (t286.length : Int) := of_decide_eq_true ax38
             obtain ⟨ad291, e291, hx291_0⟩ := Kd.at_int (Kd.R_reads' HO_7.out).2.2 x10_2 p291 q291
             cases e291; replace p291 := eq_true p291; replace q291 := eq_true q291
             have p295 : 0 ≤ (x10_2 : Int) := of_decide_eq_true ax38
             have q295 : x10_2 < (t286.length : Int) := of_decide_eq_true ax38
             obtain ⟨ad295, e295, hx295_0⟩ := Kd.at_int (Kd.R_reads' HO_7.out).2.2 x10_2 p295 q295
             obtain rfl : ad291 = ad295 := ax156
             replace p295 := eq_true p295; replace q295 := eq_true q295
             refine start_ (n := 19) (S := fun w' => w'.cell? ⟨gb285, 0, none⟩ = some (.slice A0_0 l0_0.length c0_0) ∧ w'.cell? (ad291.add (x10_2).toNat) = some (.int .i64 (rd t286 x10_2)) ∧ w'.cell? (ad291.add (x10_2).toNat) = some (.int .i64 (rd t286 x10_2))) (ds := []) (ob 19 0) (by kernel_rfl) rfl rfl ⟨(blk_cell BK285.out 0).trans rfl, hx291_0, hx295_0⟩ (fun hHeld => ?_); refine with_tabW spec_l11Length.tab8 spec_l11Length.bits8 (fun HT_ HW_ => ?_)
             generalize wr.drew = w60 at HO_7 BK285 HB hx291_0 hx295_0 hHeld ⊢
             refine pure_ (i := 1) (N := some 36) (v := ?_) (a' := ?_) (ob 19 2) rfl rfl (any_of HT_.out (by kernel_rfl)) (fun _ _ _ h => h) (Or.inl ⟨by rfl, ?_⟩) ?_ ?_; rotate_left; exact ax3; rotate_left; exact ax4
             refine pure_ (i := 2) (N := some 37) (v := ?_) (a' := ?_) (ob 19 6) rfl rfl (any_of HT_.out (by kernel_rfl)) (fun _ _ _ h => h) (Or.inl ⟨by rfl, ?_⟩) ?_ ?_; rotate_left; exact ax3; rotate_left; exact ax4
             refine pure_ (i := 3) (N := some 38) (v := ?_) (a' := ?_) (ob 19 14) rfl rfl (any_of HT_.out (by kernel_rfl)) (fun _ _ _ h => h) (Or.inl ⟨by rfl, ?_⟩) ?_ ?_; rotate_left; exact ax3; rotate_left; exact ax4
             refine pure_ (i := 5) (N := some 40) (v := ?_) (a' := ?_) (ob 19 46) rfl rfl (any_of HT_.out (by kernel_rfl)) (fun _ _ _ h => h) (Or.inl ⟨by rfl, ?_⟩) ?_ ?_; rotate_left; exact ax3; rotate_left; exact ax4
             refine take_ (i := 0) (N := some 35) (v := ?_) (a' := ?_) (ob 19 47) rfl rfl (take_ofW HT_.out HW_.out (by kernel_rfl)) (fun _ _ _ h => h) (Or.inl ⟨by rfl, ?_⟩) hHeld ?_ ?_; rotate_left; exact ax16; rotate_left; exact ax4
             refine take_ (i := 4) (N := some 39) (v := ?_) (a' := ?_) (ob 19 63) rfl rfl (take_ofW HT_.out HW_.out (by kernel_rfl)) (fun _ _ _ h => h) (Or.inl ⟨by rfl, ?_⟩) hHeld ?_ ?_; rotate_left; exact ax16; rotate_left; exact ax4
             refine one_ (i := 6) (N := some 41) (ob 19 127) rfl rfl (one_of HT_.out (by kernel_rfl)) (by decide) (fun K hK => ?_)
             refine goes_ Try.func57 (by kernel_rfl) rfl #[.agg #[.slice A0_0 l0_0.length c0_0], .int .i64 (rd t286 x10_2), .int .i64 a2] (by rfl) rfl rfl ax27 ?_
             with_reducible refine (spec_l11Fatal.calls k2 _ _ l0_0 (rd t286 x10_2) a2 false _ ?side1 ?side2 A21.out).mono ?_
             (case side1 => exact ax28)
             (case side2 => exact ax29)
             rintro e w61 ⟨rfl, hb⟩
             have HS1_ := (hb.cell (World.block_lt_of_cell? _ _ (hHeld.2.1))).trans (hHeld.2.1); have HS2_ := (hb.cell (World.block_lt_of_cell? _ _ (hHeld.2.2))).trans (hHeld.2.2)
             refine ⟨_, rfl, ?_⟩
             have n0_ := Aside0.mk (Kd.R_below ax154 hb)
             have n1_ := Aside0.mk (blk_below (g := gb285) (o := .cells #[.slice A0_0 l0_0.length c0_0] 30 (0, 0)) ax153 hb)
             have n2_ := Aside0.mk (below_step ax152 hb); clear HO_7; clear BK285; clear HB; have HO_7 := n0_; have BK285 := n1_; have HB := n2_; clear n0_ n1_ n2_; (try clear hb); (try clear hb2); (try clear hk); (try clear hi)
             refine hK.out _ _ ⟨(blk_cell BK285.out 0).trans rfl, HS1_, HS2_⟩ (fun hHeld => ?_)
             clear hK K
             refine norm_ (a' := ?_) ?_ ?_
             rotate_left
             ·exact ax20
             refine pure_ (i := 7) (N := some 42) (v := ?_) (a' := ?_) (ob 19 255) rfl rfl (any_of HT_.out (by kernel_rfl)) (fun _ _ _ h => h) (Or.inl ⟨by rfl, ?_⟩) ?_ ?_; rotate_left; exact ax3; rotate_left; exact ax4
             refine pure_ (i := 8) (N := some 43) (v := ?_) (a' := ?_) (ob 19 511) rfl rfl (any_of HT_.out (by kernel_rfl)) (fun _ _ _ h => h) (Or.inl ⟨by rfl, ?_⟩) ?_ ?_; rotate_left; exact ax3; rotate_left; exact ax4
             refine pure_ (i := 10) (N := some 45) (v := ?_) (a' := ?_) (ob 19 1535) rfl rfl (any_of HT_.out (by kernel_rfl)) (fun _ _ _ h => h) (Or.inl ⟨by rfl, ?_⟩) ?_ ?_; rotate_left; exact ax3; rotate_left; exact ax4
             refine pure_ (i := 11) (N := some 46) (v := ?_) (a' := ?_) (ob 19 3583) rfl rfl (any_of HT_.out (by kernel_rfl)) (fun _ _ _ h => h) (Or.inl ⟨by rfl, ?_⟩) ?_ ?_; rotate_left; exact ax3; rotate_left; exact ax4
             refine pure_ (i := 12) (N := some 47) (v := ?_) (a' := ?_) (ob 19 7679) rfl rfl (any_of HT_.out (by kernel_rfl)) (fun _ _ _ h => h) (Or.inl ⟨by rfl, ?_⟩) ?_ ?_; rotate_left; exact ax3; rotate_left; exact ax4
             refine pure_ (i := 14) (N := some 49) (v := ?_) (a' := ?_) (ob 19 24063) rfl rfl (any_of HT_.out (by kernel_rfl)) (fun _ _ _ h => h) (Or.inl ⟨by rfl, ?_⟩) ?_ ?_; rotate_left; exact ax3; rotate_left; exact ax4
             refine take_ (i := 9) (N := some 44) (v := ?_) (a' := ?_) (ob 19 24575) rfl rfl (take_ofW HT_.out HW_.out (by kernel_rfl)) (fun _ _ _ h => h) (Or.inl ⟨by rfl, ?_⟩) hHeld ?_ ?_; rotate_left; exact ax16; rotate_left; exact ax4
             refine take_ (i := 13) (N := some 48) (v := ?_) (a' := ?_) (ob 19 32767) rfl rfl (take_ofW HT_.out HW_.out (by kernel_rfl)) (fun _ _ _ h => h) (Or.inl ⟨by rfl, ?_⟩) hHeld ?_ ?_; rotate_left; exact ax16; rotate_left; exact ax4
             refine one_ (i := 15) (N := some 50) (ob 19 65535) rfl rfl (one_of HT_.out (by kernel_rfl)) (by decide) (fun K hK => ?_)
             refine goes_ Try.func50 (by kernel_rfl) rfl #[.agg #[.slice A0_0 l0_0.length c0_0], .int .i64 (rd t286 x10_2), .int .i64 a2, .bool false] (by rfl) rfl rfl ax27 ?_
             with_reducible refine (spec_l11Wins.calls k2 _ _ l0_0 (rd t286 x10_2) a2 false false _ ?side1 ?side2 A41.out).mono ?_
             (case side1 => exact ax28)
             (case side2 => exact ax29)
             rintro e w62 ⟨rfl, hb⟩
             have HS1_ := (hb.cell (World.block_lt_of_cell? _ _ (hHeld.2.1))).trans (hHeld.2.1); have HS2_ := (hb.cell (World.block_lt_of_cell? _ _ (hHeld.2.2))).trans (hHeld.2.2)
             refine ⟨_, rfl, ?_⟩
             have n0_ := Aside0.mk (Kd.R_below ax154 hb)
             have n1_ := Aside0.mk (blk_below (g := gb285) (o := .cells #[.slice A0_0 l0_0.length c0_0] 30 (0, 0)) ax153 hb)
             have n2_ := Aside0.mk (below_step ax152 hb); clear HO_7; clear BK285; clear HB; have HO_7 := n0_; have BK285 := n1_; have HB := n2_; clear n0_ n1_ n2_; (try clear hb); (try clear hb2); (try clear hk); (try clear hi)
             refine hK.out _ _ ⟨(blk_cell BK285.out 0).trans rfl, HS1_, HS2_⟩ (fun hHeld => ?_)
             clear hK K
             refine norm_ (a' := ?_) ?_ ?_
             rotate_left
             ·exact ax22
             refine pure_ (i := 16) (N := some 51) (v := ?_) (a' := ?_) (ob 19 131071) rfl rfl (any_of HT_.out (by kernel_rfl)) (fun _ _ _ h => h) (Or.inl ⟨by rfl, ?_⟩) ?_ ?_; rotate_left; exact ax3; rotate_left; exact ax4
             refine pure_ (i := 17) (N := some 52) (v := ?_) (a' := ?_) (ob 19 262143) rfl rfl (any_of HT_.out (by kernel_rfl)) (fun _ _ _ h => h) (Or.inl ⟨by rfl, ?_⟩) ?_ ?_; rotate_left; exact ax3; rotate_left; exact ax4
             refine pure_ (i := 18) (N := some 11) (v := ?_) (a' := ?_) (ob 19 524287) rfl rfl (any_of HT_.out (by kernel_rfl)) (fun _ _ _ h => h) (Or.inl ⟨by rfl, ?_⟩) ?_ ?_; rotate_left; exact ax3; rotate_left; exact ax4
             refine done_ (done_of HT_.out (by kernel_rfl)) ?_
             try go_wp2
             have n0_ := Aside0.mk (Kd.R_drew HO_7.out); have n1_ := Aside0.mk (blk_drew BK285.out); have n2_ := Aside0.mk (below_drew1 HB.out); clear HO_7; clear BK285; clear HB; have HO_7 := n0_; have BK285 := n1_; have HB := n2_; clear n0_ n1_ n2_
             have p297 : 0 ≤ (x10_2 : Int) := of_decide_eq_true ax38
             have q297 : x10_2 < (t286.length : Int) := of_decide_eq_true ax38
             obtain ⟨ad297, e297, hx297_0⟩ := Kd.at_int (Kd.R_reads' HO_7.out).2.2 x10_2 p297 q297
             obtain rfl : ad291 = ad297 := ax157
             replace p297 := eq_true p297; replace q297 := eq_true q297
             refine start_ (n := 9) (S := fun w' => w'.cell? ⟨gb285, 0, none⟩ = some (.slice A0_0 l0_0.length c0_0) ∧ w'.cell? (ad291.add (x10_2).toNat) = some (.int .i64 (rd t286 x10_2))) (ds := []) (ob 9 0) (by kernel_rfl) rfl rfl ⟨(blk_cell BK285.out 0).trans rfl, hx297_0⟩ (fun hHeld => ?_); refine with_tabW spec_l11Length.tab9 spec_l11Length.bits9 (fun HT_ HW_ => ?_)
             generalize w62.drew = w63 at HO_7 BK285 HB hx297_0 hHeld ⊢
             refine pure_ (i := 1) (N := some 54) (v := ?_) (a' := ?_) (ob 9 2) rfl rfl (any_of HT_.out (by kernel_rfl)) (fun _ _ _ h => h) (Or.inl ⟨by rfl, ?_⟩) ?_ ?_; rotate_left; exact ax3; rotate_left; exact ax4
             refine pure_ (i := 2) (N := some 55) (v := ?_) (a' := ?_) (ob 9 6) rfl rfl (any_of HT_.out (by kernel_rfl)) (fun _ _ _ h => h) (Or.inl ⟨by rfl, ?_⟩) ?_ ?_; rotate_left; exact ax3; rotate_left; exact ax4
             refine pure_ (i := 3) (N := some 56) (v := ?_) (a' := ?_) (ob 9 14) rfl rfl (any_of HT_.out (by kernel_rfl)) (fun _ _ _ h => h) (Or.inl ⟨by rfl, ?_⟩) ?_ ?_; rotate_left; exact ax3; rotate_left; exact ax4
             refine pure_ (i := 5) (N := some 58) (v := ?_) (a' := ?_) (ob 9 46) rfl rfl (any_of HT_.out (by kernel_rfl)) (fun _ _ _ h => h) (Or.inl ⟨by rfl, ?_⟩) ?_ ?_; rotate_left; exact ax3; rotate_left; exact ax4
             refine take_ (i := 0) (N := some 53) (v := ?_) (a' := ?_) (ob 9 47) rfl rfl (take_ofW HT_.out HW_.out (by kernel_rfl)) (fun _ _ _ h => h) (Or.inl ⟨by rfl, ?_⟩) hHeld ?_ ?_; rotate_left; exact ax14; rotate_left; exact ax4
             refine take_ (i := 4) (N := some 57) (v := ?_) (a' := ?_) (ob 9 63) rfl rfl (take_ofW HT_.out HW_.out (by kernel_rfl)) (fun _ _ _ h => h) (Or.inl ⟨by rfl, ?_⟩) hHeld ?_ ?_; rotate_left; exact ax14; rotate_left; exact ax4
             refine one_ (i := 6) (N := some 59) (ob 9 127) rfl rfl (one_of HT_.out (by kernel_rfl)) (by decide) (fun K hK => ?_)
             refine goes_ Try.func66 (by kernel_rfl) rfl #[.agg #[.slice A0_0 l0_0.length c0_0], .int .i64 (rd t286 x10_2), .int .i64 a2] (by rfl) rfl rfl ax27 ?_
             with_reducible refine (ih k2 ax155 _ _ l0_0 (rd t286 x10_2) a2 t298 _ ?side1 ?side2 A42.out).mono ?_
             (case side1 => exact ax28)
             (case side2 => exact ax29)
             rintro e w64 ⟨rfl, hb⟩
             have HS1_ := (hb.cell (World.block_lt_of_cell? _ _ (hHeld.2))).trans (hHeld.2)
             refine ⟨_, rfl, ?_⟩
             have n0_ := Aside0.mk (Kd.R_below ax154 hb)
             have n1_ := Aside0.mk (blk_below (g := gb285) (o := .cells #[.slice A0_0 l0_0.length c0_0] 30 (0, 0)) ax153 hb)
             have n2_ := Aside0.mk (below_step ax152 hb); clear HO_7; clear BK285; clear HB; have HO_7 := n0_; have BK285 := n1_; have HB := n2_; clear n0_ n1_ n2_; (try clear hb); (try clear hb2); (try clear hk); (try clear hi)
             refine hK.out _ _ ⟨(blk_cell BK285.out 0).trans rfl, HS1_⟩ (fun hHeld => ?_)
             clear hK K
             refine norm_ (a' := ?_) ?_ ?_
             rotate_left
             ·exact ax21
             refine pure_ (i := 7) (N := some 60) (v := ?_) (a' := ?_) (ob 9 255) rfl rfl (any_of HT_.out (by kernel_rfl)) (fun _ _ _ h => h) (Or.inl ⟨by rfl, ?_⟩) ?_ ?_; rotate_left; exact ax3; rotate_left; exact ax4
             refine pure_ (i := 8) (N := some 12) (v := ?_) (a' := ?_) (ob 9 511) rfl rfl (any_of HT_.out (by kernel_rfl)) (fun _ _ _ h => h) (Or.inl ⟨by rfl, ?_⟩) ?_ ?_; rotate_left; exact ax3; rotate_left; exact ax4
             refine done_ (done_of HT_.out (by kernel_rfl)) ?_
             try go_wp2
             go_roundg k2
             case measure => have := HJ4.out; have := HK2.out; omega
             case rel => exact ⟨(wrap64 (1 + t298)), (wrap64 (x10_2 + 1)), ax39, ax39, H', ⟨by have := HJ4.out; have := HK2.out; omega⟩, ⟨by (with_reducible repeat (first | apply Kd.R_alloc | apply Kd.R_drewN | apply Kd.R_drew)); exact HO_7.out⟩, ⟨by (with_reducible repeat (first | refine blk_drewN ?_ _ | refine blk_drew ?_ | refine blk_alloc ?_ _)); exact BK285.out⟩, ⟨by repeat (first | (with_reducible first | exact HB.out | apply below_alloc | apply pw_below_drewN | apply below_drew1 | refine below_set ?_ GE285.out) | exact HB.out)⟩⟩
            ·rw [if_neg c58] at H
             have c58b0 : decide ((wrap64 (1 + t298)) < x9_2) = false := decide_eq_false c58
             clear c58
             have H' := Aside0.mk H
             clear H
             obtain ⟨Ao65, co65, eo65⟩ := Kd.R_slice HO_7.out
             subst eo65
             try go_wp2
             have n0_ := Aside0.mk (Kd.R_drew HO_7.out); have n1_ := Aside0.mk (blk_drew BK285.out); have n2_ := Aside0.mk (below_drew1 HB.out); clear HO_7; clear BK285; clear HB; have HO_7 := n0_; have BK285 := n1_; have HB := n2_; clear n0_ n1_ n2_
             have p291 : 0 ≤ (x10_2 : Int) := of_decide_eq_true ax38
             have q291 : x10_2 < (t286.length : Int) := of_decide_eq_true ax38
             obtain ⟨ad291, e291, hx291_0⟩ := Kd.at_int (Kd.R_reads' HO_7.out).2.2 x10_2 p291 q291
             cases e291; replace p291 := eq_true p291; replace q291 := eq_true q291
             have p295 : 0 ≤ (x10_2 : Int) := of_decide_eq_true ax38
             have q295 : x10_2 < (t286.length : Int) := of_decide_eq_true ax38
             obtain ⟨ad295, e295, hx295_0⟩ := Kd.at_int (Kd.R_reads' HO_7.out).2.2 x10_2 p295 q295
             obtain rfl : ad291 = ad295 := ax156
             replace p295 := eq_true p295; replace q295 := eq_true q295
             refine start_ (n := 19) (S := fun w' => w'.cell? ⟨gb285, 0, none⟩ = some (.slice A0_0 l0_0.length c0_0) ∧ w'.cell? (ad291.add (x10_2).toNat) = some (.int .i64 (rd t286 x10_2)) ∧ w'.cell? (ad291.add (x10_2).toNat) = some (.int .i64 (rd t286 x10_2))) (ds := []) (ob 19 0) (by kernel_rfl) rfl rfl ⟨(blk_cell BK285.out 0).trans rfl, hx291_0, hx295_0⟩ (fun hHeld => ?_); refine with_tabW spec_l11Length.tab8 spec_l11Length.bits8 (fun HT_ HW_ => ?_)
             generalize wr.drew = w66 at HO_7 BK285 HB hx291_0 hx295_0 hHeld ⊢
             refine pure_ (i := 1) (N := some 36) (v := ?_) (a' := ?_) (ob 19 2) rfl rfl (any_of HT_.out (by kernel_rfl)) (fun _ _ _ h => h) (Or.inl ⟨by rfl, ?_⟩) ?_ ?_; rotate_left; exact ax3; rotate_left; exact ax4
             refine pure_ (i := 2) (N := some 37) (v := ?_) (a' := ?_) (ob 19 6) rfl rfl (any_of HT_.out (by kernel_rfl)) (fun _ _ _ h => h) (Or.inl ⟨by rfl, ?_⟩) ?_ ?_; rotate_left; exact ax3; rotate_left; exact ax4
             refine pure_ (i := 3) (N := some 38) (v := ?_) (a' := ?_) (ob 19 14) rfl rfl (any_of HT_.out (by kernel_rfl)) (fun _ _ _ h => h) (Or.inl ⟨by rfl, ?_⟩) ?_ ?_; rotate_left; exact ax3; rotate_left; exact ax4
             refine pure_ (i := 5) (N := some 40) (v := ?_) (a' := ?_) (ob 19 46) rfl rfl (any_of HT_.out (by kernel_rfl)) (fun _ _ _ h => h) (Or.inl ⟨by rfl, ?_⟩) ?_ ?_; rotate_left; exact ax3; rotate_left; exact ax4
             refine take_ (i := 0) (N := some 35) (v := ?_) (a' := ?_) (ob 19 47) rfl rfl (take_ofW HT_.out HW_.out (by kernel_rfl)) (fun _ _ _ h => h) (Or.inl ⟨by rfl, ?_⟩) hHeld ?_ ?_; rotate_left; exact ax16; rotate_left; exact ax4
             refine take_ (i := 4) (N := some 39) (v := ?_) (a' := ?_) (ob 19 63) rfl rfl (take_ofW HT_.out HW_.out (by kernel_rfl)) (fun _ _ _ h => h) (Or.inl ⟨by rfl, ?_⟩) hHeld ?_ ?_; rotate_left; exact ax16; rotate_left; exact ax4
             refine one_ (i := 6) (N := some 41) (ob 19 127) rfl rfl (one_of HT_.out (by kernel_rfl)) (by decide) (fun K hK => ?_)
             refine goes_ Try.func57 (by kernel_rfl) rfl #[.agg #[.slice A0_0 l0_0.length c0_0], .int .i64 (rd t286 x10_2), .int .i64 a2] (by rfl) rfl rfl ax27 ?_
             with_reducible refine (spec_l11Fatal.calls k2 _ _ l0_0 (rd t286 x10_2) a2 false _ ?side1 ?side2 A21.out).mono ?_
             (case side1 => exact ax28)
             (case side2 => exact ax29)
             rintro e w67 ⟨rfl, hb⟩
             have HS1_ := (hb.cell (World.block_lt_of_cell? _ _ (hHeld.2.1))).trans (hHeld.2.1); have HS2_ := (hb.cell (World.block_lt_of_cell? _ _ (hHeld.2.2))).trans (hHeld.2.2)
             refine ⟨_, rfl, ?_⟩
             have n0_ := Aside0.mk (Kd.R_below ax154 hb)
             have n1_ := Aside0.mk (blk_below (g := gb285) (o := .cells #[.slice A0_0 l0_0.length c0_0] 30 (0, 0)) ax153 hb)
             have n2_ := Aside0.mk (below_step ax152 hb); clear HO_7; clear BK285; clear HB; have HO_7 := n0_; have BK285 := n1_; have HB := n2_; clear n0_ n1_ n2_; (try clear hb); (try clear hb2); (try clear hk); (try clear hi)
             refine hK.out _ _ ⟨(blk_cell BK285.out 0).trans rfl, HS1_, HS2_⟩ (fun hHeld => ?_)
             clear hK K
             refine norm_ (a' := ?_) ?_ ?_
             rotate_left
             ·exact ax20
             refine pure_ (i := 7) (N := some 42) (v := ?_) (a' := ?_) (ob 19 255) rfl rfl (any_of HT_.out (by kernel_rfl)) (fun _ _ _ h => h) (Or.inl ⟨by rfl, ?_⟩) ?_ ?_; rotate_left; exact ax3; rotate_left; exact ax4
             refine pure_ (i := 8) (N := some 43) (v := ?_) (a' := ?_) (ob 19 511) rfl rfl (any_of HT_.out (by kernel_rfl)) (fun _ _ _ h => h) (Or.inl ⟨by rfl, ?_⟩) ?_ ?_; rotate_left; exact ax3; rotate_left; exact ax4
             refine pure_ (i := 10) (N := some 45) (v := ?_) (a' := ?_) (ob 19 1535) rfl rfl (any_of HT_.out (by kernel_rfl)) (fun _ _ _ h => h) (Or.inl ⟨by rfl, ?_⟩) ?_ ?_; rotate_left; exact ax3; rotate_left; exact ax4
             refine pure_ (i := 11) (N := some 46) (v := ?_) (a' := ?_) (ob 19 3583) rfl rfl (any_of HT_.out (by kernel_rfl)) (fun _ _ _ h => h) (Or.inl ⟨by rfl, ?_⟩) ?_ ?_; rotate_left; exact ax3; rotate_left; exact ax4
             refine pure_ (i := 12) (N := some 47) (v := ?_) (a' := ?_) (ob 19 7679) rfl rfl (any_of HT_.out (by kernel_rfl)) (fun _ _ _ h => h) (Or.inl ⟨by rfl, ?_⟩) ?_ ?_; rotate_left; exact ax3; rotate_left; exact ax4
             refine pure_ (i := 14) (N := some 49) (v := ?_) (a' := ?_) (ob 19 24063) rfl rfl (any_of HT_.out (by kernel_rfl)) (fun _ _ _ h => h) (Or.inl ⟨by rfl, ?_⟩) ?_ ?_; rotate_left; exact ax3; rotate_left; exact ax4
             refine take_ (i := 9) (N := some 44) (v := ?_) (a' := ?_) (ob 19 24575) rfl rfl (take_ofW HT_.out HW_.out (by kernel_rfl)) (fun _ _ _ h => h) (Or.inl ⟨by rfl, ?_⟩) hHeld ?_ ?_; rotate_left; exact ax16; rotate_left; exact ax4
             refine take_ (i := 13) (N := some 48) (v := ?_) (a' := ?_) (ob 19 32767) rfl rfl (take_ofW HT_.out HW_.out (by kernel_rfl)) (fun _ _ _ h => h) (Or.inl ⟨by rfl, ?_⟩) hHeld ?_ ?_; rotate_left; exact ax16; rotate_left; exact ax4
             refine one_ (i := 15) (N := some 50) (ob 19 65535) rfl rfl (one_of HT_.out (by kernel_rfl)) (by decide) (fun K hK => ?_)
             refine goes_ Try.func50 (by kernel_rfl) rfl #[.agg #[.slice A0_0 l0_0.length c0_0], .int .i64 (rd t286 x10_2), .int .i64 a2, .bool false] (by rfl) rfl rfl ax27 ?_
             with_reducible refine (spec_l11Wins.calls k2 _ _ l0_0 (rd t286 x10_2) a2 false false _ ?side1 ?side2 A41.out).mono ?_
             (case side1 => exact ax28)
             (case side2 => exact ax29)
             rintro e w68 ⟨rfl, hb⟩
             have HS1_ := (hb.cell (World.block_lt_of_cell? _ _ (hHeld.2.1))).trans (hHeld.2.1); have HS2_ := (hb.cell (World.block_lt_of_cell? _ _ (hHeld.2.2))).trans (hHeld.2.2)
             refine ⟨_, rfl, ?_⟩
             have n0_ := Aside0.mk (Kd.R_below ax154 hb)
             have n1_ := Aside0.mk (blk_below (g := gb285) (o := .cells #[.slice A0_0 l0_0.length c0_0] 30 (0, 0)) ax153 hb)
             have n2_ := Aside0.mk (below_step ax152 hb); clear HO_7; clear BK285; clear HB; have HO_7 := n0_; have BK285 := n1_; have HB := n2_; clear n0_ n1_ n2_; (try clear hb); (try clear hb2); (try clear hk); (try clear hi)
             refine hK.out _ _ ⟨(blk_cell BK285.out 0).trans rfl, HS1_, HS2_⟩ (fun hHeld => ?_)
             clear hK K
             refine norm_ (a' := ?_) ?_ ?_
             rotate_left
             ·exact ax22
             refine pure_ (i := 16) (N := some 51) (v := ?_) (a' := ?_) (ob 19 131071) rfl rfl (any_of HT_.out (by kernel_rfl)) (fun _ _ _ h => h) (Or.inl ⟨by rfl, ?_⟩) ?_ ?_; rotate_left; exact ax3; rotate_left; exact ax4
             refine pure_ (i := 17) (N := some 52) (v := ?_) (a' := ?_) (ob 19 262143) rfl rfl (any_of HT_.out (by kernel_rfl)) (fun _ _ _ h => h) (Or.inl ⟨by rfl, ?_⟩) ?_ ?_; rotate_left; exact ax3; rotate_left; exact ax4
             refine pure_ (i := 18) (N := some 11) (v := ?_) (a' := ?_) (ob 19 524287) rfl rfl (any_of HT_.out (by kernel_rfl)) (fun _ _ _ h => h) (Or.inl ⟨by rfl, ?_⟩) ?_ ?_; rotate_left; exact ax3; rotate_left; exact ax4
             refine done_ (done_of HT_.out (by kernel_rfl)) ?_
             try go_wp2
             have n0_ := Aside0.mk (Kd.R_drew HO_7.out); have n1_ := Aside0.mk (blk_drew BK285.out); have n2_ := Aside0.mk (below_drew1 HB.out); clear HO_7; clear BK285; clear HB; have HO_7 := n0_; have BK285 := n1_; have HB := n2_; clear n0_ n1_ n2_
             have p297 : 0 ≤ (x10_2 : Int) := of_decide_eq_true ax38
             have q297 : x10_2 < (t286.length : Int) := of_decide_eq_true ax38
             obtain ⟨ad297, e297, hx297_0⟩ := Kd.at_int (Kd.R_reads' HO_7.out).2.2 x10_2 p297 q297
             obtain rfl : ad291 = ad297 := ax157
             replace p297 := eq_true p297; replace q297 := eq_true q297
             refine start_ (n := 9) (S := fun w' => w'.cell? ⟨gb285, 0, none⟩ = some (.slice A0_0 l0_0.length c0_0) ∧ w'.cell? (ad291.add (x10_2).toNat) = some (.int .i64 (rd t286 x10_2))) (ds := []) (ob 9 0) (by kernel_rfl) rfl rfl ⟨(blk_cell BK285.out 0).trans rfl, hx297_0⟩ (fun hHeld => ?_); refine with_tabW spec_l11Length.tab9 spec_l11Length.bits9 (fun HT_ HW_ => ?_)
             generalize w68.drew = w69 at HO_7 BK285 HB hx297_0 hHeld ⊢
             refine pure_ (i := 1) (N := some 54) (v := ?_) (a' := ?_) (ob 9 2) rfl rfl (any_of HT_.out (by kernel_rfl)) (fun _ _ _ h => h) (Or.inl ⟨by rfl, ?_⟩) ?_ ?_; rotate_left; exact ax3; rotate_left; exact ax4
             refine pure_ (i := 2) (N := some 55) (v := ?_) (a' := ?_) (ob 9 6) rfl rfl (any_of HT_.out (by kernel_rfl)) (fun _ _ _ h => h) (Or.inl ⟨by rfl, ?_⟩) ?_ ?_; rotate_left; exact ax3; rotate_left; exact ax4
             refine pure_ (i := 3) (N := some 56) (v := ?_) (a' := ?_) (ob 9 14) rfl rfl (any_of HT_.out (by kernel_rfl)) (fun _ _ _ h => h) (Or.inl ⟨by rfl, ?_⟩) ?_ ?_; rotate_left; exact ax3; rotate_left; exact ax4
             refine pure_ (i := 5) (N := some 58) (v := ?_) (a' := ?_) (ob 9 46) rfl rfl (any_of HT_.out (by kernel_rfl)) (fun _ _ _ h => h) (Or.inl ⟨by rfl, ?_⟩) ?_ ?_; rotate_left; exact ax3; rotate_left; exact ax4
             refine take_ (i := 0) (N := some 53) (v := ?_) (a' := ?_) (ob 9 47) rfl rfl (take_ofW HT_.out HW_.out (by kernel_rfl)) (fun _ _ _ h => h) (Or.inl ⟨by rfl, ?_⟩) hHeld ?_ ?_; rotate_left; exact ax14; rotate_left; exact ax4
             refine take_ (i := 4) (N := some 57) (v := ?_) (a' := ?_) (ob 9 63) rfl rfl (take_ofW HT_.out HW_.out (by kernel_rfl)) (fun _ _ _ h => h) (Or.inl ⟨by rfl, ?_⟩) hHeld ?_ ?_; rotate_left; exact ax14; rotate_left; exact ax4
             refine one_ (i := 6) (N := some 59) (ob 9 127) rfl rfl (one_of HT_.out (by kernel_rfl)) (by decide) (fun K hK => ?_)
             refine goes_ Try.func66 (by kernel_rfl) rfl #[.agg #[.slice A0_0 l0_0.length c0_0], .int .i64 (rd t286 x10_2), .int .i64 a2] (by rfl) rfl rfl ax27 ?_
             with_reducible refine (ih k2 ax155 _ _ l0_0 (rd t286 x10_2) a2 t298 _ ?side1 ?side2 A42.out).mono ?_
             (case side1 => exact ax28)
             (case side2 => exact ax29)
             rintro e w70 ⟨rfl, hb⟩
             have HS1_ := (hb.cell (World.block_lt_of_cell? _ _ (hHeld.2))).trans (hHeld.2)
             refine ⟨_, rfl, ?_⟩
             have n0_ := Aside0.mk (Kd.R_below ax154 hb)
             have n1_ := Aside0.mk (blk_below (g := gb285) (o := .cells #[.slice A0_0 l0_0.length c0_0] 30 (0, 0)) ax153 hb)
             have n2_ := Aside0.mk (below_step ax152 hb); clear HO_7; clear BK285; clear HB; have HO_7 := n0_; have BK285 := n1_; have HB := n2_; clear n0_ n1_ n2_; (try clear hb); (try clear hb2); (try clear hk); (try clear hi)
             refine hK.out _ _ ⟨(blk_cell BK285.out 0).trans rfl, HS1_⟩ (fun hHeld => ?_)
             clear hK K
             refine norm_ (a' := ?_) ?_ ?_
             rotate_left
             ·exact ax21
             refine pure_ (i := 7) (N := some 60) (v := ?_) (a' := ?_) (ob 9 255) rfl rfl (any_of HT_.out (by kernel_rfl)) (fun _ _ _ h => h) (Or.inl ⟨by rfl, ?_⟩) ?_ ?_; rotate_left; exact ax3; rotate_left; exact ax4
             refine pure_ (i := 8) (N := some 12) (v := ?_) (a' := ?_) (ob 9 511) rfl rfl (any_of HT_.out (by kernel_rfl)) (fun _ _ _ h => h) (Or.inl ⟨by rfl, ?_⟩) ?_ ?_; rotate_left; exact ax3; rotate_left; exact ax4
             refine done_ (done_of HT_.out (by kernel_rfl)) ?_
             try go_wp2
             go_roundg k2
             case measure => have := HJ4.out; have := HK2.out; omega
             case rel => exact ⟨(x9_2), (wrap64 (x10_2 + 1)), ax39, ax39, H', ⟨by have := HJ4.out; have := HK2.out; omega⟩, ⟨by (with_reducible repeat (first | apply Kd.R_alloc | apply Kd.R_drewN | apply Kd.R_drew)); exact HO_7.out⟩, ⟨by (with_reducible repeat (first | refine blk_drewN ?_ _ | refine blk_drew ?_ | refine blk_alloc ?_ _)); exact BK285.out⟩, ⟨by repeat (first | (with_reducible first | exact HB.out | apply below_alloc | apply pw_below_drewN | apply below_drew1 | refine below_set ?_ GE285.out) | exact HB.out)⟩⟩
         ·replace c43 := Bool.eq_false_iff.mpr c43
          subst c43
          have H1 : (if (wrap64 (1 + t298)) > x9_2 then (spec_l11Length.l0 k2 a2 t286 false (wrap64 (1 + t298)) (wrap64 (x10_2 + 1)) l0_0) else (spec_l11Length.l0 k2 a2 t286 false x9_2 (wrap64 (x10_2 + 1)) l0_0)) = some r := by rw [if_neg (show ¬ (false = true) by decide)] at H; exact H
          clear H; have H := H1; clear H1
          by_cases c71 : (wrap64 (1 + t298)) > x9_2
          ·rw [if_pos c71] at H
           have c71b0 : decide (x9_2 < (wrap64 (1 + t298))) = true := decide_eq_true c71
           clear c71
           have H' := Aside0.mk H
           clear H
           obtain ⟨Ao72, co72, eo72⟩ := Kd.R_slice HO_7.out
           subst eo72
           try go_wp2
           have n0_ := Aside0.mk (Kd.R_drew HO_7.out); have n1_ := Aside0.mk (blk_drew BK285.out); have n2_ := Aside0.mk (below_drew1 HB.out); clear HO_7; clear BK285; clear HB; have HO_7 := n0_; have BK285 := n1_; have HB := n2_; clear n0_ n1_ n2_
           have p291 : 0 ≤ (x10_2 : Int) := of_decide_eq_true ax38
           have q291 : x10_2 < (t286.length : Int) := of_decide_eq_true ax38
           obtain ⟨ad291, e291, hx291_0⟩ := Kd.at_int (Kd.R_reads' HO_7.out).2.2 x10_2 p291 q291
           cases e291; replace p291 := eq_true p291; replace q291 := eq_true q291
           have p295 : 0 ≤ (x10_2 : Int) := of_decide_eq_true ax38
           have q295 : x10_2 < (t286.length : Int) := of_decide_eq_true ax38
           obtain ⟨ad295, e295, hx295_0⟩ := Kd.at_int (Kd.R_reads' HO_7.out).2.2 x10_2 p295 q295
           obtain rfl : ad291 = ad295 := ax156
           replace p295 := eq_true p295; replace q295 := eq_true q295
           refine start_ (n := 19) (S := fun w' => w'.cell? ⟨gb285, 0, none⟩ = some (.slice A0_0 l0_0.length c0_0) ∧ w'.cell? (ad291.add (x10_2).toNat) = some (.int .i64 (rd t286 x10_2)) ∧ w'.cell? (ad291.add (x10_2).toNat) = some (.int .i64 (rd t286 x10_2))) (ds := []) (ob 19 0) (by kernel_rfl) rfl rfl ⟨(blk_cell BK285.out 0).trans rfl, hx291_0, hx295_0⟩ (fun hHeld => ?_); refine with_tabW spec_l11Length.tab8 spec_l11Length.bits8 (fun HT_ HW_ => ?_)
           generalize wr.drew = w73 at HO_7 BK285 HB hx291_0 hx295_0 hHeld ⊢
           refine pure_ (i := 1) (N := some 36) (v := ?_) (a' := ?_) (ob 19 2) rfl rfl (any_of HT_.out (by kernel_rfl)) (fun _ _ _ h => h) (Or.inl ⟨by rfl, ?_⟩) ?_ ?_; rotate_left; exact ax3; rotate_left; exact ax4
           refine pure_ (i := 2) (N := some 37) (v := ?_) (a' := ?_) (ob 19 6) rfl rfl (any_of HT_.out (by kernel_rfl)) (fun _ _ _ h => h) (Or.inl ⟨by rfl, ?_⟩) ?_ ?_; rotate_left; exact ax3; rotate_left; exact ax4
           refine pure_ (i := 3) (N := some 38) (v := ?_) (a' := ?_) (ob 19 14) rfl rfl (any_of HT_.out (by kernel_rfl)) (fun _ _ _ h => h) (Or.inl ⟨by rfl, ?_⟩) ?_ ?_; rotate_left; exact ax3; rotate_left; exact ax4
           refine pure_ (i := 5) (N := some 40) (v := ?_) (a' := ?_) (ob 19 46) rfl rfl (any_of HT_.out (by kernel_rfl)) (fun _ _ _ h => h) (Or.inl ⟨by rfl, ?_⟩) ?_ ?_; rotate_left; exact ax3; rotate_left; exact ax4
           refine take_ (i := 0) (N := some 35) (v := ?_) (a' := ?_) (ob 19 47) rfl rfl (take_ofW HT_.out HW_.out (by kernel_rfl)) (fun _ _ _ h => h) (Or.inl ⟨by rfl, ?_⟩) hHeld ?_ ?_; rotate_left; exact ax16; rotate_left; exact ax4
           refine take_ (i := 4) (N := some 39) (v := ?_) (a' := ?_) (ob 19 63) rfl rfl (take_ofW HT_.out HW_.out (by kernel_rfl)) (fun _ _ _ h => h) (Or.inl ⟨by rfl, ?_⟩) hHeld ?_ ?_; rotate_left; exact ax16; rotate_left; exact ax4
           refine one_ (i := 6) (N := some 41) (ob 19 127) rfl rfl (one_of HT_.out (by kernel_rfl)) (by decide) (fun K hK => ?_)
           refine goes_ Try.func57 (by kernel_rfl) rfl #[.agg #[.slice A0_0 l0_0.length c0_0], .int .i64 (rd t286 x10_2), .int .i64 a2] (by rfl) rfl rfl ax27 ?_
           with_reducible refine (spec_l11Fatal.calls k2 _ _ l0_0 (rd t286 x10_2) a2 false _ ?side1 ?side2 A21.out).mono ?_
           (case side1 => exact ax28)
           (case side2 => exact ax29)
           rintro e w74 ⟨rfl, hb⟩
           have HS1_ := (hb.cell (World.block_lt_of_cell? _ _ (hHeld.2.1))).trans (hHeld.2.1); have HS2_ := (hb.cell (World.block_lt_of_cell? _ _ (hHeld.2.2))).trans (hHeld.2.2)
           refine ⟨_, rfl, ?_⟩
           have n0_ := Aside0.mk (Kd.R_below ax154 hb)
           have n1_ := Aside0.mk (blk_below (g := gb285) (o := .cells #[.slice A0_0 l0_0.length c0_0] 30 (0, 0)) ax153 hb)
           have n2_ := Aside0.mk (below_step ax152 hb); clear HO_7; clear BK285; clear HB; have HO_7 := n0_; have BK285 := n1_; have HB := n2_; clear n0_ n1_ n2_; (try clear hb); (try clear hb2); (try clear hk); (try clear hi)
           refine hK.out _ _ ⟨(blk_cell BK285.out 0).trans rfl, HS1_, HS2_⟩ (fun hHeld => ?_)
           clear hK K
           refine norm_ (a' := ?_) ?_ ?_
           rotate_left
           ·exact ax20
           refine pure_ (i := 7) (N := some 42) (v := ?_) (a' := ?_) (ob 19 255) rfl rfl (any_of HT_.out (by kernel_rfl)) (fun _ _ _ h => h) (Or.inl ⟨by rfl, ?_⟩) ?_ ?_; rotate_left; exact ax3; rotate_left; exact ax4
           refine pure_ (i := 8) (N := some 43) (v := ?_) (a' := ?_) (ob 19 511) rfl rfl (any_of HT_.out (by kernel_rfl)) (fun _ _ _ h => h) (Or.inl ⟨by rfl, ?_⟩) ?_ ?_; rotate_left; exact ax3; rotate_left; exact ax4
           refine pure_ (i := 10) (N := some 45) (v := ?_) (a' := ?_) (ob 19 1535) rfl rfl (any_of HT_.out (by kernel_rfl)) (fun _ _ _ h => h) (Or.inl ⟨by rfl, ?_⟩) ?_ ?_; rotate_left; exact ax3; rotate_left; exact ax4
           refine pure_ (i := 11) (N := some 46) (v := ?_) (a' := ?_) (ob 19 3583) rfl rfl (any_of HT_.out (by kernel_rfl)) (fun _ _ _ h => h) (Or.inl ⟨by rfl, ?_⟩) ?_ ?_; rotate_left; exact ax3; rotate_left; exact ax4
           refine pure_ (i := 12) (N := some 47) (v := ?_) (a' := ?_) (ob 19 7679) rfl rfl (any_of HT_.out (by kernel_rfl)) (fun _ _ _ h => h) (Or.inl ⟨by rfl, ?_⟩) ?_ ?_; rotate_left; exact ax3; rotate_left; exact ax4
           refine pure_ (i := 14) (N := some 49) (v := ?_) (a' := ?_) (ob 19 24063) rfl rfl (any_of HT_.out (by kernel_rfl)) (fun _ _ _ h => h) (Or.inl ⟨by rfl, ?_⟩) ?_ ?_; rotate_left; exact ax3; rotate_left; exact ax4
           refine take_ (i := 9) (N := some 44) (v := ?_) (a' := ?_) (ob 19 24575) rfl rfl (take_ofW HT_.out HW_.out (by kernel_rfl)) (fun _ _ _ h => h) (Or.inl ⟨by rfl, ?_⟩) hHeld ?_ ?_; rotate_left; exact ax16; rotate_left; exact ax4
           refine take_ (i := 13) (N := some 48) (v := ?_) (a' := ?_) (ob 19 32767) rfl rfl (take_ofW HT_.out HW_.out (by kernel_rfl)) (fun _ _ _ h => h) (Or.inl ⟨by rfl, ?_⟩) hHeld ?_ ?_; rotate_left; exact ax16; rotate_left; exact ax4
           refine one_ (i := 15) (N := some 50) (ob 19 65535) rfl rfl (one_of HT_.out (by kernel_rfl)) (by decide) (fun K hK => ?_)
           refine goes_ Try.func50 (by kernel_rfl) rfl #[.agg #[.slice A0_0 l0_0.length c0_0], .int .i64 (rd t286 x10_2), .int .i64 a2, .bool false] (by rfl) rfl rfl ax27 ?_
           with_reducible refine (spec_l11Wins.calls k2 _ _ l0_0 (rd t286 x10_2) a2 false t296 _ ?side1 ?side2 A41.out).mono ?_
           (case side1 => exact ax28)
           (case side2 => exact ax29)
           rintro e w75 ⟨rfl, hb⟩
           have HS1_ := (hb.cell (World.block_lt_of_cell? _ _ (hHeld.2.1))).trans (hHeld.2.1); have HS2_ := (hb.cell (World.block_lt_of_cell? _ _ (hHeld.2.2))).trans (hHeld.2.2)
           refine ⟨_, rfl, ?_⟩
           have n0_ := Aside0.mk (Kd.R_below ax154 hb)
           have n1_ := Aside0.mk (blk_below (g := gb285) (o := .cells #[.slice A0_0 l0_0.length c0_0] 30 (0, 0)) ax153 hb)
           have n2_ := Aside0.mk (below_step ax152 hb); clear HO_7; clear BK285; clear HB; have HO_7 := n0_; have BK285 := n1_; have HB := n2_; clear n0_ n1_ n2_; (try clear hb); (try clear hb2); (try clear hk); (try clear hi)
           refine hK.out _ _ ⟨(blk_cell BK285.out 0).trans rfl, HS1_, HS2_⟩ (fun hHeld => ?_)
           clear hK K
           refine norm_ (a' := ?_) ?_ ?_
           rotate_left
           ·exact ax22
           refine pure_ (i := 16) (N := some 51) (v := ?_) (a' := ?_) (ob 19 131071) rfl rfl (any_of HT_.out (by kernel_rfl)) (fun _ _ _ h => h) (Or.inl ⟨by rfl, ?_⟩) ?_ ?_; rotate_left; exact ax3; rotate_left; exact ax4
           refine pure_ (i := 17) (N := some 52) (v := ?_) (a' := ?_) (ob 19 262143) rfl rfl (any_of HT_.out (by kernel_rfl)) (fun _ _ _ h => h) (Or.inl ⟨by rfl, ?_⟩) ?_ ?_; rotate_left; exact ax3; rotate_left; exact ax4
           refine pure_ (i := 18) (N := some 11) (v := ?_) (a' := ?_) (ob 19 524287) rfl rfl (any_of HT_.out (by kernel_rfl)) (fun _ _ _ h => h) (Or.inl ⟨by rfl, ?_⟩) ?_ ?_; rotate_left; exact ax3; rotate_left; exact ax4
           refine done_ (done_of HT_.out (by kernel_rfl)) ?_
           try go_wp2
           have n0_ := Aside0.mk (Kd.R_drew HO_7.out); have n1_ := Aside0.mk (blk_drew BK285.out); have n2_ := Aside0.mk (below_drew1 HB.out); clear HO_7; clear BK285; clear HB; have HO_7 := n0_; have BK285 := n1_; have HB := n2_; clear n0_ n1_ n2_
           have p297 : 0 ≤ (x10_2 : Int) := of_decide_eq_true ax38
           have q297 : x10_2 < (t286.length : Int) := of_decide_eq_true ax38
           obtain ⟨ad297, e297, hx297_0⟩ := Kd.at_int (Kd.R_reads' HO_7.out).2.2 x10_2 p297 q297
           obtain rfl : ad291 = ad297 := ax157
           replace p297 := eq_true p297; replace q297 := eq_true q297
           refine start_ (n := 9) (S := fun w' => w'.cell? ⟨gb285, 0, none⟩ = some (.slice A0_0 l0_0.length c0_0) ∧ w'.cell? (ad291.add (x10_2).toNat) = some (.int .i64 (rd t286 x10_2))) (ds := []) (ob 9 0) (by kernel_rfl) rfl rfl ⟨(blk_cell BK285.out 0).trans rfl, hx297_0⟩ (fun hHeld => ?_); refine with_tabW spec_l11Length.tab9 spec_l11Length.bits9 (fun HT_ HW_ => ?_)
           generalize w75.drew = w76 at HO_7 BK285 HB hx297_0 hHeld ⊢
           refine pure_ (i := 1) (N := some 54) (v := ?_) (a' := ?_) (ob 9 2) rfl rfl (any_of HT_.out (by kernel_rfl)) (fun _ _ _ h => h) (Or.inl ⟨by rfl, ?_⟩) ?_ ?_; rotate_left; exact ax3; rotate_left; exact ax4
           refine pure_ (i := 2) (N := some 55) (v := ?_) (a' := ?_) (ob 9 6) rfl rfl (any_of HT_.out (by kernel_rfl)) (fun _ _ _ h => h) (Or.inl ⟨by rfl, ?_⟩) ?_ ?_; rotate_left; exact ax3; rotate_left; exact ax4
           refine pure_ (i := 3) (N := some 56) (v := ?_) (a' := ?_) (ob 9 14) rfl rfl (any_of HT_.out (by kernel_rfl)) (fun _ _ _ h => h) (Or.inl ⟨by rfl, ?_⟩) ?_ ?_; rotate_left; exact ax3; rotate_left; exact ax4
           refine pure_ (i := 5) (N := some 58) (v := ?_) (a' := ?_) (ob 9 46) rfl rfl (any_of HT_.out (by kernel_rfl)) (fun _ _ _ h => h) (Or.inl ⟨by rfl, ?_⟩) ?_ ?_; rotate_left; exact ax3; rotate_left; exact ax4
           refine take_ (i := 0) (N := some 53) (v := ?_) (a' := ?_) (ob 9 47) rfl rfl (take_ofW HT_.out HW_.out (by kernel_rfl)) (fun _ _ _ h => h) (Or.inl ⟨by rfl, ?_⟩) hHeld ?_ ?_; rotate_left; exact ax14; rotate_left; exact ax4
           refine take_ (i := 4) (N := some 57) (v := ?_) (a' := ?_) (ob 9 63) rfl rfl (take_ofW HT_.out HW_.out (by kernel_rfl)) (fun _ _ _ h => h) (Or.inl ⟨by rfl, ?_⟩) hHeld ?_ ?_; rotate_left; exact ax14; rotate_left; exact ax4
           refine one_ (i := 6) (N := some 59) (ob 9 127) rfl rfl (one_of HT_.out (by kernel_rfl)) (by decide) (fun K hK => ?_)
           refine goes_ Try.func66 (by kernel_rfl) rfl #[.agg #[.slice A0_0 l0_0.length c0_0], .int .i64 (rd t286 x10_2), .int .i64 a2] (by rfl) rfl rfl ax27 ?_
           with_reducible refine (ih k2 ax155 _ _ l0_0 (rd t286 x10_2) a2 t298 _ ?side1 ?side2 A42.out).mono ?_
           (case side1 => exact ax28)
           (case side2 => exact ax29)
           rintro e w77 ⟨rfl, hb⟩
           have HS1_ := (hb.cell (World.block_lt_of_cell? _ _ (hHeld.2))).trans (hHeld.2)
           refine ⟨_, rfl, ?_⟩
           have n0_ := Aside0.mk (Kd.R_below ax154 hb)
           have n1_ := Aside0.mk (blk_below (g := gb285) (o := .cells #[.slice A0_0 l0_0.length c0_0] 30 (0, 0)) ax153 hb)
           have n2_ := Aside0.mk (below_step ax152 hb); clear HO_7; clear BK285; clear HB; have HO_7 := n0_; have BK285 := n1_; have HB := n2_; clear n0_ n1_ n2_; (try clear hb); (try clear hb2); (try clear hk); (try clear hi)
           refine hK.out _ _ ⟨(blk_cell BK285.out 0).trans rfl, HS1_⟩ (fun hHeld => ?_)
           clear hK K
           refine norm_ (a' := ?_) ?_ ?_
           rotate_left
           ·exact ax21
           refine pure_ (i := 7) (N := some 60) (v := ?_) (a' := ?_) (ob 9 255) rfl rfl (any_of HT_.out (by kernel_rfl)) (fun _ _ _ h => h) (Or.inl ⟨by rfl, ?_⟩) ?_ ?_; rotate_left; exact ax3; rotate_left; exact ax4
           refine pure_ (i := 8) (N := some 12) (v := ?_) (a' := ?_) (ob 9 511) rfl rfl (any_of HT_.out (by kernel_rfl)) (fun _ _ _ h => h) (Or.inl ⟨by rfl, ?_⟩) ?_ ?_; rotate_left; exact ax3; rotate_left; exact ax4
           refine done_ (done_of HT_.out (by kernel_rfl)) ?_
           try go_wp2
           go_roundg k2
           case measure => have := HJ4.out; have := HK2.out; omega
           case rel => exact ⟨(wrap64 (1 + t298)), (wrap64 (x10_2 + 1)), ax39, ax39, H', ⟨by have := HJ4.out; have := HK2.out; omega⟩, ⟨by (with_reducible repeat (first | apply Kd.R_alloc | apply Kd.R_drewN | apply Kd.R_drew)); exact HO_7.out⟩, ⟨by (with_reducible repeat (first | refine blk_drewN ?_ _ | refine blk_drew ?_ | refine blk_alloc ?_ _)); exact BK285.out⟩, ⟨by repeat (first | (with_reducible first | exact HB.out | apply below_alloc | apply pw_below_drewN | apply below_drew1 | refine below_set ?_ GE285.out) | exact HB.out)⟩⟩
          ·rw [if_neg c71] at H
           have c71b0 : decide (x9_2 < (wrap64 (1 + t298))) = false := decide_eq_false c71
           clear c71
           have H' := Aside0.mk H
           clear H
           obtain ⟨Ao78, co78, eo78⟩ := Kd.R_slice HO_7.out
           subst eo78
           try go_wp2
           have n0_ := Aside0.mk (Kd.R_drew HO_7.out); have n1_ := Aside0.mk (blk_drew BK285.out); have n2_ := Aside0.mk (below_drew1 HB.out); clear HO_7; clear BK285; clear HB; have HO_7 := n0_; have BK285 := n1_; have HB := n2_; clear n0_ n1_ n2_
           have p291 : 0 ≤ (x10_2 : Int) := of_decide_eq_true ax38
           have q291 : x10_2 < (t286.length : Int) := of_decide_eq_true ax38
           obtain ⟨ad291, e291, hx291_0⟩ := Kd.at_int (Kd.R_reads' HO_7.out).2.2 x10_2 p291 q291
           cases e291; replace p291 := eq_true p291; replace q291 := eq_true q291
           have p295 : 0 ≤ (x10_2 : Int) := of_decide_eq_true ax38
           have q295 : x10_2 < (t286.length : Int) := of_decide_eq_true ax38
           obtain ⟨ad295, e295, hx295_0⟩ := Kd.at_int (Kd.R_reads' HO_7.out).2.2 x10_2 p295 q295
           obtain rfl : ad291 = ad295 := ax156
           replace p295 := eq_true p295; replace q295 := eq_true q295
           refine start_ (n := 19) (S := fun w' => w'.cell? ⟨gb285, 0, none⟩ = some (.slice A0_0 l0_0.length c0_0) ∧ w'.cell? (ad291.add (x10_2).toNat) = some (.int .i64 (rd t286 x10_2)) ∧ w'.cell? (ad291.add (x10_2).toNat) = some (.int .i64 (rd t286 x10_2))) (ds := []) (ob 19 0) (by kernel_rfl) rfl rfl ⟨(blk_cell BK285.out 0).trans rfl, hx291_0, hx295_0⟩ (fun hHeld => ?_); refine with_tabW spec_l11Length.tab8 spec_l11Length.bits8 (fun HT_ HW_ => ?_)
           generalize wr.drew = w79 at HO_7 BK285 HB hx291_0 hx295_0 hHeld ⊢
           refine pure_ (i := 1) (N := some 36) (v := ?_) (a' := ?_) (ob 19 2) rfl rfl (any_of HT_.out (by kernel_rfl)) (fun _ _ _ h => h) (Or.inl ⟨by rfl, ?_⟩) ?_ ?_; rotate_left; exact ax3; rotate_left; exact ax4
           refine pure_ (i := 2) (N := some 37) (v := ?_) (a' := ?_) (ob 19 6) rfl rfl (any_of HT_.out (by kernel_rfl)) (fun _ _ _ h => h) (Or.inl ⟨by rfl, ?_⟩) ?_ ?_; rotate_left; exact ax3; rotate_left; exact ax4
           refine pure_ (i := 3) (N := some 38) (v := ?_) (a' := ?_) (ob 19 14) rfl rfl (any_of HT_.out (by kernel_rfl)) (fun _ _ _ h => h) (Or.inl ⟨by rfl, ?_⟩) ?_ ?_; rotate_left; exact ax3; rotate_left; exact ax4
           refine pure_ (i := 5) (N := some 40) (v := ?_) (a' := ?_) (ob 19 46) rfl rfl (any_of HT_.out (by kernel_rfl)) (fun _ _ _ h => h) (Or.inl ⟨by rfl, ?_⟩) ?_ ?_; rotate_left; exact ax3; rotate_left; exact ax4
           refine take_ (i := 0) (N := some 35) (v := ?_) (a' := ?_) (ob 19 47) rfl rfl (take_ofW HT_.out HW_.out (by kernel_rfl)) (fun _ _ _ h => h) (Or.inl ⟨by rfl, ?_⟩) hHeld ?_ ?_; rotate_left; exact ax16; rotate_left; exact ax4
           refine take_ (i := 4) (N := some 39) (v := ?_) (a' := ?_) (ob 19 63) rfl rfl (take_ofW HT_.out HW_.out (by kernel_rfl)) (fun _ _ _ h => h) (Or.inl ⟨by rfl, ?_⟩) hHeld ?_ ?_; rotate_left; exact ax16; rotate_left; exact ax4
           refine one_ (i := 6) (N := some 41) (ob 19 127) rfl rfl (one_of HT_.out (by kernel_rfl)) (by decide) (fun K hK => ?_)
           refine goes_ Try.func57 (by kernel_rfl) rfl #[.agg #[.slice A0_0 l0_0.length c0_0], .int .i64 (rd t286 x10_2), .int .i64 a2] (by rfl) rfl rfl ax27 ?_
           with_reducible refine (spec_l11Fatal.calls k2 _ _ l0_0 (rd t286 x10_2) a2 false _ ?side1 ?side2 A21.out).mono ?_
           (case side1 => exact ax28)
           (case side2 => exact ax29)
           rintro e w80 ⟨rfl, hb⟩
           have HS1_ := (hb.cell (World.block_lt_of_cell? _ _ (hHeld.2.1))).trans (hHeld.2.1); have HS2_ := (hb.cell (World.block_lt_of_cell? _ _ (hHeld.2.2))).trans (hHeld.2.2)
           refine ⟨_, rfl, ?_⟩
           have n0_ := Aside0.mk (Kd.R_below ax154 hb)
           have n1_ := Aside0.mk (blk_below (g := gb285) (o := .cells #[.slice A0_0 l0_0.length c0_0] 30 (0, 0)) ax153 hb)
           have n2_ := Aside0.mk (below_step ax152 hb); clear HO_7; clear BK285; clear HB; have HO_7 := n0_; have BK285 := n1_; have HB := n2_; clear n0_ n1_ n2_; (try clear hb); (try clear hb2); (try clear hk); (try clear hi)
           refine hK.out _ _ ⟨(blk_cell BK285.out 0).trans rfl, HS1_, HS2_⟩ (fun hHeld => ?_)
           clear hK K
           refine norm_ (a' := ?_) ?_ ?_
           rotate_left
           ·exact ax20
           refine pure_ (i := 7) (N := some 42) (v := ?_) (a' := ?_) (ob 19 255) rfl rfl (any_of HT_.out (by kernel_rfl)) (fun _ _ _ h => h) (Or.inl ⟨by rfl, ?_⟩) ?_ ?_; rotate_left; exact ax3; rotate_left; exact ax4
           refine pure_ (i := 8) (N := some 43) (v := ?_) (a' := ?_) (ob 19 511) rfl rfl (any_of HT_.out (by kernel_rfl)) (fun _ _ _ h => h) (Or.inl ⟨by rfl, ?_⟩) ?_ ?_; rotate_left; exact ax3; rotate_left; exact ax4
           refine pure_ (i := 10) (N := some 45) (v := ?_) (a' := ?_) (ob 19 1535) rfl rfl (any_of HT_.out (by kernel_rfl)) (fun _ _ _ h => h) (Or.inl ⟨by rfl, ?_⟩) ?_ ?_; rotate_left; exact ax3; rotate_left; exact ax4
           refine pure_ (i := 11) (N := some 46) (v := ?_) (a' := ?_) (ob 19 3583) rfl rfl (any_of HT_.out (by kernel_rfl)) (fun _ _ _ h => h) (Or.inl ⟨by rfl, ?_⟩) ?_ ?_; rotate_left; exact ax3; rotate_left; exact ax4
           refine pure_ (i := 12) (N := some 47) (v := ?_) (a' := ?_) (ob 19 7679) rfl rfl (any_of HT_.out (by kernel_rfl)) (fun _ _ _ h => h) (Or.inl ⟨by rfl, ?_⟩) ?_ ?_; rotate_left; exact ax3; rotate_left; exact ax4
           refine pure_ (i := 14) (N := some 49) (v := ?_) (a' := ?_) (ob 19 24063) rfl rfl (any_of HT_.out (by kernel_rfl)) (fun _ _ _ h => h) (Or.inl ⟨by rfl, ?_⟩) ?_ ?_; rotate_left; exact ax3; rotate_left; exact ax4
           refine take_ (i := 9) (N := some 44) (v := ?_) (a' := ?_) (ob 19 24575) rfl rfl (take_ofW HT_.out HW_.out (by kernel_rfl)) (fun _ _ _ h => h) (Or.inl ⟨by rfl, ?_⟩) hHeld ?_ ?_; rotate_left; exact ax16; rotate_left; exact ax4
           refine take_ (i := 13) (N := some 48) (v := ?_) (a' := ?_) (ob 19 32767) rfl rfl (take_ofW HT_.out HW_.out (by kernel_rfl)) (fun _ _ _ h => h) (Or.inl ⟨by rfl, ?_⟩) hHeld ?_ ?_; rotate_left; exact ax16; rotate_left; exact ax4
           refine one_ (i := 15) (N := some 50) (ob 19 65535) rfl rfl (one_of HT_.out (by kernel_rfl)) (by decide) (fun K hK => ?_)
           refine goes_ Try.func50 (by kernel_rfl) rfl #[.agg #[.slice A0_0 l0_0.length c0_0], .int .i64 (rd t286 x10_2), .int .i64 a2, .bool false] (by rfl) rfl rfl ax27 ?_
           with_reducible refine (spec_l11Wins.calls k2 _ _ l0_0 (rd t286 x10_2) a2 false t296 _ ?side1 ?side2 A41.out).mono ?_
           (case side1 => exact ax28)
           (case side2 => exact ax29)
           rintro e w81 ⟨rfl, hb⟩
           have HS1_ := (hb.cell (World.block_lt_of_cell? _ _ (hHeld.2.1))).trans (hHeld.2.1); have HS2_ := (hb.cell (World.block_lt_of_cell? _ _ (hHeld.2.2))).trans (hHeld.2.2)
           refine ⟨_, rfl, ?_⟩
           have n0_ := Aside0.mk (Kd.R_below ax154 hb)
           have n1_ := Aside0.mk (blk_below (g := gb285) (o := .cells #[.slice A0_0 l0_0.length c0_0] 30 (0, 0)) ax153 hb)
           have n2_ := Aside0.mk (below_step ax152 hb); clear HO_7; clear BK285; clear HB; have HO_7 := n0_; have BK285 := n1_; have HB := n2_; clear n0_ n1_ n2_; (try clear hb); (try clear hb2); (try clear hk); (try clear hi)
           refine hK.out _ _ ⟨(blk_cell BK285.out 0).trans rfl, HS1_, HS2_⟩ (fun hHeld => ?_)
           clear hK K
           refine norm_ (a' := ?_) ?_ ?_
           rotate_left
           ·exact ax22
           refine pure_ (i := 16) (N := some 51) (v := ?_) (a' := ?_) (ob 19 131071) rfl rfl (any_of HT_.out (by kernel_rfl)) (fun _ _ _ h => h) (Or.inl ⟨by rfl, ?_⟩) ?_ ?_; rotate_left; exact ax3; rotate_left; exact ax4
           refine pure_ (i := 17) (N := some 52) (v := ?_) (a' := ?_) (ob 19 262143) rfl rfl (any_of HT_.out (by kernel_rfl)) (fun _ _ _ h => h) (Or.inl ⟨by rfl, ?_⟩) ?_ ?_; rotate_left; exact ax3; rotate_left; exact ax4
           refine pure_ (i := 18) (N := some 11) (v := ?_) (a' := ?_) (ob 19 524287) rfl rfl (any_of HT_.out (by kernel_rfl)) (fun _ _ _ h => h) (Or.inl ⟨by rfl, ?_⟩) ?_ ?_; rotate_left; exact ax3; rotate_left; exact ax4
           refine done_ (done_of HT_.out (by kernel_rfl)) ?_
           try go_wp2
           have n0_ := Aside0.mk (Kd.R_drew HO_7.out); have n1_ := Aside0.mk (blk_drew BK285.out); have n2_ := Aside0.mk (below_drew1 HB.out); clear HO_7; clear BK285; clear HB; have HO_7 := n0_; have BK285 := n1_; have HB := n2_; clear n0_ n1_ n2_
           have p297 : 0 ≤ (x10_2 : Int) := of_decide_eq_true ax38
           have q297 : x10_2 < (t286.length : Int) := of_decide_eq_true ax38
           obtain ⟨ad297, e297, hx297_0⟩ := Kd.at_int (Kd.R_reads' HO_7.out).2.2 x10_2 p297 q297
           obtain rfl : ad291 = ad297 := ax157
           replace p297 := eq_true p297; replace q297 := eq_true q297
           refine start_ (n := 9) (S := fun w' => w'.cell? ⟨gb285, 0, none⟩ = some (.slice A0_0 l0_0.length c0_0) ∧ w'.cell? (ad291.add (x10_2).toNat) = some (.int .i64 (rd t286 x10_2))) (ds := []) (ob 9 0) (by kernel_rfl) rfl rfl ⟨(blk_cell BK285.out 0).trans rfl, hx297_0⟩ (fun hHeld => ?_); refine with_tabW spec_l11Length.tab9 spec_l11Length.bits9 (fun HT_ HW_ => ?_)
           generalize w81.drew = w82 at HO_7 BK285 HB hx297_0 hHeld ⊢
           refine pure_ (i := 1) (N := some 54) (v := ?_) (a' := ?_) (ob 9 2) rfl rfl (any_of HT_.out (by kernel_rfl)) (fun _ _ _ h => h) (Or.inl ⟨by rfl, ?_⟩) ?_ ?_; rotate_left; exact ax3; rotate_left; exact ax4
           refine pure_ (i := 2) (N := some 55) (v := ?_) (a' := ?_) (ob 9 6) rfl rfl (any_of HT_.out (by kernel_rfl)) (fun _ _ _ h => h) (Or.inl ⟨by rfl, ?_⟩) ?_ ?_; rotate_left; exact ax3; rotate_left; exact ax4
           refine pure_ (i := 3) (N := some 56) (v := ?_) (a' := ?_) (ob 9 14) rfl rfl (any_of HT_.out (by kernel_rfl)) (fun _ _ _ h => h) (Or.inl ⟨by rfl, ?_⟩) ?_ ?_; rotate_left; exact ax3; rotate_left; exact ax4
           refine pure_ (i := 5) (N := some 58) (v := ?_) (a' := ?_) (ob 9 46) rfl rfl (any_of HT_.out (by kernel_rfl)) (fun _ _ _ h => h) (Or.inl ⟨by rfl, ?_⟩) ?_ ?_; rotate_left; exact ax3; rotate_left; exact ax4
           refine take_ (i := 0) (N := some 53) (v := ?_) (a' := ?_) (ob 9 47) rfl rfl (take_ofW HT_.out HW_.out (by kernel_rfl)) (fun _ _ _ h => h) (Or.inl ⟨by rfl, ?_⟩) hHeld ?_ ?_; rotate_left; exact ax14; rotate_left; exact ax4
           refine take_ (i := 4) (N := some 57) (v := ?_) (a' := ?_) (ob 9 63) rfl rfl (take_ofW HT_.out HW_.out (by kernel_rfl)) (fun _ _ _ h => h) (Or.inl ⟨by rfl, ?_⟩) hHeld ?_ ?_; rotate_left; exact ax14; rotate_left; exact ax4
           refine one_ (i := 6) (N := some 59) (ob 9 127) rfl rfl (one_of HT_.out (by kernel_rfl)) (by decide) (fun K hK => ?_)
           refine goes_ Try.func66 (by kernel_rfl) rfl #[.agg #[.slice A0_0 l0_0.length c0_0], .int .i64 (rd t286 x10_2), .int .i64 a2] (by rfl) rfl rfl ax27 ?_
           with_reducible refine (ih k2 ax155 _ _ l0_0 (rd t286 x10_2) a2 t298 _ ?side1 ?side2 A42.out).mono ?_
           (case side1 => exact ax28)
           (case side2 => exact ax29)
           rintro e w83 ⟨rfl, hb⟩
           have HS1_ := (hb.cell (World.block_lt_of_cell? _ _ (hHeld.2))).trans (hHeld.2)
           refine ⟨_, rfl, ?_⟩
           have n0_ := Aside0.mk (Kd.R_below ax154 hb)
           have n1_ := Aside0.mk (blk_below (g := gb285) (o := .cells #[.slice A0_0 l0_0.length c0_0] 30 (0, 0)) ax153 hb)
           have n2_ := Aside0.mk (below_step ax152 hb); clear HO_7; clear BK285; clear HB; have HO_7 := n0_; have BK285 := n1_; have HB := n2_; clear n0_ n1_ n2_; (try clear hb); (try clear hb2); (try clear hk); (try clear hi)
           refine hK.out _ _ ⟨(blk_cell BK285.out 0).trans rfl, HS1_⟩ (fun hHeld => ?_)
           clear hK K
           refine norm_ (a' := ?_) ?_ ?_
           rotate_left
           ·exact ax21
           refine pure_ (i := 7) (N := some 60) (v := ?_) (a' := ?_) (ob 9 255) rfl rfl (any_of HT_.out (by kernel_rfl)) (fun _ _ _ h => h) (Or.inl ⟨by rfl, ?_⟩) ?_ ?_; rotate_left; exact ax3; rotate_left; exact ax4
           refine pure_ (i := 8) (N := some 12) (v := ?_) (a' := ?_) (ob 9 511) rfl rfl (any_of HT_.out (by kernel_rfl)) (fun _ _ _ h => h) (Or.inl ⟨by rfl, ?_⟩) ?_ ?_; rotate_left; exact ax3; rotate_left; exact ax4
           refine done_ (done_of HT_.out (by kernel_rfl)) ?_
           try go_wp2
           go_roundg k2
           case measure => have := HJ4.out; have := HK2.out; omega
           case rel => exact ⟨(x9_2), (wrap64 (x10_2 + 1)), ax39, ax39, H', ⟨by have := HJ4.out; have := HK2.out; omega⟩, ⟨by (with_reducible repeat (first | apply Kd.R_alloc | apply Kd.R_drewN | apply Kd.R_drew)); exact HO_7.out⟩, ⟨by (with_reducible repeat (first | refine blk_drewN ?_ _ | refine blk_drew ?_ | refine blk_alloc ?_ _)); exact BK285.out⟩, ⟨by repeat (first | (with_reducible first | exact HB.out | apply below_alloc | apply pw_below_drewN | apply below_drew1 | refine below_set ?_ GE285.out) | exact HB.out)⟩⟩
       ·rw [if_neg c20] at H
        exact absurd H (by simp)
      ·rw [if_neg c19] at H
       have c19b0 : decide (x10_2 < (t286.length : Int)) = false := decide_eq_false c19
       clear c19
       obtain rfl := Option.some.inj H
       obtain ⟨Ao84, co84, eo84⟩ := Kd.R_slice HO_7.out
       subst eo84
       go_wp2
       go_ret
       exact ⟨by first | rfl | (simp [errW_none, errW_some] <;> rfl) | (simp [*, errW_none, errW_some] <;> rfl), by repeat (first | (with_reducible first | exact HB.out | apply below_alloc | apply pw_below_drewN | apply below_drew1 | refine below_set ?_ GE285.out) | exact HB.out)⟩

end Go.Proofs.Ytcbjfflaamlpcaa.X

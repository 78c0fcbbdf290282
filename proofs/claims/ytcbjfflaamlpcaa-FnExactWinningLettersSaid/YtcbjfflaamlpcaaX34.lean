-- By gen.py (the session's own program over the kit's printer): functions of the program, each with its contract. Lean checks it.
import Derived.Test.YtcbjfflaamlpcaaX0
import Derived.Test.YtcbjfflaamlpcaaX7
import Derived.Test.YtcbjfflaamlpcaaX14
import Derived.Test.YtcbjfflaamlpcaaX15
import Derived.Test.YtcbjfflaamlpcaaX17
import Derived.Test.YtcbjfflaamlpcaaX33
namespace Go.Proofs.Ytcbjfflaamlpcaa.X
open Go.RowKit Go.Proofs.YtcbjfflaamlpcaaW.PrintWords Go.Proofs.YtcbjfflaamlpcaaW.PrintLast Go.Proofs.YtcbjfflaamlpcaaW.PrintMore
attribute [local go_sem] max2_int min2_int max_two min_two max_three min_three max_four min_four   -- for this text's walks alone
set_option linter.unusedVariables false
set_option linter.unusedSimpArgs false

/-! ### spec_WinningLetters: function 26 -/
mutual
def spec_WinningLetters.j0 : Nat → Int → Int → Bool → List (S67) → Option (ByteArray × Bool)
 | 0, _, _, _, _ => none
 | k + 1, x1, x2, x22, x578000 => if x22 = true then (some ((⟨#[]⟩ : ByteArray), false)) else ((spec_l2Kids.f k x578000 x1).bind fun t580 => (spec_WinningLetters.l0 k x2 (⟨#[]⟩ : ByteArray) t580 0 x578000))
def spec_WinningLetters.l0 : Nat → Int → ByteArray → List Int → Int → List (S67) → Option (ByteArray × Bool)
 | 0, _, _, _, _, _ => none
 | k + 1, x2, x8, x9, x10, x578000 => if x10 < (x9.length : Int) then (if 0 ≤ x10 then ((spec_l11Fatal.f k x578000 (rd x9 x10) x2).bind fun t584 => (if t584 = true then (spec_WinningLetters.l0 k x2 x8 x9 (wrap64 (x10 + 1)) x578000) else ((spec_l11Wins.f k x578000 (rd x9 x10) x2 false).bind fun t586 => (if t586 = true then (spec_WinningLetters.l0 k x2 x8 x9 (wrap64 (x10 + 1)) x578000) else ((spec_l11Letter.f x578000 (rd x9 x10)).bind fun t588 => (if x8.size + t588.size ≤ 9223372036854775807 then (spec_WinningLetters.l0 k x2 (x8 ++ t588) x9 (wrap64 (x10 + 1)) x578000) else (none))))))) else (none)) else (some (x8, true))
end
def spec_WinningLetters.f (k : Nat) (l0_0 : List (S67)) (a1 : Int) (a2 : Int) : Option (ByteArray × Bool) := (spec_l11Good.f k l0_0 a1 a2).bind fun t578 => (if t578 = true then ((spec_l11Open.f k l0_0 a1 a2).bind fun t579 => (spec_WinningLetters.j0 k a1 a2 (!t579) l0_0)) else (spec_WinningLetters.j0 k a1 a2 true l0_0))
theorem spec_WinningLetters.mono_l : ∀ k, (∀ y0 y1 y2 y3, LeO (spec_WinningLetters.j0 k y0 y1 y2 y3) (spec_WinningLetters.j0 (k + 1) y0 y1 y2 y3)) ∧ (∀ y0 y1 y2 y3 y4, LeO (spec_WinningLetters.l0 k y0 y1 y2 y3 y4) (spec_WinningLetters.l0 (k + 1) y0 y1 y2 y3 y4))
 | 0 => ⟨fun _ _ _ _ r h => by simp [spec_WinningLetters.j0] at h, fun _ _ _ _ _ r h => by simp [spec_WinningLetters.l0] at h⟩
 | k + 1 => by
  obtain ⟨ih0, ih1⟩ := spec_WinningLetters.mono_l k
  refine ⟨?_, ?_⟩
  ·intro y0 y1 y2 y3
   unfold spec_WinningLetters.j0
   repeat' first
   | (with_reducible exact ih0 _ _ _ _)
   | (with_reducible exact ih1 _ _ _ _ _)
   | (with_reducible exact spec_l11Fatal.mono _ _ _ _)
   | (with_reducible exact spec_l11Good.mono _ _ _ _)
   | (with_reducible exact spec_l11Open.mono _ _ _ _)
   | (with_reducible exact spec_l11Wins.mono _ _ _ _ _)
   | (with_reducible exact spec_l2Kids.mono _ _ _)
   | (with_reducible exact LeO.refl _)
   | (with_reducible exact LeO.none _)
   | (with_reducible refine LeO.ite ?_ ?_)
   | (with_reducible refine LeO.bind ?_ (fun _ => ?_))
   | exact ih0 _ _ _ _
   | exact ih1 _ _ _ _ _
   | exact spec_l11Fatal.mono _ _ _ _
   | exact spec_l11Good.mono _ _ _ _
   | exact spec_l11Open.mono _ _ _ _
   | exact spec_l11Wins.mono _ _ _ _ _
   | exact spec_l2Kids.mono _ _ _
   | exact LeO.none _
   | refine LeO.ite ?_ ?_
   | refine LeO.bind ?_ (fun _ => ?_)
  ·intro y0 y1 y2 y3 y4
   unfold spec_WinningLetters.l0
   repeat' first
   | (with_reducible exact ih0 _ _ _ _)
   | (with_reducible exact ih1 _ _ _ _ _)
   | (with_reducible exact spec_l11Fatal.mono _ _ _ _)
   | (with_reducible exact spec_l11Good.mono _ _ _ _)
   | (with_reducible exact spec_l11Open.mono _ _ _ _)
   | (with_reducible exact spec_l11Wins.mono _ _ _ _ _)
   | (with_reducible exact spec_l2Kids.mono _ _ _)
   | (with_reducible exact LeO.refl _)
   | (with_reducible exact LeO.none _)
   | (with_reducible refine LeO.ite ?_ ?_)
   | (with_reducible refine LeO.bind ?_ (fun _ => ?_))
   | exact ih0 _ _ _ _
   | exact ih1 _ _ _ _ _
   | exact spec_l11Fatal.mono _ _ _ _
   | exact spec_l11Good.mono _ _ _ _
   | exact spec_l11Open.mono _ _ _ _
   | exact spec_l11Wins.mono _ _ _ _ _
   | exact spec_l2Kids.mono _ _ _
   | exact LeO.none _
   | refine LeO.ite ?_ ?_
   | refine LeO.bind ?_ (fun _ => ?_)
theorem spec_WinningLetters.mono : ∀ a0 a1 a2 k, LeO (spec_WinningLetters.f k a0 a1 a2) (spec_WinningLetters.f (k + 1) a0 a1 a2) := by
 intro a0 a1 a2 k
 obtain ⟨ih0, ih1⟩ := spec_WinningLetters.mono_l k
 unfold spec_WinningLetters.f
 repeat' first
   | (with_reducible exact ih0 _ _ _ _)
   | (with_reducible exact ih1 _ _ _ _ _)
   | (with_reducible exact spec_l11Fatal.mono _ _ _ _)
   | (with_reducible exact spec_l11Good.mono _ _ _ _)
   | (with_reducible exact spec_l11Open.mono _ _ _ _)
   | (with_reducible exact spec_l11Wins.mono _ _ _ _ _)
   | (with_reducible exact spec_l2Kids.mono _ _ _)
   | (with_reducible exact LeO.refl _)
   | (with_reducible exact LeO.none _)
   | (with_reducible refine LeO.ite ?_ ?_)
   | (with_reducible refine LeO.bind ?_ (fun _ => ?_))
   | exact ih0 _ _ _ _
   | exact ih1 _ _ _ _ _
   | exact spec_l11Fatal.mono _ _ _ _
   | exact spec_l11Good.mono _ _ _ _
   | exact spec_l11Open.mono _ _ _ _
   | exact spec_l11Wins.mono _ _ _ _ _
   | exact spec_l2Kids.mono _ _ _
   | exact LeO.none _
   | refine LeO.ite ?_ ?_
   | refine LeO.bind ?_ (fun _ => ?_)
def spec_WinningLetters.T7 : Bool × List (List Nat × List Nat) := (true, [([], []), ([], []), ([], []), ([1, 2], [1, 2]), ([3], [3]), ([], []), ([0, 4, 5], [0, 4, 5]), ([6], [6]), ([7, 6], [7]), ([8], [8]), ([8], [8]), ([8], [8]), ([10, 11, 8], [8, 10, 11]), ([12, 8], [8, 12]), ([8], [8]), ([9, 13, 14, 8, 8], [8, 9, 13, 14]), ([15, 8], [8, 15]), ([8, 16], [8, 16])])
def spec_WinningLetters.B7 : List Nat := [0, 0, 0, 6, 14, 0, 63, 127, 255, 511, 511, 511, 3583, 7679, 511, 32767, 65535, 131071]
theorem spec_WinningLetters.tab7 : rtab .any (opsOf Try.f26 7) = spec_WinningLetters.T7 := by kernel_rfl
theorem spec_WinningLetters.bits7 : waitsOk spec_WinningLetters.T7.2 spec_WinningLetters.B7 = true := by kernel_rfl
def spec_WinningLetters.T8 : Bool × List (List Nat × List Nat) := (true, [([], []), ([], []), ([], []), ([], []), ([2, 3], [2, 3]), ([4], [4]), ([1, 5], [1, 5]), ([0, 6], [0, 6]), ([7, 6, 0, 1, 2, 3, 4, 5, 6, 7], [0, 7])])
def spec_WinningLetters.B8 : List Nat := [0, 0, 0, 0, 12, 28, 62, 127, 255]
theorem spec_WinningLetters.tab8 : rtab .any (opsOf Try.f26 8) = spec_WinningLetters.T8 := by kernel_rfl
theorem spec_WinningLetters.bits8 : waitsOk spec_WinningLetters.T8.2 spec_WinningLetters.B8 = true := by kernel_rfl
set_option maxHeartbeats 8000000 in
set_option maxRecDepth 100000 in
theorem spec_WinningLetters.calls (k : Nat) (A0_0 : Option Addr) (c0_0 : Nat) (l0_0 : List (S67)) (a1 : Int) (a2 : Int) (r1 : ByteArray) (r2 : Bool) (w : World) (hr0_0 : Kd.C k67 w A0_0 l0_0.length l0_0) (hc0_0 : l0_0.length ≤ c0_0) (h : spec_WinningLetters.f k l0_0 a1 a2 = some (r1, r2)) :
  Calls Try.prog 26 #[.agg #[.slice A0_0 l0_0.length c0_0], .int .i64 a1, .int .i64 a2] w fun e w' => e = .returned (.tuple #[.string r1, .bool r2]) ∧ Below w.heap.size w w' := by
 have hu30 := Try.underlying30; have HR0_0 := Aside0.mk hr0_0; have HC0_0 := Aside0.mk hc0_0; clear hr0_0 hc0_0; have HB := Aside0.mk (Below.refl w.heap.size w)
 have H : ((spec_l11Good.f k l0_0 a1 a2).bind fun t578 => (if t578 = true then ((spec_l11Open.f k l0_0 a1 a2).bind fun t579 => (spec_WinningLetters.j0 k a1 a2 (!t579) l0_0)) else (spec_WinningLetters.j0 k a1 a2 true l0_0))) = some (r1, r2) := h
 clear h; have HC4 := Aside0.mk H; clear H
 go_enter Try.func26, Try.ntmps26
 go_upto_region 1 with (first | ((with_reducible refine gate_dst (N := 3) rfl ?_); refine box_event ?hg (N := 3) ?hd (cs := #[.slice A0_0 l0_0.length c0_0]) (t := 30) ?hr ?_; (case hd => rfl); (case hg => rfl); (case hr => exact ax31); intro gb577 hg w5 hbox hb; have n0_ := Aside0.mk (below_step ax32 hb); have n1_ := Aside0.mk (hbox); have n2_ := Aside0.mk ((ax33 : w.heap.size ≤ gb577)); have n3_ := Aside0.mk ((ax33 : w.heap.size ≤ gb577)); clear HB; have HB := n0_; have BK577 := n1_; have GW577 := n2_; have GE577 := n3_; clear n0_ n1_ n2_ n3_; clear hb hbox hg))
 (try simp only [Act.put, List.setIfInBounds_toArray, List.set_cons_zero, List.set_cons_succ])
 go_cut [22] (fun v22 wc => ∃ (kq : Nat) (x22_3 : Bool), v22 = .bool x22_3 ∧ Aside0 (spec_WinningLetters.j0 kq a1 a2 x22_3 l0_0 = some (r1, r2)) ∧ Aside0 (kq ≤ k) ∧ Aside0 (wc.heap[gb577]? = some (.cells #[(.slice A0_0 l0_0.length c0_0)] 30 (0, 0))) ∧ Aside0 (Below w.heap.size w wc))
 case first =>
  have H := HC4.out; clear HC4; replace H := Option.bind_eq_some_iff.mp H
  obtain ⟨t578, A60, H⟩ := H
  replace H : (if t578 = true then ((spec_l11Open.f k l0_0 a1 a2).bind fun t579 => (spec_WinningLetters.j0 k a1 a2 (!t579) l0_0)) else (spec_WinningLetters.j0 k a1 a2 true l0_0)) = some (r1, r2) := H
  have A6 := Aside0.mk A60; clear A60
  by_cases c7 : t578 = true
  ·subst c7
   have H1 : ((spec_l11Open.f k l0_0 a1 a2).bind fun t579 => (spec_WinningLetters.j0 k a1 a2 (!t579) l0_0)) = some (r1, r2) := by rw [if_pos rfl] at H; exact H
   clear H; have H := H1; clear H1; replace H := Option.bind_eq_some_iff.mp H
   obtain ⟨t579, A80, H⟩ := H
   replace H : (spec_WinningLetters.j0 k a1 a2 (!t579) l0_0) = some (r1, r2) := H
   have A8 := Aside0.mk A80; clear A80
   have H' := Aside0.mk H
   clear H
   have hcz9_0 : w5.cell? ⟨gb577, 0, none⟩ = some (.slice A0_0 l0_0.length c0_0) := (blk_cell BK577.out 0).trans rfl
   have hfz9_0 := blk_frozen BK577.out 0
   go_wp2_with (first | ((with_reducible refine gate_callee (f := 41) rfl ?_); refine goesL_ (some 14) rfl rfl Try.func41 (by kernel_rfl) rfl #[.agg #[.slice A0_0 l0_0.length c0_0], .int .i64 a1, .int .i64 a2] rfl ax34 ?_; (with_reducible refine (spec_l11Good.calls k _ _ l0_0 a1 a2 true _ ?side1 ?side2 A6.out).mono ?_); (case side1 => exact ax35); (case side2 => exact ax36); rintro e w10 ⟨rfl, hb⟩; refine ⟨_, rfl, ?_⟩; have n0_ := Aside0.mk (blk_below (g := gb577) (o := .cells #[.slice A0_0 l0_0.length c0_0] 30 (0, 0)) ax373 hb); have n1_ := Aside0.mk (below_step ax374 hb); clear BK577; clear HB; have BK577 := n0_; have HB := n1_; clear n0_ n1_; (try clear hb); (try clear hb2); (try clear hk); (try clear hi); have hcz11_0 : w10.cell? ⟨gb577, 0, none⟩ = some (.slice A0_0 l0_0.length c0_0) := (blk_cell BK577.out 0).trans rfl; have hfz11_0 := blk_frozen BK577.out 0) | (go_at_call 42; (with_reducible refine (spec_l11Open.calls k _ _ l0_0 a1 a2 t579 _ ?side1 ?side2 A8.out).mono ?_); (case side1 => exact ax35); (case side2 => exact ax36); rintro e w12 ⟨rfl, hb⟩; have n0_ := Aside0.mk (blk_below (g := gb577) (o := .cells #[.slice A0_0 l0_0.length c0_0] 30 (0, 0)) ax373 hb); have n1_ := Aside0.mk (below_step ax374 hb); clear BK577; clear HB; have BK577 := n0_; have HB := n1_; clear n0_ n1_; (try clear hb); (try clear hb2); (try clear hk); (try clear hi)))
   go_meet
   case rel => exact ⟨_, (!t579), ax37, H', ⟨by first | omega | exact Nat.le_refl _⟩, ⟨by (with_reducible repeat (first | refine blk_drewN ?_ _ | refine blk_drew ?_ | refine blk_alloc ?_ _)); exact BK577.out⟩, ⟨by repeat (first | (with_reducible first | exact HB.out | apply below_alloc | apply pw_below_drewN | apply below_drew1 | refine below_set ?_ GE577.out) | exact HB.out)⟩⟩
  ·replace c7 := Bool.eq_false_iff.mpr c7
   subst c7
   have H1 : (spec_WinningLetters.j0 k a1 a2 true l0_0) = some (r1, r2) := by rw [if_neg (show ¬ (false = true) by decide)] at H; exact H
   clear H; have H := H1; clear H1
   have H' := Aside0.mk H
   clear H
   have hcz13_0 : w5.cell? ⟨gb577, 0, none⟩ = some (.slice A0_0 l0_0.length c0_0) := (blk_cell BK577.out 0).trans rfl
   have hfz13_0 := blk_frozen BK577.out 0
   go_wp2_with (first | ((with_reducible refine gate_callee (f := 41) rfl ?_); refine goesL_ (some 14) rfl rfl Try.func41 (by kernel_rfl) rfl #[.agg #[.slice A0_0 l0_0.length c0_0], .int .i64 a1, .int .i64 a2] rfl ax34 ?_; (with_reducible refine (spec_l11Good.calls k _ _ l0_0 a1 a2 false _ ?side1 ?side2 A6.out).mono ?_); (case side1 => exact ax35); (case side2 => exact ax36); rintro e w14 ⟨rfl, hb⟩; refine ⟨_, rfl, ?_⟩; have n0_ := Aside0.mk (blk_below (g := gb577) (o := .cells #[.slice A0_0 l0_0.length c0_0] 30 (0, 0)) ax373 hb); have n1_ := Aside0.mk (below_step ax374 hb); clear BK577; clear HB; have BK577 := n0_; have HB := n1_; clear n0_ n1_; (try clear hb); (try clear hb2); (try clear hk); (try clear hi)))
   go_meet
   case rel => exact ⟨_, (true), ax37, H', ⟨by first | omega | exact Nat.le_refl _⟩, ⟨by (with_reducible repeat (first | refine blk_drewN ?_ _ | refine blk_drew ?_ | refine blk_alloc ?_ _)); exact BK577.out⟩, ⟨by repeat (first | (with_reducible first | exact HB.out | apply below_alloc | apply pw_below_drewN | apply below_drew1 | refine below_set ?_ GE577.out) | exact HB.out)⟩⟩
 case rest =>
  clear HC4
  try clear c2
  try clear p2
  try clear c4
  try clear c7
  try clear hcz11_0
  try clear hcz13_0
  try clear hcz9_0
  try clear hfz11_0
  try clear hfz13_0
  try clear hfz9_0
  obtain ⟨kq, x22_3, rfl, HA, HJ3, BK577, HB⟩ := hcut
  cases kq with
  | zero => exact absurd HA.out (by simp [spec_WinningLetters.j0])
  | succ kj3 =>
   have H := HA.out; clear HA
   simp only [spec_WinningLetters.j0] at H
   by_cases c15 : x22_3 = true
   ·subst c15
    have H1 : (some ((⟨#[]⟩ : ByteArray), false)) = some (r1, r2) := by rw [if_pos rfl] at H; exact H
    clear H; have H := H1; clear H1
    simp only [Option.some.injEq, Prod.mk.injEq] at H
    obtain ⟨rfl, rfl⟩ := H
    go_wp2
    go_ret2
    exact ⟨by first | rfl | (simp [errW_none, errW_some] <;> rfl) | (simp [*, errW_none, errW_some] <;> rfl), by repeat (first | (with_reducible first | exact HB.out | apply below_alloc | apply pw_below_drewN | apply below_drew1 | refine below_set ?_ GE577.out) | exact HB.out)⟩
   ·replace c15 := Bool.eq_false_iff.mpr c15
    subst c15
    have H1 : ((spec_l2Kids.f kj3 l0_0 a1).bind fun t580 => (spec_WinningLetters.l0 kj3 a2 (⟨#[]⟩ : ByteArray) t580 0 l0_0)) = some (r1, r2) := by rw [if_neg (show ¬ (false = true) by decide)] at H; exact H
    clear H; have H := H1; clear H1; replace H := Option.bind_eq_some_iff.mp H
    obtain ⟨t580, A160, H⟩ := H
    replace H : (spec_WinningLetters.l0 kj3 a2 (⟨#[]⟩ : ByteArray) t580 0 l0_0) = some (r1, r2) := H
    have A16 := Aside0.mk A160; clear A160
    have H' := Aside0.mk H
    clear H
    have hcz17_0 : wc.cell? ⟨gb577, 0, none⟩ = some (.slice A0_0 l0_0.length c0_0) := (blk_cell BK577.out 0).trans rfl
    have hfz17_0 := blk_frozen BK577.out 0
    go_wp2_with (first | ((with_reducible refine gate_callee (f := 56) rfl ?_); refine goesL_ (some 25) rfl rfl Try.func56 (by kernel_rfl) rfl #[.agg #[.slice A0_0 l0_0.length c0_0], .int .i64 a1] rfl ax34 ?_; (with_reducible refine (spec_l2Kids.calls kj3 _ _ l0_0 a1 t580 _ ?side1 ?side2 A16.out).mono ?_); (case side1 => exact ax35); (case side2 => exact ax36); rintro e w18 ⟨v581, rfl, ho0, hb⟩; refine ⟨_, rfl, ?_⟩; have n0_ := Aside0.mk (Kd.R_lower ho0 (below_size ax374)); have n1_ := Aside0.mk (blk_below (g := gb577) (o := .cells #[.slice A0_0 l0_0.length c0_0] 30 (0, 0)) ax373 hb); have n2_ := Aside0.mk (below_step ax374 hb); clear BK577; clear HB; have HO582 := n0_; have BK577 := n1_; have HB := n2_; clear n0_ n1_ n2_; (try clear hb); (try clear hb2); (try clear hk); (try clear hi); (try clear ho0)))
    go_loopg [8, 10] kj3 (fun kq v8 v10 w' => ∃ (x8_2 : ByteArray) (x10_2 : Int), v8 = .string x8_2 ∧ v10 = .int .i64 x10_2 ∧ Aside0 (spec_WinningLetters.l0 kq a2 x8_2 t580 x10_2 l0_0 = some (r1, r2)) ∧ Aside0 (kq ≤ kj3) ∧ Aside0 (Kd.R (Kd.int .i64) 3 w' w.heap.size (fun _ => True) v581 t580) ∧ Aside0 (w'.heap[gb577]? = some (.cells #[(.slice A0_0 l0_0.length c0_0)] 30 (0, 0))) ∧ Aside0 (Below w.heap.size w w'))
    case atStart => exact ⟨((⟨#[]⟩ : ByteArray)), (0), ax37, ax37, H', ⟨Nat.le_refl _⟩, ⟨by (with_reducible repeat (first | apply Kd.R_alloc | apply Kd.R_drewN | apply Kd.R_drew)); exact HO582.out⟩, ⟨by (with_reducible repeat (first | refine blk_drewN ?_ _ | refine blk_drew ?_ | refine blk_alloc ?_ _)); exact BK577.out⟩, ⟨by repeat (first | (with_reducible first | exact HB.out | apply below_alloc | apply pw_below_drewN | apply below_drew1 | refine below_set ?_ GE577.out) | exact HB.out)⟩⟩
    case round =>
     clear H'
     try clear c1
     try clear c2
     try clear p2
     try clear c4
     try clear c5
     try clear c7
     try clear c15
     try clear hcz11_0
     try clear hcz13_0
     try clear hcz17_0
     try clear hcz9_0
     try clear hfz11_0
     try clear hfz13_0
     try clear hfz17_0
     try clear hfz9_0
     try clear p2
     obtain ⟨x8_2, x10_2, rfl, rfl, HA, HK2, HO_9, BK577, HB⟩ := hrel
     cases gk with
     | zero => exact absurd HA.out (by simp [spec_WinningLetters.l0])
     | succ k2 =>
      have H := HA.out; clear HA
      simp only [spec_WinningLetters.l0] at H
      by_cases c19 : x10_2 < (t580.length : Int)
      ·rw [if_pos c19] at H
       have c19b0 : decide (x10_2 < (t580.length : Int)) = true := decide_eq_true c19
       clear c19
       by_cases c20 : 0 ≤ x10_2
       ·rw [if_pos c20] at H
        have c20b0 : decide (0 ≤ x10_2) = true := decide_eq_true c20
        clear c20; replace H := Option.bind_eq_some_iff.mp H
        obtain ⟨t584, A210, H⟩ := H
        replace H : (if t584 = true then (spec_WinningLetters.l0 k2 a2 x8_2 t580 (wrap64 (x10_2 + 1)) l0_0) else ((spec_l11Wins.f k2 l0_0 (rd t580 x10_2) a2 false).bind fun t586 => (if t586 = true then (spec_WinningLetters.l0 k2 a2 x8_2 t580 (wrap64 (x10_2 + 1)) l0_0) else ((spec_l11Letter.f l0_0 (rd t580 x10_2)).bind fun t588 => (if x8_2.size + t588.size ≤ 9223372036854775807 then (spec_WinningLetters.l0 k2 a2 (x8_2 ++ t588) t580 (wrap64 (x10_2 + 1)) l0_0) else (none)))))) = some (r1, r2) := H
        have A21 := Aside0.mk A210; clear A210
        by_cases c22 : t584 = true
        ·subst c22
         have H1 : (spec_WinningLetters.l0 k2 a2 x8_2 t580 (wrap64 (x10_2 + 1)) l0_0) = some (r1, r2) := by rw [if_pos rfl] at H; exact H
         clear H; have H := H1; clear H1
         have H' := Aside0.mk H
         clear H
         obtain ⟨Ao23, co23, eo23⟩ := Kd.R_slice HO_9.out
         subst eo23
         try go_wp2
         have n0_ := Aside0.mk (Kd.R_drew HO_9.out); have n1_ := Aside0.mk (blk_drew BK577.out); have n2_ := Aside0.mk (below_drew1 HB.out); clear HO_9; clear BK577; clear HB; have HO_9 := n0_; have BK577 := n1_; have HB := n2_; clear n0_ n1_ n2_
         have p583 : 0 ≤ (x10_2 : Int) := of_decide_eq_true ax38
         have q583 : x10_2 < (t580.length : Int) := of_decide_eq_true ax38
         obtain ⟨ad583, e583, hx583_0⟩ := Kd.at_int (Kd.R_reads' HO_9.out).2.2 x10_2 p583 q583
         cases e583; replace p583 := eq_true p583; replace q583 := eq_true q583
         refine start_ (n := 18) (S := fun w' => w'.cell? ⟨gb577, 0, none⟩ = some (.slice A0_0 l0_0.length c0_0) ∧ w'.cell? (ad583.add (x10_2).toNat) = some (.int .i64 (rd t580 x10_2))) (ds := []) (ob 18 0) (by kernel_rfl) rfl rfl ⟨(blk_cell BK577.out 0).trans rfl, hx583_0⟩ (fun hHeld => ?_); refine with_tabW spec_WinningLetters.tab7 spec_WinningLetters.bits7 (fun HT_ HW_ => ?_)
         generalize wr.drew = w24 at HO_9 BK577 HB hx583_0 hHeld ⊢
         refine pure_ (i := 1) (N := some 33) (v := ?_) (a' := ?_) (ob 18 2) rfl rfl (any_of HT_.out (by kernel_rfl)) (fun _ _ _ h => h) (Or.inl ⟨by rfl, ?_⟩) ?_ ?_; rotate_left; exact ax5; rotate_left; exact ax6
         refine pure_ (i := 2) (N := some 34) (v := ?_) (a' := ?_) (ob 18 6) rfl rfl (any_of HT_.out (by kernel_rfl)) (fun _ _ _ h => h) (Or.inl ⟨by rfl, ?_⟩) ?_ ?_; rotate_left; exact ax5; rotate_left; exact ax6
         refine pure_ (i := 3) (N := some 35) (v := ?_) (a' := ?_) (ob 18 14) rfl rfl (any_of HT_.out (by kernel_rfl)) (fun _ _ _ h => h) (Or.inl ⟨by rfl, ?_⟩) ?_ ?_; rotate_left; exact ax5; rotate_left; exact ax6
         refine pure_ (i := 5) (N := some 37) (v := ?_) (a' := ?_) (ob 18 46) rfl rfl (any_of HT_.out (by kernel_rfl)) (fun _ _ _ h => h) (Or.inl ⟨by rfl, ?_⟩) ?_ ?_; rotate_left; exact ax5; rotate_left; exact ax6
         refine take_ (i := 0) (N := some 32) (v := ?_) (a' := ?_) (ob 18 47) rfl rfl (take_ofW HT_.out HW_.out (by kernel_rfl)) (fun _ _ _ h => h) (Or.inl ⟨by rfl, ?_⟩) hHeld ?_ ?_; rotate_left; exact ax17; rotate_left; exact ax6
         refine take_ (i := 4) (N := some 36) (v := ?_) (a' := ?_) (ob 18 63) rfl rfl (take_ofW HT_.out HW_.out (by kernel_rfl)) (fun _ _ _ h => h) (Or.inl ⟨by rfl, ?_⟩) hHeld ?_ ?_; rotate_left; exact ax17; rotate_left; exact ax6
         refine one_ (i := 6) (N := some 38) (ob 18 127) rfl rfl (one_of HT_.out (by kernel_rfl)) (by decide) (fun K hK => ?_)
         refine goes_ Try.func57 (by kernel_rfl) rfl #[.agg #[.slice A0_0 l0_0.length c0_0], .int .i64 (rd t580 x10_2), .int .i64 a2] (by rfl) rfl rfl ax34 ?_
         with_reducible refine (spec_l11Fatal.calls k2 _ _ l0_0 (rd t580 x10_2) a2 true _ ?side1 ?side2 A21.out).mono ?_
         (case side1 => exact ax35)
         (case side2 => exact ax36)
         rintro e w25 ⟨rfl, hb⟩
         have HS1_ := (hb.cell (World.block_lt_of_cell? _ _ (hHeld.2))).trans (hHeld.2)
         refine ⟨_, rfl, ?_⟩
         have n0_ := Aside0.mk (Kd.R_below ax222 hb)
         have n1_ := Aside0.mk (blk_below (g := gb577) (o := .cells #[.slice A0_0 l0_0.length c0_0] 30 (0, 0)) ax373 hb)
         have n2_ := Aside0.mk (below_step ax374 hb); clear HO_9; clear BK577; clear HB; have HO_9 := n0_; have BK577 := n1_; have HB := n2_; clear n0_ n1_ n2_; (try clear hb); (try clear hb2); (try clear hk); (try clear hi)
         refine hK.out _ _ ⟨(blk_cell BK577.out 0).trans rfl, HS1_⟩ (fun hHeld => ?_)
         clear hK K
         refine norm_ (a' := ?_) ?_ ?_
         rotate_left
         ·exact ax8
         refine pure_ (i := 7) (N := some 39) (v := ?_) (a' := ?_) (ob 18 255) rfl rfl (any_of HT_.out (by kernel_rfl)) (fun _ _ _ h => h) (Or.inl ⟨by rfl, ?_⟩) ?_ ?_; rotate_left; exact ax5; rotate_left; exact ax6
         refine pure_ (i := 8) (N := some 40) (v := ?_) (a' := ?_) (ob 18 511) rfl rfl (any_of HT_.out (by kernel_rfl)) (fun _ _ _ h => h) (Or.inl ⟨by rfl, ?_⟩) ?_ ?_; rotate_left; exact ax5; rotate_left; exact ax6
         refine pure_ (i := 9) (N := some 41) (v := undef) (a' := ?_) (ob 18 1023) rfl rfl (any_of HT_.out (by kernel_rfl)) (fun _ _ _ h => h) (Or.inr ⟨by rfl, rfl⟩) ?_ ?_
         rotate_left
         ·exact ax6
         refine pure_ (i := 10) (N := some 42) (v := undef) (a' := ?_) (ob 18 2047) rfl rfl (any_of HT_.out (by kernel_rfl)) (fun _ _ _ h => h) (Or.inr ⟨by rfl, rfl⟩) ?_ ?_
         rotate_left
         ·exact ax6
         refine pure_ (i := 11) (N := some 43) (v := undef) (a' := ?_) (ob 18 4095) rfl rfl (any_of HT_.out (by kernel_rfl)) (fun _ _ _ h => h) (Or.inr ⟨by rfl, rfl⟩) ?_ ?_
         rotate_left
         ·exact ax6
         refine pure_ (i := 12) (N := some 44) (v := undef) (a' := ?_) (ob 18 8191) rfl rfl (any_of HT_.out (by kernel_rfl)) (fun _ _ _ h => h) (Or.inr ⟨by rfl, rfl⟩) ?_ ?_
         rotate_left
         ·exact ax6
         refine pure_ (i := 13) (N := some 45) (v := undef) (a' := ?_) (ob 18 16383) rfl rfl (any_of HT_.out (by kernel_rfl)) (fun _ _ _ h => h) (Or.inr ⟨by rfl, rfl⟩) ?_ ?_
         rotate_left
         ·exact ax6
         refine pure_ (i := 14) (N := some 46) (v := undef) (a' := ?_) (ob 18 32767) rfl rfl (any_of HT_.out (by kernel_rfl)) (fun _ _ _ h => h) (Or.inr ⟨by rfl, rfl⟩) ?_ ?_
         rotate_left
         ·exact ax6
         refine pure_ (i := 15) (N := some 47) (v := undef) (a' := ?_) (ob 18 65535) rfl rfl (any_of HT_.out (by kernel_rfl)) (fun _ _ _ h => h) (Or.inr ⟨by rfl, rfl⟩) ?_ ?_
         rotate_left
         ·exact ax6
         refine pure_ (i := 16) (N := some 48) (v := undef) (a' := ?_) (ob 18 131071) rfl rfl (any_of HT_.out (by kernel_rfl)) (fun _ _ _ h => h) (Or.inr ⟨by rfl, rfl⟩) ?_ ?_
         rotate_left
         ·exact ax6
         refine pure_ (i := 17) (N := some 49) (v := ?_) (a' := ?_) (ob 18 262143) rfl rfl (any_of HT_.out (by kernel_rfl)) (fun _ _ _ h => h) (Or.inl ⟨by rfl, ?_⟩) ?_ ?_; rotate_left; exact ax5; rotate_left; exact ax6
         refine done_ (done_of HT_.out (by kernel_rfl)) ?_
         try go_wp2
         go_roundg k2
         case measure => have := HJ3.out; have := HK2.out; omega
         case rel => exact ⟨(x8_2), (wrap64 (x10_2 + 1)), ax37, ax37, H', ⟨by have := HJ3.out; have := HK2.out; omega⟩, ⟨by (with_reducible repeat (first | apply Kd.R_alloc | apply Kd.R_drewN | apply Kd.R_drew)); exact HO_9.out⟩, ⟨by (with_reducible repeat (first | refine blk_drewN ?_ _ | refine blk_drew ?_ | refine blk_alloc ?_ _)); exact BK577.out⟩, ⟨by repeat (first | (with_reducible first | exact HB.out | apply below_alloc | apply pw_below_drewN | apply below_drew1 | refine below_set ?_ GE577.out) | exact HB.out)⟩⟩
        ·replace c22 := Bool.eq_false_iff.mpr c22
         subst c22
         have H1 : ((spec_l11Wins.f k2 l0_0 (rd t580 x10_2) a2 false).bind fun t586 => (if t586 = true then (spec_WinningLetters.l0 k2 a2 x8_2 t580 (wrap64 (x10_2 + 1)) l0_0) else ((spec_l11Letter.f l0_0 (rd t580 x10_2)).bind fun t588 => (if x8_2.size + t588.size ≤ 9223372036854775807 then (spec_WinningLetters.l0 k2 a2 (x8_2 ++ t588) t580 (wrap64 (x10_2 + 1)) l0_0) else (none))))) = some (r1, r2) := by rw [if_neg (show ¬ (false = true) by decide)] at H; exact H
         clear H; have H := H1; clear H1; replace H := Option.bind_eq_some_iff.mp H
         obtain ⟨t586, A260, H⟩ := H
         replace H : (if t586 = true then (spec_WinningLetters.l0 k2 a2 x8_2 t580 (wrap64 (x10_2 + 1)) l0_0) else ((spec_l11Letter.f l0_0 (rd t580 x10_2)).bind fun t588 => (if x8_2.size + t588.size ≤ 9223372036854775807 then (spec_WinningLetters.l0 k2 a2 (x8_2 ++ t588) t580 (wrap64 (x10_2 + 1)) l0_0) else (none)))) = some (r1, r2) := H
         have A26 := Aside0.mk A260; clear A260
         by_cases c27 : t586 = true
         ·subst c27
          have H1 : (spec_WinningLetters.l0 k2 a2 x8_2 t580 (wrap64 (x10_2 + 1)) l0_0) = some (r1, r2) := by rw [if_pos rfl] at H; exact H
          clear H; have H := H1; clear H1
          have H' := Aside0.mk H
          clear H
          obtain ⟨Ao28, co28, eo28⟩ := Kd.R_slice HO_9.out
          subst eo28
          try go_wp2
          have n0_ := Aside0.mk (Kd.R_drew HO_9.out); have n1_ := Aside0.mk (blk_drew BK577.out); have n2_ := Aside0.mk (below_drew1 HB.out); clear HO_9; clear BK577; clear HB; have HO_9 := n0_; have BK577 := n1_; have HB := n2_; clear n0_ n1_ n2_
          have p583 : 0 ≤ (x10_2 : Int) := of_decide_eq_true ax38
          have q583 : x10_2 < (t580.length : Int) := of_decide_eq_true ax38
          obtain ⟨ad583, e583, hx583_0⟩ := Kd.at_int (Kd.R_reads' HO_9.out).2.2 x10_2 p583 q583
          cases e583; replace p583 := eq_true p583; replace q583 := eq_true q583
          have p585 : 0 ≤ (x10_2 : Int) := of_decide_eq_true ax38
          have q585 : x10_2 < (t580.length : Int) := of_decide_eq_true ax38
          obtain ⟨ad585, e585, hx585_0⟩ := Kd.at_int (Kd.R_reads' HO_9.out).2.2 x10_2 p585 q585
          obtain rfl : ad583 = ad585 := (by injection e585)
          replace p585 := eq_true p585; replace q585 := eq_true q585
          refine start_ (n := 18) (S := fun w' => w'.cell? ⟨gb577, 0, none⟩ = some (.slice A0_0 l0_0.length c0_0) ∧ w'.cell? (ad583.add (x10_2).toNat) = some (.int .i64 (rd t580 x10_2)) ∧ w'.cell? (ad583.add (x10_2).toNat) = some (.int .i64 (rd t580 x10_2))) (ds := []) (ob 18 0) (by kernel_rfl) rfl rfl ⟨(blk_cell BK577.out 0).trans rfl, hx583_0, hx585_0⟩ (fun hHeld => ?_); refine with_tabW spec_WinningLetters.tab7 spec_WinningLetters.bits7 (fun HT_ HW_ => ?_)
          generalize wr.drew = w29 at HO_9 BK577 HB hx583_0 hx585_0 hHeld ⊢
          refine pure_ (i := 1) (N := some 33) (v := ?_) (a' := ?_) (ob 18 2) rfl rfl (any_of HT_.out (by kernel_rfl)) (fun _ _ _ h => h) (Or.inl ⟨by rfl, ?_⟩) ?_ ?_; rotate_left; exact ax5; rotate_left; exact ax6
          refine pure_ (i := 2) (N := some 34) (v := ?_) (a' := ?_) (ob 18 6) rfl rfl (any_of HT_.out (by kernel_rfl)) (fun _ _ _ h => h) (Or.inl ⟨by rfl, ?_⟩) ?_ ?_; rotate_left; exact ax5; rotate_left; exact ax6
          refine pure_ (i := 3) (N := some 35) (v := ?_) (a' := ?_) (ob 18 14) rfl rfl (any_of HT_.out (by kernel_rfl)) (fun _ _ _ h => h) (Or.inl ⟨by rfl, ?_⟩) ?_ ?_; rotate_left; exact ax5; rotate_left; exact ax6
          refine pure_ (i := 5) (N := some 37) (v := ?_) (a' := ?_) (ob 18 46) rfl rfl (any_of HT_.out (by kernel_rfl)) (fun _ _ _ h => h) (Or.inl ⟨by rfl, ?_⟩) ?_ ?_; rotate_left; exact ax5; rotate_left; exact ax6
          refine take_ (i := 0) (N := some 32) (v := ?_) (a' := ?_) (ob 18 47) rfl rfl (take_ofW HT_.out HW_.out (by kernel_rfl)) (fun _ _ _ h => h) (Or.inl ⟨by rfl, ?_⟩) hHeld ?_ ?_; rotate_left; exact ax21; rotate_left; exact ax6
          refine take_ (i := 4) (N := some 36) (v := ?_) (a' := ?_) (ob 18 63) rfl rfl (take_ofW HT_.out HW_.out (by kernel_rfl)) (fun _ _ _ h => h) (Or.inl ⟨by rfl, ?_⟩) hHeld ?_ ?_; rotate_left; exact ax21; rotate_left; exact ax6
          refine one_ (i := 6) (N := some 38) (ob 18 127) rfl rfl (one_of HT_.out (by kernel_rfl)) (by decide) (fun K hK => ?_)
          refine goes_ Try.func57 (by kernel_rfl) rfl #[.agg #[.slice A0_0 l0_0.length c0_0], .int .i64 (rd t580 x10_2), .int .i64 a2] (by rfl) rfl rfl ax34 ?_
          with_reducible refine (spec_l11Fatal.calls k2 _ _ l0_0 (rd t580 x10_2) a2 false _ ?side1 ?side2 A21.out).mono ?_
          (case side1 => exact ax35)
          (case side2 => exact ax36)
          rintro e w30 ⟨rfl, hb⟩
          have HS1_ := (hb.cell (World.block_lt_of_cell? _ _ (hHeld.2.1))).trans (hHeld.2.1); have HS2_ := (hb.cell (World.block_lt_of_cell? _ _ (hHeld.2.2))).trans (hHeld.2.2)
          refine ⟨_, rfl, ?_⟩
          have n0_ := Aside0.mk (Kd.R_below ax222 hb)
          have n1_ := Aside0.mk (blk_below (g := gb577) (o := .cells #[.slice A0_0 l0_0.length c0_0] 30 (0, 0)) ax373 hb)
          have n2_ := Aside0.mk (below_step ax374 hb); clear HO_9; clear BK577; clear HB; have HO_9 := n0_; have BK577 := n1_; have HB := n2_; clear n0_ n1_ n2_; (try clear hb); (try clear hb2); (try clear hk); (try clear hi)
          refine hK.out _ _ ⟨(blk_cell BK577.out 0).trans rfl, HS1_, HS2_⟩ (fun hHeld => ?_)
          clear hK K
          refine norm_ (a' := ?_) ?_ ?_
          rotate_left
          ·exact ax8
          refine pure_ (i := 7) (N := some 39) (v := ?_) (a' := ?_) (ob 18 255) rfl rfl (any_of HT_.out (by kernel_rfl)) (fun _ _ _ h => h) (Or.inl ⟨by rfl, ?_⟩) ?_ ?_; rotate_left; exact ax5; rotate_left; exact ax6
          refine pure_ (i := 8) (N := some 40) (v := ?_) (a' := ?_) (ob 18 511) rfl rfl (any_of HT_.out (by kernel_rfl)) (fun _ _ _ h => h) (Or.inl ⟨by rfl, ?_⟩) ?_ ?_; rotate_left; exact ax5; rotate_left; exact ax6
          refine pure_ (i := 10) (N := some 42) (v := ?_) (a' := ?_) (ob 18 1535) rfl rfl (any_of HT_.out (by kernel_rfl)) (fun _ _ _ h => h) (Or.inl ⟨by rfl, ?_⟩) ?_ ?_; rotate_left; exact ax5; rotate_left; exact ax6
          refine pure_ (i := 11) (N := some 43) (v := ?_) (a' := ?_) (ob 18 3583) rfl rfl (any_of HT_.out (by kernel_rfl)) (fun _ _ _ h => h) (Or.inl ⟨by rfl, ?_⟩) ?_ ?_; rotate_left; exact ax5; rotate_left; exact ax6
          refine pure_ (i := 12) (N := some 44) (v := ?_) (a' := ?_) (ob 18 7679) rfl rfl (any_of HT_.out (by kernel_rfl)) (fun _ _ _ h => h) (Or.inl ⟨by rfl, ?_⟩) ?_ ?_; rotate_left; exact ax5; rotate_left; exact ax6
          refine pure_ (i := 14) (N := some 46) (v := ?_) (a' := ?_) (ob 18 24063) rfl rfl (any_of HT_.out (by kernel_rfl)) (fun _ _ _ h => h) (Or.inl ⟨by rfl, ?_⟩) ?_ ?_; rotate_left; exact ax5; rotate_left; exact ax6
          refine take_ (i := 9) (N := some 41) (v := ?_) (a' := ?_) (ob 18 24575) rfl rfl (take_ofW HT_.out HW_.out (by kernel_rfl)) (fun _ _ _ h => h) (Or.inl ⟨by rfl, ?_⟩) hHeld ?_ ?_; rotate_left; exact ax21; rotate_left; exact ax6
          refine take_ (i := 13) (N := some 45) (v := ?_) (a' := ?_) (ob 18 32767) rfl rfl (take_ofW HT_.out HW_.out (by kernel_rfl)) (fun _ _ _ h => h) (Or.inl ⟨by rfl, ?_⟩) hHeld ?_ ?_; rotate_left; exact ax21; rotate_left; exact ax6
          refine one_ (i := 15) (N := some 47) (ob 18 65535) rfl rfl (one_of HT_.out (by kernel_rfl)) (by decide) (fun K hK => ?_)
          refine goes_ Try.func50 (by kernel_rfl) rfl #[.agg #[.slice A0_0 l0_0.length c0_0], .int .i64 (rd t580 x10_2), .int .i64 a2, .bool false] (by rfl) rfl rfl ax34 ?_
          with_reducible refine (spec_l11Wins.calls k2 _ _ l0_0 (rd t580 x10_2) a2 false true _ ?side1 ?side2 A26.out).mono ?_
          (case side1 => exact ax35)
          (case side2 => exact ax36)
          rintro e w31 ⟨rfl, hb⟩
          have HS1_ := (hb.cell (World.block_lt_of_cell? _ _ (hHeld.2.1))).trans (hHeld.2.1); have HS2_ := (hb.cell (World.block_lt_of_cell? _ _ (hHeld.2.2))).trans (hHeld.2.2)
          refine ⟨_, rfl, ?_⟩
          have n0_ := Aside0.mk (Kd.R_below ax222 hb)
          have n1_ := Aside0.mk (blk_below (g := gb577) (o := .cells #[.slice A0_0 l0_0.length c0_0] 30 (0, 0)) ax373 hb)
          have n2_ := Aside0.mk (below_step ax374 hb); clear HO_9; clear BK577; clear HB; have HO_9 := n0_; have BK577 := n1_; have HB := n2_; clear n0_ n1_ n2_; (try clear hb); (try clear hb2); (try clear hk); (try clear hi)
          refine hK.out _ _ ⟨(blk_cell BK577.out 0).trans rfl, HS1_, HS2_⟩ (fun hHeld => ?_)
          clear hK K
          refine norm_ (a' := ?_) ?_ ?_
          rotate_left
          ·exact ax23
          refine pure_ (i := 16) (N := some 48) (v := ?_) (a' := ?_) (ob 18 131071) rfl rfl (any_of HT_.out (by kernel_rfl)) (fun _ _ _ h => h) (Or.inl ⟨by rfl, ?_⟩) ?_ ?_; rotate_left; exact ax5; rotate_left; exact ax6
          refine pure_ (i := 17) (N := some 49) (v := ?_) (a' := ?_) (ob 18 262143) rfl rfl (any_of HT_.out (by kernel_rfl)) (fun _ _ _ h => h) (Or.inl ⟨by rfl, ?_⟩) ?_ ?_; rotate_left; exact ax5; rotate_left; exact ax6
          refine done_ (done_of HT_.out (by kernel_rfl)) ?_
          try go_wp2
          go_roundg k2
          case measure => have := HJ3.out; have := HK2.out; omega
          case rel => exact ⟨(x8_2), (wrap64 (x10_2 + 1)), ax37, ax37, H', ⟨by have := HJ3.out; have := HK2.out; omega⟩, ⟨by (with_reducible repeat (first | apply Kd.R_alloc | apply Kd.R_drewN | apply Kd.R_drew)); exact HO_9.out⟩, ⟨by (with_reducible repeat (first | refine blk_drewN ?_ _ | refine blk_drew ?_ | refine blk_alloc ?_ _)); exact BK577.out⟩, ⟨by repeat (first | (with_reducible first | exact HB.out | apply below_alloc | apply pw_below_drewN | apply below_drew1 | refine below_set ?_ GE577.out) | exact HB.out)⟩⟩
         ·replace c27 := Bool.eq_false_iff.mpr c27
          subst c27
          have H1 : ((spec_l11Letter.f l0_0 (rd t580 x10_2)).bind fun t588 => (if x8_2.size + t588.size ≤ 9223372036854775807 then (spec_WinningLetters.l0 k2 a2 (x8_2 ++ t588) t580 (wrap64 (x10_2 + 1)) l0_0) else (none))) = some (r1, r2) := by rw [if_neg (show ¬ (false = true) by decide)] at H; exact H
          clear H; have H := H1; clear H1; replace H := Option.bind_eq_some_iff.mp H
          obtain ⟨t588, A320, H⟩ := H
          replace H : (if x8_2.size + t588.size ≤ 9223372036854775807 then (spec_WinningLetters.l0 k2 a2 (x8_2 ++ t588) t580 (wrap64 (x10_2 + 1)) l0_0) else (none)) = some (r1, r2) := H
          have A32 := Aside0.mk A320; clear A320
          by_cases c33 : x8_2.size + t588.size ≤ 9223372036854775807
          ·rw [if_pos c33] at H
           have c33b0 := eq_true c33
           have c33b1 : decide (x8_2.size + t588.size ≤ 9223372036854775807) = true := decide_eq_true c33
           try have c33b2 : (9223372036854775807 < x8_2.size + t588.size) = False := eq_false (Nat.not_lt.2 c33)
           clear c33
           obtain ⟨js34, hjs34⟩ : ∃ j_ : ByteArray, (x8_2 ++ t588) = j_ := ⟨_, rfl⟩
           replace H : (spec_WinningLetters.l0 k2 a2 js34 t580 (wrap64 (x10_2 + 1)) l0_0) = some (r1, r2) := by first | (rw [hjs34] at H; exact H) | (simp only [hjs34] at H ⊢; exact H)
           have H' := Aside0.mk H
           clear H
           obtain ⟨Ao35, co35, eo35⟩ := Kd.R_slice HO_9.out
           subst eo35
           try go_wp2
           have n0_ := Aside0.mk (Kd.R_drew HO_9.out); have n1_ := Aside0.mk (blk_drew BK577.out); have n2_ := Aside0.mk (below_drew1 HB.out); clear HO_9; clear BK577; clear HB; have HO_9 := n0_; have BK577 := n1_; have HB := n2_; clear n0_ n1_ n2_
           have p583 : 0 ≤ (x10_2 : Int) := of_decide_eq_true ax38
           have q583 : x10_2 < (t580.length : Int) := of_decide_eq_true ax38
           obtain ⟨ad583, e583, hx583_0⟩ := Kd.at_int (Kd.R_reads' HO_9.out).2.2 x10_2 p583 q583
           cases e583; replace p583 := eq_true p583; replace q583 := eq_true q583
           have p585 : 0 ≤ (x10_2 : Int) := of_decide_eq_true ax38
           have q585 : x10_2 < (t580.length : Int) := of_decide_eq_true ax38
           obtain ⟨ad585, e585, hx585_0⟩ := Kd.at_int (Kd.R_reads' HO_9.out).2.2 x10_2 p585 q585
           obtain rfl : ad583 = ad585 := (by injection e585)
           replace p585 := eq_true p585; replace q585 := eq_true q585
           refine start_ (n := 18) (S := fun w' => w'.cell? ⟨gb577, 0, none⟩ = some (.slice A0_0 l0_0.length c0_0) ∧ w'.cell? (ad583.add (x10_2).toNat) = some (.int .i64 (rd t580 x10_2)) ∧ w'.cell? (ad583.add (x10_2).toNat) = some (.int .i64 (rd t580 x10_2))) (ds := []) (ob 18 0) (by kernel_rfl) rfl rfl ⟨(blk_cell BK577.out 0).trans rfl, hx583_0, hx585_0⟩ (fun hHeld => ?_); refine with_tabW spec_WinningLetters.tab7 spec_WinningLetters.bits7 (fun HT_ HW_ => ?_)
           generalize wr.drew = w36 at HO_9 BK577 HB hx583_0 hx585_0 hHeld ⊢
           refine pure_ (i := 1) (N := some 33) (v := ?_) (a' := ?_) (ob 18 2) rfl rfl (any_of HT_.out (by kernel_rfl)) (fun _ _ _ h => h) (Or.inl ⟨by rfl, ?_⟩) ?_ ?_; rotate_left; exact ax5; rotate_left; exact ax6
           refine pure_ (i := 2) (N := some 34) (v := ?_) (a' := ?_) (ob 18 6) rfl rfl (any_of HT_.out (by kernel_rfl)) (fun _ _ _ h => h) (Or.inl ⟨by rfl, ?_⟩) ?_ ?_; rotate_left; exact ax5; rotate_left; exact ax6
           refine pure_ (i := 3) (N := some 35) (v := ?_) (a' := ?_) (ob 18 14) rfl rfl (any_of HT_.out (by kernel_rfl)) (fun _ _ _ h => h) (Or.inl ⟨by rfl, ?_⟩) ?_ ?_; rotate_left; exact ax5; rotate_left; exact ax6
           refine pure_ (i := 5) (N := some 37) (v := ?_) (a' := ?_) (ob 18 46) rfl rfl (any_of HT_.out (by kernel_rfl)) (fun _ _ _ h => h) (Or.inl ⟨by rfl, ?_⟩) ?_ ?_; rotate_left; exact ax5; rotate_left; exact ax6
           refine take_ (i := 0) (N := some 32) (v := ?_) (a' := ?_) (ob 18 47) rfl rfl (take_ofW HT_.out HW_.out (by kernel_rfl)) (fun _ _ _ h => h) (Or.inl ⟨by rfl, ?_⟩) hHeld ?_ ?_; rotate_left; exact ax21; rotate_left; exact ax6
           refine take_ (i := 4) (N := some 36) (v := ?_) (a' := ?_) (ob 18 63) rfl rfl (take_ofW HT_.out HW_.out (by kernel_rfl)) (fun _ _ _ h => h) (Or.inl ⟨by rfl, ?_⟩) hHeld ?_ ?_; rotate_left; exact ax21; rotate_left; exact ax6
           refine one_ (i := 6) (N := some 38) (ob 18 127) rfl rfl (one_of HT_.out (by kernel_rfl)) (by decide) (fun K hK => ?_)
           refine goes_ Try.func57 (by kernel_rfl) rfl #[.agg #[.slice A0_0 l0_0.length c0_0], .int .i64 (rd t580 x10_2), .int .i64 a2] (by rfl) rfl rfl ax34 ?_
           with_reducible refine (spec_l11Fatal.calls k2 _ _ l0_0 (rd t580 x10_2) a2 false _ ?side1 ?side2 A21.out).mono ?_
           (case side1 => exact ax35)
           (case side2 => exact ax36)
           rintro e w37 ⟨rfl, hb⟩
           have HS1_ := (hb.cell (World.block_lt_of_cell? _ _ (hHeld.2.1))).trans (hHeld.2.1); have HS2_ := (hb.cell (World.block_lt_of_cell? _ _ (hHeld.2.2))).trans (hHeld.2.2)
           refine ⟨_, rfl, ?_⟩
           have n0_ := Aside0.mk (Kd.R_below ax222 hb)
           have n1_ := Aside0.mk (blk_below (g := gb577) (o := .cells #[.slice A0_0 l0_0.length c0_0] 30 (0, 0)) ax373 hb)
           have n2_ := Aside0.mk (below_step ax374 hb); clear HO_9; clear BK577; clear HB; have HO_9 := n0_; have BK577 := n1_; have HB := n2_; clear n0_ n1_ n2_; (try clear hb); (try clear hb2); (try clear hk); (try clear hi)
           refine hK.out _ _ ⟨(blk_cell BK577.out 0).trans rfl, HS1_, HS2_⟩ (fun hHeld => ?_)
           clear hK K
           refine norm_ (a' := ?_) ?_ ?_
           rotate_left
           ·exact ax8
           refine pure_ (i := 7) (N := some 39) (v := ?_) (a' := ?_) (ob 18 255) rfl rfl (any_of HT_.out (by kernel_rfl)) (fun _ _ _ h => h) (Or.inl ⟨by rfl, ?_⟩) ?_ ?_; rotate_left; exact ax5; rotate_left; exact ax6
           refine pure_ (i := 8) (N := some 40) (v := ?_) (a' := ?_) (ob 18 511) rfl rfl (any_of HT_.out (by kernel_rfl)) (fun _ _ _ h => h) (Or.inl ⟨by rfl, ?_⟩) ?_ ?_; rotate_left; exact ax5; rotate_left; exact ax6
           refine pure_ (i := 10) (N := some 42) (v := ?_) (a' := ?_) (ob 18 1535) rfl rfl (any_of HT_.out (by kernel_rfl)) (fun _ _ _ h => h) (Or.inl ⟨by rfl, ?_⟩) ?_ ?_; rotate_left; exact ax5; rotate_left; exact ax6
           refine pure_ (i := 11) (N := some 43) (v := ?_) (a' := ?_) (ob 18 3583) rfl rfl (any_of HT_.out (by kernel_rfl)) (fun _ _ _ h => h) (Or.inl ⟨by rfl, ?_⟩) ?_ ?_; rotate_left; exact ax5; rotate_left; exact ax6
           refine pure_ (i := 12) (N := some 44) (v := ?_) (a' := ?_) (ob 18 7679) rfl rfl (any_of HT_.out (by kernel_rfl)) (fun _ _ _ h => h) (Or.inl ⟨by rfl, ?_⟩) ?_ ?_; rotate_left; exact ax5; rotate_left; exact ax6
           refine pure_ (i := 14) (N := some 46) (v := ?_) (a' := ?_) (ob 18 24063) rfl rfl (any_of HT_.out (by kernel_rfl)) (fun _ _ _ h => h) (Or.inl ⟨by rfl, ?_⟩) ?_ ?_; rotate_left; exact ax5; rotate_left; exact ax6
           refine take_ (i := 9) (N := some 41) (v := ?_) (a' := ?_) (ob 18 24575) rfl rfl (take_ofW HT_.out HW_.out (by kernel_rfl)) (fun _ _ _ h => h) (Or.inl ⟨by rfl, ?_⟩) hHeld ?_ ?_; rotate_left; exact ax21; rotate_left; exact ax6
           refine take_ (i := 13) (N := some 45) (v := ?_) (a' := ?_) (ob 18 32767) rfl rfl (take_ofW HT_.out HW_.out (by kernel_rfl)) (fun _ _ _ h => h) (Or.inl ⟨by rfl, ?_⟩) hHeld ?_ ?_; rotate_left; exact ax21; rotate_left; exact ax6
           refine one_ (i := 15) (N := some 47) (ob 18 65535) rfl rfl (one_of HT_.out (by kernel_rfl)) (by decide) (fun K hK => ?_)
           refine goes_ Try.func50 (by kernel_rfl) rfl #[.agg #[.slice A0_0 l0_0.length c0_0], .int .i64 (rd t580 x10_2), .int .i64 a2, .bool false] (by rfl) rfl rfl ax34 ?_
           with_reducible refine (spec_l11Wins.calls k2 _ _ l0_0 (rd t580 x10_2) a2 false false _ ?side1 ?side2 A26.out).mono ?_
           (case side1 => exact ax35)
           (case side2 => exact ax36)
           rintro e w38 ⟨rfl, hb⟩
           have HS1_ := (hb.cell (World.block_lt_of_cell? _ _ (hHeld.2.1))).trans (hHeld.2.1); have HS2_ := (hb.cell (World.block_lt_of_cell? _ _ (hHeld.2.2))).trans (hHeld.2.2)
           refine ⟨_, rfl, ?_⟩
           have n0_ := Aside0.mk (Kd.R_below ax222 hb)
           have n1_ := Aside0.mk (blk_below (g := gb577) (o := .cells #[.slice A0_0 l0_0.length c0_0] 30 (0, 0)) ax373 hb)
           have n2_ := Aside0.mk (below_step ax374 hb); clear HO_9; clear BK577; clear HB; have HO_9 := n0_; have BK577 := n1_; have HB := n2_; clear n0_ n1_ n2_; (try clear hb); (try clear hb2); (try clear hk); (try clear hi)
           refine hK.out _ _ ⟨(blk_cell BK577.out 0).trans rfl, HS1_, HS2_⟩ (fun hHeld => ?_)
           clear hK K
           refine norm_ (a' := ?_) ?_ ?_
           rotate_left
           ·exact ax23
           refine pure_ (i := 16) (N := some 48) (v := ?_) (a' := ?_) (ob 18 131071) rfl rfl (any_of HT_.out (by kernel_rfl)) (fun _ _ _ h => h) (Or.inl ⟨by rfl, ?_⟩) ?_ ?_; rotate_left; exact ax5; rotate_left; exact ax6
           refine pure_ (i := 17) (N := some 49) (v := ?_) (a' := ?_) (ob 18 262143) rfl rfl (any_of HT_.out (by kernel_rfl)) (fun _ _ _ h => h) (Or.inl ⟨by rfl, ?_⟩) ?_ ?_; rotate_left; exact ax5; rotate_left; exact ax6
           refine done_ (done_of HT_.out (by kernel_rfl)) ?_
           try go_wp2
           have n0_ := Aside0.mk (Kd.R_drew HO_9.out); have n1_ := Aside0.mk (blk_drew BK577.out); have n2_ := Aside0.mk (below_drew1 HB.out); clear HO_9; clear BK577; clear HB; have HO_9 := n0_; have BK577 := n1_; have HB := n2_; clear n0_ n1_ n2_
           have p587 : 0 ≤ (x10_2 : Int) := of_decide_eq_true ax38
           have q587 : x10_2 < (t580.length : Int) := of_decide_eq_true ax38
           obtain ⟨ad587, e587, hx587_0⟩ := Kd.at_int (Kd.R_reads' HO_9.out).2.2 x10_2 p587 q587
           obtain rfl : ad583 = ad587 := (by injection e587)
           replace p587 := eq_true p587; replace q587 := eq_true q587
           refine start_ (n := 9) (S := fun w' => w'.cell? ⟨gb577, 0, none⟩ = some (.slice A0_0 l0_0.length c0_0) ∧ w'.cell? (ad583.add (x10_2).toNat) = some (.int .i64 (rd t580 x10_2))) (ds := []) (ob 9 0) (by kernel_rfl) rfl rfl ⟨(blk_cell BK577.out 0).trans rfl, hx587_0⟩ (fun hHeld => ?_); refine with_tabW spec_WinningLetters.tab8 spec_WinningLetters.bits8 (fun HT_ HW_ => ?_)
           generalize w38.drew = w39 at HO_9 BK577 HB hx587_0 hHeld ⊢
           refine pure_ (i := 0) (N := some 50) (v := ?_) (a' := ?_) (ob 9 1) rfl rfl (any_of HT_.out (by kernel_rfl)) (fun _ _ _ h => h) (Or.inl ⟨by rfl, ?_⟩) ?_ ?_; rotate_left; exact ax5; rotate_left; exact ax6
           refine pure_ (i := 2) (N := some 52) (v := ?_) (a' := ?_) (ob 9 5) rfl rfl (any_of HT_.out (by kernel_rfl)) (fun _ _ _ h => h) (Or.inl ⟨by rfl, ?_⟩) ?_ ?_; rotate_left; exact ax5; rotate_left; exact ax6
           refine pure_ (i := 3) (N := some 53) (v := ?_) (a' := ?_) (ob 9 13) rfl rfl (any_of HT_.out (by kernel_rfl)) (fun _ _ _ h => h) (Or.inl ⟨by rfl, ?_⟩) ?_ ?_; rotate_left; exact ax5; rotate_left; exact ax6
           refine pure_ (i := 4) (N := some 54) (v := ?_) (a' := ?_) (ob 9 29) rfl rfl (any_of HT_.out (by kernel_rfl)) (fun _ _ _ h => h) (Or.inl ⟨by rfl, ?_⟩) ?_ ?_; rotate_left; exact ax5; rotate_left; exact ax6
           refine take_ (i := 1) (N := some 51) (v := ?_) (a' := ?_) (ob 9 31) rfl rfl (take_ofW HT_.out HW_.out (by kernel_rfl)) (fun _ _ _ h => h) (Or.inl ⟨by rfl, ?_⟩) hHeld ?_ ?_; rotate_left; exact ax17; rotate_left; exact ax6
           refine take_ (i := 5) (N := some 55) (v := ?_) (a' := ?_) (ob 9 63) rfl rfl (take_ofW HT_.out HW_.out (by kernel_rfl)) (fun _ _ _ h => h) (Or.inl ⟨by rfl, ?_⟩) hHeld ?_ ?_; rotate_left; exact ax17; rotate_left; exact ax6
           refine one_ (i := 6) (N := some 56) (ob 9 127) rfl rfl (one_of HT_.out (by kernel_rfl)) (by decide) (fun K hK => ?_)
           refine goes_ Try.func58 (by kernel_rfl) rfl #[.agg #[.slice A0_0 l0_0.length c0_0], .int .i64 (rd t580 x10_2)] (by rfl) rfl rfl ax34 ?_
           with_reducible refine (spec_l11Letter.calls _ _ l0_0 (rd t580 x10_2) t588 _ ?side1 ?side2 A32.out).mono ?_
           (case side1 => exact ax35)
           (case side2 => exact ax36)
           rintro e w40 ⟨rfl, hb⟩
           have HS1_ := (hb.cell (World.block_lt_of_cell? _ _ (hHeld.2))).trans (hHeld.2)
           refine ⟨_, rfl, ?_⟩
           have n0_ := Aside0.mk (Kd.R_below ax222 hb)
           have n1_ := Aside0.mk (blk_below (g := gb577) (o := .cells #[.slice A0_0 l0_0.length c0_0] 30 (0, 0)) ax373 hb)
           have n2_ := Aside0.mk (below_step ax374 hb); clear HO_9; clear BK577; clear HB; have HO_9 := n0_; have BK577 := n1_; have HB := n2_; clear n0_ n1_ n2_; (try clear hb); (try clear hb2); (try clear hk); (try clear hi)
           refine hK.out _ _ ⟨(blk_cell BK577.out 0).trans rfl, HS1_⟩ (fun hHeld => ?_)
           clear hK K
           refine norm_ (a' := ?_) ?_ ?_
           rotate_left
           ·show Act.put _ (some 56) _ = _
            simp only [Act.put, List.setIfInBounds_toArray, List.set_cons_zero, List.set_cons_succ, i64_w, i32_w]
            rfl
           refine pure_ (i := 7) (N := some 57) (v := ?_) (a' := ?_) (ob 9 255) rfl rfl (any_of HT_.out (by kernel_rfl)) (fun _ _ _ h => h) (Or.inl ⟨by rfl, ?_⟩) ?_ ?_; rotate_left; exact ax5; rotate_left; exact ax6
           refine pure_ (i := 8) (N := some 8) (v := ?_) (a' := ?_) (ob 9 511) rfl rfl (any_of HT_.out (by kernel_rfl)) (fun _ _ _ h => h) (Or.inl ⟨by rfl, ?_⟩) ?_ ?_; rotate_left; exact ax5; rotate_left; exact ax6
           refine done_ (done_of HT_.out (by kernel_rfl)) ?_
           try go_wp2
           go_roundg k2
           case measure => have := HJ3.out; have := HK2.out; omega
           case rel => exact ⟨(js34), (wrap64 (x10_2 + 1)), (by first | rfl | (simp; done) | (simp only [← hjs34] <;> (first | rfl | simp)) | (simp [*]; done)), ax37, H', ⟨by have := HJ3.out; have := HK2.out; omega⟩, ⟨by (with_reducible repeat (first | apply Kd.R_alloc | apply Kd.R_drewN | apply Kd.R_drew)); exact HO_9.out⟩, ⟨by (with_reducible repeat (first | refine blk_drewN ?_ _ | refine blk_drew ?_ | refine blk_alloc ?_ _)); exact BK577.out⟩, ⟨by repeat (first | (with_reducible first | exact HB.out | apply below_alloc | apply pw_below_drewN | apply below_drew1 | refine below_set ?_ GE577.out) | exact HB.out)⟩⟩
          ·rw [if_neg c33] at H
           exact absurd H (by simp)
       ·exact ax16
      ·rw [if_neg c19] at H
       have c19b0 : decide (x10_2 < (t580.length : Int)) = false := decide_eq_false c19
       clear c19
       simp only [Option.some.injEq, Prod.mk.injEq] at H
       obtain ⟨rfl, rfl⟩ := H
       obtain ⟨Ao41, co41, eo41⟩ := Kd.R_slice HO_9.out
       subst eo41
       go_wp2
       go_ret2
       exact ⟨by first | rfl | (simp [errW_none, errW_some] <;> rfl) | (simp [*, errW_none, errW_some] <;> rfl), by repeat (first | (with_reducible first | exact HB.out | apply below_alloc | apply pw_below_drewN | apply below_drew1 | refine below_set ?_ GE577.out) | exact HB.out)⟩

end Go.Proofs.Ytcbjfflaamlpcaa.X

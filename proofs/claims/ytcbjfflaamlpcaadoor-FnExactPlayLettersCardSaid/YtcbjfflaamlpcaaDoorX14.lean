-- By gen.py (the session's own program over the kit's printer): functions of the program, each with its contract. Lean checks it.
import Derived.Test.YtcbjfflaamlpcaaDoorX0
import Derived.Test.YtcbjfflaamlpcaaDoorX9
import Derived.Test.YtcbjfflaamlpcaaDoorX12
import Derived.Test.YtcbjfflaamlpcaaDoorX13
namespace Go.Proofs.YtcbjfflaamlpcaaDoor.X
open Go.RowKit Go.Proofs.YtcbjfflaamlpcaaDoorW.PrintWords Go.Proofs.YtcbjfflaamlpcaaDoorW.PrintLast Go.Proofs.YtcbjfflaamlpcaaDoorW.PrintMore
attribute [local go_sem] max2_int min2_int max_two min_two max_three min_three max_four min_four   -- for this text's walks alone
set_option linter.unusedVariables false
set_option linter.unusedSimpArgs false

/-! ### spec_PlayLetters: function 6 -/
mutual
def spec_PlayLetters.j0 : Nat → Int → ByteArray → Bool → List (S53) → Option (Int × Int × Int × Bool)
 | 0, _, _, _, _ => none
 | k + 1, x1, x2, x21, x306000 => if x21 = true then (some (0, 0, 0, false)) else (spec_PlayLetters.l0 k x1 x2 0 0 x306000)
def spec_PlayLetters.l0 : Nat → Int → ByteArray → Int → Int → List (S53) → Option (Int × Int × Int × Bool)
 | 0, _, _, _, _, _ => none
 | k + 1, x1, x2, x10, x11, x306000 => if x11 < (x2.size : Int) then ((spec_l2Kids.f k x306000 x10).bind fun t311 => (if (t311.length : Int) = 0 then (some (x10, x11, Int.tmod x11 2, true)) else (if 0 ≤ x11 then ((spec_l2Kid.f k x306000 x10 (wrap64 ((wrap64 (bt x2 x11)) - 97))).bind fun t314 => (if t314 < 0 then (some (x10, x11, (-1), true)) else ((spec_l11Fatal.f k x306000 t314 x1).bind fun t315 => (if t315 = true then (some (t314, wrap64 (x11 + 1), Int.tmod x11 2, true)) else (spec_PlayLetters.l0 k x1 x2 t314 (wrap64 (x11 + 1)) x306000))))) else (none)))) else ((spec_l2Kids.f k x306000 x10).bind fun t308 => (if (t308.length : Int) = 0 then (some (x10, (x2.size : Int), (x2.size : Int) % 2, true)) else (some (x10, (x2.size : Int), (-1), true))))
end
def spec_PlayLetters.f (k : Nat) (l0_0 : List (S53)) (a1 : Int) (a2 : ByteArray) : Option (Int × Int × Int × Bool) := (spec_l11Good.f k l0_0 0 a1).bind fun t306 => (if t306 = true then ((spec_l2Word.f k a2).bind fun t307 => (spec_PlayLetters.j0 k a1 a2 (!t307) l0_0)) else (spec_PlayLetters.j0 k a1 a2 true l0_0))
theorem spec_PlayLetters.mono_l : ∀ k, (∀ y0 y1 y2 y3, LeO (spec_PlayLetters.j0 k y0 y1 y2 y3) (spec_PlayLetters.j0 (k + 1) y0 y1 y2 y3)) ∧ (∀ y0 y1 y2 y3 y4, LeO (spec_PlayLetters.l0 k y0 y1 y2 y3 y4) (spec_PlayLetters.l0 (k + 1) y0 y1 y2 y3 y4))
 | 0 => ⟨fun _ _ _ _ r h => by simp [spec_PlayLetters.j0] at h, fun _ _ _ _ _ r h => by simp [spec_PlayLetters.l0] at h⟩
 | k + 1 => by
  obtain ⟨ih0, ih1⟩ := spec_PlayLetters.mono_l k
  refine ⟨?_, ?_⟩
  ·intro y0 y1 y2 y3
   unfold spec_PlayLetters.j0
   repeat' first
   | (with_reducible exact ih0 _ _ _ _)
   | (with_reducible exact ih1 _ _ _ _ _)
   | (with_reducible exact spec_l11Fatal.mono _ _ _ _)
   | (with_reducible exact spec_l11Good.mono _ _ _ _)
   | (with_reducible exact spec_l2Kid.mono _ _ _ _)
   | (with_reducible exact spec_l2Kids.mono _ _ _)
   | (with_reducible exact spec_l2Word.mono _ _)
   | (with_reducible exact LeO.refl _)
   | (with_reducible exact LeO.none _)
   | (with_reducible refine LeO.ite ?_ ?_)
   | (with_reducible refine LeO.bind ?_ (fun _ => ?_))
   | exact ih0 _ _ _ _
   | exact ih1 _ _ _ _ _
   | exact spec_l11Fatal.mono _ _ _ _
   | exact spec_l11Good.mono _ _ _ _
   | exact spec_l2Kid.mono _ _ _ _
   | exact spec_l2Kids.mono _ _ _
   | exact spec_l2Word.mono _ _
   | exact LeO.none _
   | refine LeO.ite ?_ ?_
   | refine LeO.bind ?_ (fun _ => ?_)
  ·intro y0 y1 y2 y3 y4
   unfold spec_PlayLetters.l0
   repeat' first
   | (with_reducible exact ih0 _ _ _ _)
   | (with_reducible exact ih1 _ _ _ _ _)
   | (with_reducible exact spec_l11Fatal.mono _ _ _ _)
   | (with_reducible exact spec_l11Good.mono _ _ _ _)
   | (with_reducible exact spec_l2Kid.mono _ _ _ _)
   | (with_reducible exact spec_l2Kids.mono _ _ _)
   | (with_reducible exact spec_l2Word.mono _ _)
   | (with_reducible exact LeO.refl _)
   | (with_reducible exact LeO.none _)
   | (with_reducible refine LeO.ite ?_ ?_)
   | (with_reducible refine LeO.bind ?_ (fun _ => ?_))
   | exact ih0 _ _ _ _
   | exact ih1 _ _ _ _ _
   | exact spec_l11Fatal.mono _ _ _ _
   | exact spec_l11Good.mono _ _ _ _
   | exact spec_l2Kid.mono _ _ _ _
   | exact spec_l2Kids.mono _ _ _
   | exact spec_l2Word.mono _ _
   | exact LeO.none _
   | refine LeO.ite ?_ ?_
   | refine LeO.bind ?_ (fun _ => ?_)
theorem spec_PlayLetters.mono : ∀ a0 a1 a2 k, LeO (spec_PlayLetters.f k a0 a1 a2) (spec_PlayLetters.f (k + 1) a0 a1 a2) := by
 intro a0 a1 a2 k
 obtain ⟨ih0, ih1⟩ := spec_PlayLetters.mono_l k
 unfold spec_PlayLetters.f
 repeat' first
   | (with_reducible exact ih0 _ _ _ _)
   | (with_reducible exact ih1 _ _ _ _ _)
   | (with_reducible exact spec_l11Fatal.mono _ _ _ _)
   | (with_reducible exact spec_l11Good.mono _ _ _ _)
   | (with_reducible exact spec_l2Kid.mono _ _ _ _)
   | (with_reducible exact spec_l2Kids.mono _ _ _)
   | (with_reducible exact spec_l2Word.mono _ _)
   | (with_reducible exact LeO.refl _)
   | (with_reducible exact LeO.none _)
   | (with_reducible refine LeO.ite ?_ ?_)
   | (with_reducible refine LeO.bind ?_ (fun _ => ?_))
   | exact ih0 _ _ _ _
   | exact ih1 _ _ _ _ _
   | exact spec_l11Fatal.mono _ _ _ _
   | exact spec_l11Good.mono _ _ _ _
   | exact spec_l2Kid.mono _ _ _ _
   | exact spec_l2Kids.mono _ _ _
   | exact spec_l2Word.mono _ _
   | exact LeO.none _
   | refine LeO.ite ?_ ?_
   | refine LeO.bind ?_ (fun _ => ?_)
def spec_PlayLetters.T9 : Bool × List (List Nat × List Nat) := (true, [([], []), ([], []), ([], []), ([], []), ([2, 3], [2, 3]), ([4], [4]), ([5], [5]), ([0, 1, 6], [0, 1, 6]), ([7, 7, 0, 1, 2, 3, 4, 5, 6, 7], [7])])
def spec_PlayLetters.B9 : List Nat := [0, 0, 0, 0, 12, 28, 60, 127, 255]
theorem spec_PlayLetters.tab9 : rtab .any (opsOf Tryd.f6 9) = spec_PlayLetters.T9 := by kernel_rfl
theorem spec_PlayLetters.bits9 : waitsOk spec_PlayLetters.T9.2 spec_PlayLetters.B9 = true := by kernel_rfl
set_option maxHeartbeats 8000000 in
set_option maxRecDepth 100000 in
theorem spec_PlayLetters.calls (k : Nat) (A0_0 : Option Addr) (c0_0 : Nat) (l0_0 : List (S53)) (a1 : Int) (a2 : ByteArray) (r1 : Int) (r2 : Int) (r3 : Int) (r4 : Bool) (w : World) (hr0_0 : Kd.C k53 w A0_0 l0_0.length l0_0) (hc0_0 : l0_0.length ≤ c0_0) (h : spec_PlayLetters.f k l0_0 a1 a2 = some (r1, r2, r3, r4)) :
  Calls Tryd.prog 6 #[.agg #[.slice A0_0 l0_0.length c0_0], .int .i64 a1, .string a2] w fun e w' => e = .returned (.tuple #[.int .i64 r1, .int .i64 r2, .int .i64 r3, .bool r4]) ∧ Below w.heap.size w w' := by
 have hu30 := Tryd.underlying30; have HR0_0 := Aside0.mk hr0_0; have HC0_0 := Aside0.mk hc0_0; clear hr0_0 hc0_0; have HB := Aside0.mk (Below.refl w.heap.size w)
 have H : ((spec_l11Good.f k l0_0 0 a1).bind fun t306 => (if t306 = true then ((spec_l2Word.f k a2).bind fun t307 => (spec_PlayLetters.j0 k a1 a2 (!t307) l0_0)) else (spec_PlayLetters.j0 k a1 a2 true l0_0))) = some (r1, r2, r3, r4) := h
 clear h; have HC4 := Aside0.mk H; clear H
 go_enter Tryd.func6, Tryd.ntmps6
 go_upto_region 1 with (first | ((with_reducible refine gate_dst (N := 3) rfl ?_); refine box_event ?hg (N := 3) ?hd (cs := #[.slice A0_0 l0_0.length c0_0]) (t := 30) ?hr ?_; (case hd => rfl); (case hg => rfl); (case hr => exact ax22); intro gb305 hg w5 hbox hb; have n0_ := Aside0.mk (below_step ax24 hb); have n1_ := Aside0.mk (hbox); have n2_ := Aside0.mk ((ax58 : w.heap.size ≤ gb305)); have n3_ := Aside0.mk ((ax58 : w.heap.size ≤ gb305)); clear HB; have HB := n0_; have BK305 := n1_; have GW305 := n2_; have GE305 := n3_; clear n0_ n1_ n2_ n3_; clear hb hbox hg))
 (try simp only [Act.put, List.setIfInBounds_toArray, List.set_cons_zero, List.set_cons_succ])
 go_cut [21] (fun v21 wc => ∃ (kq : Nat) (x21_3 : Bool), v21 = .bool x21_3 ∧ Aside0 (spec_PlayLetters.j0 kq a1 a2 x21_3 l0_0 = some (r1, r2, r3, r4)) ∧ Aside0 (kq ≤ k) ∧ Aside0 (wc.heap[gb305]? = some (.cells #[(.slice A0_0 l0_0.length c0_0)] 30 (0, 0))) ∧ Aside0 (Below w.heap.size w wc))
 case first =>
  have H := HC4.out; clear HC4; replace H := Option.bind_eq_some_iff.mp H
  obtain ⟨t306, A60, H⟩ := H
  replace H : (if t306 = true then ((spec_l2Word.f k a2).bind fun t307 => (spec_PlayLetters.j0 k a1 a2 (!t307) l0_0)) else (spec_PlayLetters.j0 k a1 a2 true l0_0)) = some (r1, r2, r3, r4) := H
  have A6 := Aside0.mk A60; clear A60
  by_cases c7 : t306 = true
  ·subst c7
   have H1 : ((spec_l2Word.f k a2).bind fun t307 => (spec_PlayLetters.j0 k a1 a2 (!t307) l0_0)) = some (r1, r2, r3, r4) := by rw [if_pos rfl] at H; exact H
   clear H; have H := H1; clear H1; replace H := Option.bind_eq_some_iff.mp H
   obtain ⟨t307, A80, H⟩ := H
   replace H : (spec_PlayLetters.j0 k a1 a2 (!t307) l0_0) = some (r1, r2, r3, r4) := H
   have A8 := Aside0.mk A80; clear A80
   have H' := Aside0.mk H
   clear H
   have hcz9_0 : w5.cell? ⟨gb305, 0, none⟩ = some (.slice A0_0 l0_0.length c0_0) := (blk_cell BK305.out 0).trans rfl
   have hfz9_0 := blk_frozen BK305.out 0
   go_wp2_with (first | ((with_reducible refine gate_callee (f := 16) rfl ?_); refine goesL_ (some 15) rfl rfl Tryd.func16 (by kernel_rfl) rfl #[.agg #[.slice A0_0 l0_0.length c0_0], .int .i64 0, .int .i64 a1] rfl ax30 ?_; (with_reducible refine (spec_l11Good.calls k _ _ l0_0 0 a1 true _ ?side1 ?side2 A6.out).mono ?_); (case side1 => exact ax59); (case side2 => exact ax60); rintro e w10 ⟨rfl, hb⟩; refine ⟨_, rfl, ?_⟩; have n0_ := Aside0.mk (blk_below (g := gb305) (o := .cells #[.slice A0_0 l0_0.length c0_0] 30 (0, 0)) ax116 hb); have n1_ := Aside0.mk (below_step ax117 hb); clear BK305; clear HB; have BK305 := n0_; have HB := n1_; clear n0_ n1_; (try clear hb); (try clear hb2); (try clear hk); (try clear hi)) | (go_at_call 17; (with_reducible refine (spec_l2Word.calls k a2 t307 _ A8.out).mono ?_); rintro e w' ⟨rfl, ⟨nd, rfl⟩⟩))
   go_meet
   case rel => exact ⟨_, (!t307), ax20, H', ⟨by first | omega | exact Nat.le_refl _⟩, ⟨by (with_reducible repeat (first | refine blk_drewN ?_ _ | refine blk_drew ?_ | refine blk_alloc ?_ _)); exact BK305.out⟩, ⟨by repeat (first | (with_reducible first | exact HB.out | apply below_alloc | apply pw_below_drewN | apply below_drew1 | refine below_set ?_ GE305.out) | exact HB.out)⟩⟩
  ·replace c7 := Bool.eq_false_iff.mpr c7
   subst c7
   have H1 : (spec_PlayLetters.j0 k a1 a2 true l0_0) = some (r1, r2, r3, r4) := by rw [if_neg (show ¬ (false = true) by decide)] at H; exact H
   clear H; have H := H1; clear H1
   have H' := Aside0.mk H
   clear H
   have hcz11_0 : w5.cell? ⟨gb305, 0, none⟩ = some (.slice A0_0 l0_0.length c0_0) := (blk_cell BK305.out 0).trans rfl
   have hfz11_0 := blk_frozen BK305.out 0
   go_wp2_with (first | ((with_reducible refine gate_callee (f := 16) rfl ?_); refine goesL_ (some 15) rfl rfl Tryd.func16 (by kernel_rfl) rfl #[.agg #[.slice A0_0 l0_0.length c0_0], .int .i64 0, .int .i64 a1] rfl ax30 ?_; (with_reducible refine (spec_l11Good.calls k _ _ l0_0 0 a1 false _ ?side1 ?side2 A6.out).mono ?_); (case side1 => exact ax59); (case side2 => exact ax60); rintro e w12 ⟨rfl, hb⟩; refine ⟨_, rfl, ?_⟩; have n0_ := Aside0.mk (blk_below (g := gb305) (o := .cells #[.slice A0_0 l0_0.length c0_0] 30 (0, 0)) ax116 hb); have n1_ := Aside0.mk (below_step ax117 hb); clear BK305; clear HB; have BK305 := n0_; have HB := n1_; clear n0_ n1_; (try clear hb); (try clear hb2); (try clear hk); (try clear hi)))
   go_meet
   case rel => exact ⟨_, (true), ax20, H', ⟨by first | omega | exact Nat.le_refl _⟩, ⟨by (with_reducible repeat (first | refine blk_drewN ?_ _ | refine blk_drew ?_ | refine blk_alloc ?_ _)); exact BK305.out⟩, ⟨by repeat (first | (with_reducible first | exact HB.out | apply below_alloc | apply pw_below_drewN | apply below_drew1 | refine below_set ?_ GE305.out) | exact HB.out)⟩⟩
 case rest =>
  clear HC4
  try clear c1
  try clear p2
  try clear c6
  try clear c7
  try clear hcz11_0
  try clear hcz9_0
  try clear hfz11_0
  try clear hfz9_0
  obtain ⟨kq, x21_3, rfl, HA, HJ3, BK305, HB⟩ := hcut
  cases kq with
  | zero => exact absurd HA.out (by simp [spec_PlayLetters.j0])
  | succ kj3 =>
   have H := HA.out; clear HA
   simp only [spec_PlayLetters.j0] at H
   by_cases c13 : x21_3 = true
   ·subst c13
    have H1 : (some (0, 0, 0, false)) = some (r1, r2, r3, r4) := by rw [if_pos rfl] at H; exact H
    clear H; have H := H1; clear H1
    simp only [Option.some.injEq, Prod.mk.injEq] at H
    obtain ⟨rfl, rfl, rfl, rfl⟩ := H
    go_wp2
    refine bodyPost_ret (results_list (rs := [.tmp 6, .tmp 7, .tmp 8, .tmp 9]) rfl (by simp) (.tmp (.tmp (.tmp (.tmp .nil))))) rfl ?_
    exact ⟨by first | rfl | (simp [errW_none, errW_some] <;> rfl) | (simp [*, errW_none, errW_some] <;> rfl), by repeat (first | (with_reducible first | exact HB.out | apply below_alloc | apply pw_below_drewN | apply below_drew1 | refine below_set ?_ GE305.out) | exact HB.out)⟩
   ·replace c13 := Bool.eq_false_iff.mpr c13
    subst c13
    have H1 : (spec_PlayLetters.l0 kj3 a1 a2 0 0 l0_0) = some (r1, r2, r3, r4) := by rw [if_neg (show ¬ (false = true) by decide)] at H; exact H
    clear H; have H := H1; clear H1
    have H' := Aside0.mk H
    clear H
    go_wp2
    go_loopg [10, 11] kj3 (fun kq v10 v11 w' => ∃ (x10_2 : Int) (x11_2 : Int), v10 = .int .i64 x10_2 ∧ v11 = .int .i64 x11_2 ∧ Aside0 (spec_PlayLetters.l0 kq a1 a2 x10_2 x11_2 l0_0 = some (r1, r2, r3, r4)) ∧ Aside0 (kq ≤ kj3) ∧ Aside0 (w'.heap[gb305]? = some (.cells #[(.slice A0_0 l0_0.length c0_0)] 30 (0, 0))) ∧ Aside0 (Below w.heap.size w w'))
    case atStart => exact ⟨(0), (0), ax20, ax20, H', ⟨Nat.le_refl _⟩, ⟨by (with_reducible repeat (first | refine blk_drewN ?_ _ | refine blk_drew ?_ | refine blk_alloc ?_ _)); exact BK305.out⟩, ⟨by repeat (first | (with_reducible first | exact HB.out | apply below_alloc | apply pw_below_drewN | apply below_drew1 | refine below_set ?_ GE305.out) | exact HB.out)⟩⟩
    case round =>
     clear H'
     try clear c1
     try clear p2
     try clear c6
     try clear c7
     try clear c13
     try clear hcz11_0
     try clear hcz9_0
     try clear hfz11_0
     try clear hfz9_0
     try clear p2
     obtain ⟨x10_2, x11_2, rfl, rfl, HA, HK2, BK305, HB⟩ := hrel
     cases gk with
     | zero => exact absurd HA.out (by simp [spec_PlayLetters.l0])
     | succ k2 =>
      have H := HA.out; clear HA
      simp only [spec_PlayLetters.l0] at H
      by_cases c14 : x11_2 < (a2.size : Int)
      ·rw [if_pos c14] at H
       have c14b0 : decide (x11_2 < (a2.size : Int)) = true := decide_eq_true c14
       clear c14; replace H := Option.bind_eq_some_iff.mp H
       obtain ⟨t311, A150, H⟩ := H
       replace H : (if (t311.length : Int) = 0 then (some (x10_2, x11_2, Int.tmod x11_2 2, true)) else (if 0 ≤ x11_2 then ((spec_l2Kid.f k2 l0_0 x10_2 (wrap64 ((wrap64 (bt a2 x11_2)) - 97))).bind fun t314 => (if t314 < 0 then (some (x10_2, x11_2, (-1), true)) else ((spec_l11Fatal.f k2 l0_0 t314 a1).bind fun t315 => (if t315 = true then (some (t314, wrap64 (x11_2 + 1), Int.tmod x11_2 2, true)) else (spec_PlayLetters.l0 k2 a1 a2 t314 (wrap64 (x11_2 + 1)) l0_0))))) else (none))) = some (r1, r2, r3, r4) := H
       have A15 := Aside0.mk A150; clear A150
       by_cases c16 : (t311.length : Int) = 0
       ·rw [if_pos c16] at H
        have c16b0 : ((t311.length : Int) == 0) = true := beq_iff_eq.mpr c16
        have c16b1 : ((t311.length : Int) != 0) = false := bne_eq_false_iff_eq.mpr c16
        clear c16
        simp only [Option.some.injEq, Prod.mk.injEq] at H
        obtain ⟨rfl, rfl, rfl, rfl⟩ := H
        have hcz17_0 : wr.cell? ⟨gb305, 0, none⟩ = some (.slice A0_0 l0_0.length c0_0) := (blk_cell BK305.out 0).trans rfl
        have hfz17_0 := blk_frozen BK305.out 0
        go_wp2_with (first | ((with_reducible refine gate_callee (f := 18) rfl ?_); refine goesL_ (some 30) rfl rfl Tryd.func18 (by kernel_rfl) rfl #[.agg #[.slice A0_0 l0_0.length c0_0], .int .i64 x10_2] rfl ax30 ?_; (with_reducible refine (spec_l2Kids.calls k2 _ _ l0_0 x10_2 t311 _ ?side1 ?side2 A15.out).mono ?_); (case side1 => exact ax59); (case side2 => exact ax60); rintro e w18 ⟨v312, rfl, ho0, hb⟩; refine ⟨_, rfl, ?_⟩; have n0_ := Aside0.mk (Kd.R_lower ho0 (below_size ax117)); have n1_ := Aside0.mk (blk_below (g := gb305) (o := .cells #[.slice A0_0 l0_0.length c0_0] 30 (0, 0)) ax116 hb); have n2_ := Aside0.mk (below_step ax117 hb); clear BK305; clear HB; have HO313 := n0_; have BK305 := n1_; have HB := n2_; clear n0_ n1_ n2_; (try clear hb); (try clear hb2); (try clear hk); (try clear hi); (try clear ho0); obtain ⟨Ao19, co19, eo19⟩ := Kd.R_slice HO313.out; subst eo19))
        refine bodyPost_ret (results_list (rs := [.tmp 6, .tmp 7, .tmp 8, .tmp 9]) rfl (by simp) (.tmp (.tmp (.tmp (.tmp .nil))))) rfl ?_
        exact ⟨by first | rfl | (simp [errW_none, errW_some] <;> rfl) | (simp [*, errW_none, errW_some] <;> rfl), by repeat (first | (with_reducible first | exact HB.out | apply below_alloc | apply pw_below_drewN | apply below_drew1 | refine below_set ?_ GE305.out) | exact HB.out)⟩
       ·rw [if_neg c16] at H
        have c16b0 : ((t311.length : Int) == 0) = false := beq_eq_false_iff_ne.mpr c16
        have c16b1 : ((t311.length : Int) != 0) = true := bne_iff_ne.mpr c16
        have c16b2 : ¬ (t311 = []) := fun h_ => c16 (by rw [h_]; rfl)
        by_cases c20 : 0 ≤ x11_2
        ·rw [if_pos c20] at H
         have c20b0 : decide (0 ≤ x11_2) = true := decide_eq_true c20
         clear c20; replace H := Option.bind_eq_some_iff.mp H
         obtain ⟨t314, A220, H⟩ := H
         replace H : (if t314 < 0 then (some (x10_2, x11_2, (-1), true)) else ((spec_l11Fatal.f k2 l0_0 t314 a1).bind fun t315 => (if t315 = true then (some (t314, wrap64 (x11_2 + 1), Int.tmod x11_2 2, true)) else (spec_PlayLetters.l0 k2 a1 a2 t314 (wrap64 (x11_2 + 1)) l0_0)))) = some (r1, r2, r3, r4) := H
         have A22 := Aside0.mk A220; clear A220
         by_cases c23 : t314 < 0
         ·rw [if_pos c23] at H
          have c23b0 : decide (t314 < 0) = true := decide_eq_true c23
          clear c23
          simp only [Option.some.injEq, Prod.mk.injEq] at H
          obtain ⟨rfl, rfl, rfl, rfl⟩ := H
          have hcz24_0 : wr.cell? ⟨gb305, 0, none⟩ = some (.slice A0_0 l0_0.length c0_0) := (blk_cell BK305.out 0).trans rfl
          have hfz24_0 := blk_frozen BK305.out 0
          try go_wp2_with (first | ((with_reducible refine gate_callee (f := 18) rfl ?_); refine goesL_ (some 30) rfl rfl Tryd.func18 (by kernel_rfl) rfl #[.agg #[.slice A0_0 l0_0.length c0_0], .int .i64 x10_2] rfl ax30 ?_; (with_reducible refine (spec_l2Kids.calls k2 _ _ l0_0 x10_2 t311 _ ?side1 ?side2 A15.out).mono ?_); (case side1 => exact ax59); (case side2 => exact ax60); rintro e w25 ⟨v312, rfl, ho0, hb⟩; refine ⟨_, rfl, ?_⟩; have n0_ := Aside0.mk (Kd.R_lower ho0 (below_size ax117)); have n1_ := Aside0.mk (blk_below (g := gb305) (o := .cells #[.slice A0_0 l0_0.length c0_0] 30 (0, 0)) ax116 hb); have n2_ := Aside0.mk (below_step ax117 hb); clear BK305; clear HB; have HO313 := n0_; have BK305 := n1_; have HB := n2_; clear n0_ n1_ n2_; (try clear hb); (try clear hb2); (try clear hk); (try clear hi); (try clear ho0); obtain ⟨Ao26, co26, eo26⟩ := Kd.R_slice HO313.out; subst eo26))
          have n0_ := Aside0.mk (Kd.R_drew HO313.out); have n1_ := Aside0.mk (blk_drew BK305.out); have n2_ := Aside0.mk (below_drew1 HB.out); clear HO313; clear BK305; clear HB; have HO313 := n0_; have BK305 := n1_; have HB := n2_; clear n0_ n1_ n2_
          have p21 : 0 ≤ (x11_2 : Int) := of_decide_eq_true ax21
          have q21 : x11_2 < (a2.size : Int) := of_decide_eq_true ax21
          have hx21 := bt_at a2 x11_2; replace p21 := eq_true p21; replace q21 := eq_true q21
          refine start_ (n := 9) (S := fun w' => w'.cell? ⟨gb305, 0, none⟩ = some (.slice A0_0 l0_0.length c0_0)) (ds := []) (ob 9 0) (by kernel_rfl) rfl rfl ((blk_cell BK305.out 0).trans rfl) (fun hHeld => ?_); refine with_tabW spec_PlayLetters.tab9 spec_PlayLetters.bits9 (fun HT_ HW_ => ?_)
          generalize w25.drew = w27 at HO313 BK305 HB hHeld ⊢
          refine pure_ (i := 1) (N := some 38) (v := ?_) (a' := ?_) (ob 9 2) rfl rfl (any_of HT_.out (by kernel_rfl)) (fun _ _ _ h => h) (Or.inl ⟨by rfl, ?_⟩) ?_ ?_; rotate_left; exact ax4; rotate_left; exact ax5
          refine pure_ (i := 2) (N := some 39) (v := ?_) (a' := ?_) (ob 9 6) rfl rfl (any_of HT_.out (by kernel_rfl)) (fun _ _ _ h => h) (Or.inl ⟨by rfl, ?_⟩) ?_ ?_; rotate_left; exact ax4; rotate_left; exact ax5
          refine pure_ (i := 3) (N := some 40) (v := ?_) (a' := ?_) (ob 9 14) rfl rfl (any_of HT_.out (by kernel_rfl)) (fun _ _ _ h => h) (Or.inl ⟨by rfl, ?_⟩) ?_ ?_; rotate_left; exact ax4; rotate_left; exact ax5
          refine take_ (i := 0) (N := some 37) (v := ?_) (a' := ?_) (ob 9 15) rfl rfl (take_ofW HT_.out HW_.out (by kernel_rfl)) (fun _ _ _ h => h) (Or.inl ⟨by rfl, ?_⟩) hHeld ?_ ?_; rotate_left; exact ax15; rotate_left; exact ax5
          refine take_ (i := 4) (N := some 41) (v := ?_) (a' := ?_) (ob 9 31) rfl rfl (take_ofW HT_.out HW_.out (by kernel_rfl)) (fun _ _ _ h => h) (Or.inl ⟨by rfl, ?_⟩) hHeld ?_ ?_; rotate_left; exact ax15; rotate_left; exact ax5
          refine pure_ (i := 5) (N := some 42) (v := ?_) (a' := ?_) (ob 9 63) rfl rfl (any_of HT_.out (by kernel_rfl)) (fun _ _ _ h => h) (Or.inl ⟨by rfl, ?_⟩) ?_ ?_; rotate_left; exact ax4; rotate_left; exact ax5
          refine pure_ (i := 6) (N := some 43) (v := ?_) (a' := ?_) (ob 9 127) rfl rfl (any_of HT_.out (by kernel_rfl)) (fun _ _ _ h => h) (Or.inl ⟨by rfl, ?_⟩) ?_ ?_; rotate_left; exact ax4; rotate_left; exact ax5
          refine one_ (i := 7) (N := some 44) (ob 9 255) rfl rfl (one_of HT_.out (by kernel_rfl)) (by decide) (fun K hK => ?_)
          refine goes_ Tryd.func19 (by kernel_rfl) rfl #[.agg #[.slice A0_0 l0_0.length c0_0], .int .i64 x10_2, .int .i64 (wrap64 ((wrap64 (bt a2 x11_2)) - 97))] (by rfl) rfl rfl ax30 ?_
          with_reducible refine (spec_l2Kid.calls k2 _ _ l0_0 x10_2 (wrap64 ((wrap64 (bt a2 x11_2)) - 97)) t314 _ ?side1 ?side2 A22.out).mono ?_
          (case side1 => exact ax59)
          (case side2 => exact ax60)
          rintro e w28 ⟨rfl, hb⟩
          refine ⟨_, rfl, ?_⟩
          have n0_ := Aside0.mk (Kd.R_below ax118 hb)
          have n1_ := Aside0.mk (blk_below (g := gb305) (o := .cells #[.slice A0_0 l0_0.length c0_0] 30 (0, 0)) ax116 hb)
          have n2_ := Aside0.mk (below_step ax117 hb); clear HO313; clear BK305; clear HB; have HO313 := n0_; have BK305 := n1_; have HB := n2_; clear n0_ n1_ n2_; (try clear hb); (try clear hb2); (try clear hk); (try clear hi)
          refine hK.out _ _ ((blk_cell BK305.out 0).trans rfl) (fun hHeld => ?_)
          clear hK K
          refine norm_ (a' := ?_) ?_ ?_
          rotate_left
          ·exact ax16
          refine pure_ (i := 8) (N := some 12) (v := ?_) (a' := ?_) (ob 9 511) rfl rfl (any_of HT_.out (by kernel_rfl)) (fun _ _ _ h => h) (Or.inl ⟨by rfl, ?_⟩) ?_ ?_; rotate_left; exact ax4; rotate_left; exact ax5
          refine done_ (done_of HT_.out (by kernel_rfl)) ?_
          try go_wp2
          refine bodyPost_ret (results_list (rs := [.tmp 6, .tmp 7, .tmp 8, .tmp 9]) rfl (by simp) (.tmp (.tmp (.tmp (.tmp .nil))))) rfl ?_
          exact ⟨by first | rfl | (simp [errW_none, errW_some] <;> rfl) | (simp [*, errW_none, errW_some] <;> rfl), by repeat (first | (with_reducible first | exact HB.out | apply below_alloc | apply pw_below_drewN | apply below_drew1 | refine below_set ?_ GE305.out) | exact HB.out)⟩
         ·rw [if_neg c23] at H
          have c23b0 : decide (t314 < 0) = false := decide_eq_false c23
          clear c23; replace H := Option.bind_eq_some_iff.mp H
          obtain ⟨t315, A290, H⟩ := H
          replace H : (if t315 = true then (some (t314, wrap64 (x11_2 + 1), Int.tmod x11_2 2, true)) else (spec_PlayLetters.l0 k2 a1 a2 t314 (wrap64 (x11_2 + 1)) l0_0)) = some (r1, r2, r3, r4) := H
          have A29 := Aside0.mk A290; clear A290
          by_cases c30 : t315 = true
          ·subst c30
           have H1 : (some (t314, wrap64 (x11_2 + 1), Int.tmod x11_2 2, true)) = some (r1, r2, r3, r4) := by rw [if_pos rfl] at H; exact H
           clear H; have H := H1; clear H1
           simp only [Option.some.injEq, Prod.mk.injEq] at H
           obtain ⟨rfl, rfl, rfl, rfl⟩ := H
           have hcz31_0 : wr.cell? ⟨gb305, 0, none⟩ = some (.slice A0_0 l0_0.length c0_0) := (blk_cell BK305.out 0).trans rfl
           have hfz31_0 := blk_frozen BK305.out 0
           try go_wp2_with (first | ((with_reducible refine gate_callee (f := 18) rfl ?_); refine goesL_ (some 30) rfl rfl Tryd.func18 (by kernel_rfl) rfl #[.agg #[.slice A0_0 l0_0.length c0_0], .int .i64 x10_2] rfl ax30 ?_; (with_reducible refine (spec_l2Kids.calls k2 _ _ l0_0 x10_2 t311 _ ?side1 ?side2 A15.out).mono ?_); (case side1 => exact ax59); (case side2 => exact ax60); rintro e w32 ⟨v312, rfl, ho0, hb⟩; refine ⟨_, rfl, ?_⟩; have n0_ := Aside0.mk (Kd.R_lower ho0 (below_size ax117)); have n1_ := Aside0.mk (blk_below (g := gb305) (o := .cells #[.slice A0_0 l0_0.length c0_0] 30 (0, 0)) ax116 hb); have n2_ := Aside0.mk (below_step ax117 hb); clear BK305; clear HB; have HO313 := n0_; have BK305 := n1_; have HB := n2_; clear n0_ n1_ n2_; (try clear hb); (try clear hb2); (try clear hk); (try clear hi); (try clear ho0); obtain ⟨Ao33, co33, eo33⟩ := Kd.R_slice HO313.out; subst eo33))
           have n0_ := Aside0.mk (Kd.R_drew HO313.out); have n1_ := Aside0.mk (blk_drew BK305.out); have n2_ := Aside0.mk (below_drew1 HB.out); clear HO313; clear BK305; clear HB; have HO313 := n0_; have BK305 := n1_; have HB := n2_; clear n0_ n1_ n2_
           have p21 : 0 ≤ (x11_2 : Int) := of_decide_eq_true ax21
           have q21 : x11_2 < (a2.size : Int) := of_decide_eq_true ax21
           have hx21 := bt_at a2 x11_2; replace p21 := eq_true p21; replace q21 := eq_true q21
           refine start_ (n := 9) (S := fun w' => w'.cell? ⟨gb305, 0, none⟩ = some (.slice A0_0 l0_0.length c0_0)) (ds := []) (ob 9 0) (by kernel_rfl) rfl rfl ((blk_cell BK305.out 0).trans rfl) (fun hHeld => ?_); refine with_tabW spec_PlayLetters.tab9 spec_PlayLetters.bits9 (fun HT_ HW_ => ?_)
           generalize w32.drew = w34 at HO313 BK305 HB hHeld ⊢
           refine pure_ (i := 1) (N := some 38) (v := ?_) (a' := ?_) (ob 9 2) rfl rfl (any_of HT_.out (by kernel_rfl)) (fun _ _ _ h => h) (Or.inl ⟨by rfl, ?_⟩) ?_ ?_; rotate_left; exact ax4; rotate_left; exact ax5
           refine pure_ (i := 2) (N := some 39) (v := ?_) (a' := ?_) (ob 9 6) rfl rfl (any_of HT_.out (by kernel_rfl)) (fun _ _ _ h => h) (Or.inl ⟨by rfl, ?_⟩) ?_ ?_; rotate_left; exact ax4; rotate_left; exact ax5
           refine pure_ (i := 3) (N := some 40) (v := ?_) (a' := ?_) (ob 9 14) rfl rfl (any_of HT_.out (by kernel_rfl)) (fun _ _ _ h => h) (Or.inl ⟨by rfl, ?_⟩) ?_ ?_; rotate_left; exact ax4; rotate_left; exact ax5
           refine take_ (i := 0) (N := some 37) (v := ?_) (a' := ?_) (ob 9 15) rfl rfl (take_ofW HT_.out HW_.out (by kernel_rfl)) (fun _ _ _ h => h) (Or.inl ⟨by rfl, ?_⟩) hHeld ?_ ?_; rotate_left; exact ax15; rotate_left; exact ax5
           refine take_ (i := 4) (N := some 41) (v := ?_) (a' := ?_) (ob 9 31) rfl rfl (take_ofW HT_.out HW_.out (by kernel_rfl)) (fun _ _ _ h => h) (Or.inl ⟨by rfl, ?_⟩) hHeld ?_ ?_; rotate_left; exact ax15; rotate_left; exact ax5
           refine pure_ (i := 5) (N := some 42) (v := ?_) (a' := ?_) (ob 9 63) rfl rfl (any_of HT_.out (by kernel_rfl)) (fun _ _ _ h => h) (Or.inl ⟨by rfl, ?_⟩) ?_ ?_; rotate_left; exact ax4; rotate_left; exact ax5
           refine pure_ (i := 6) (N := some 43) (v := ?_) (a' := ?_) (ob 9 127) rfl rfl (any_of HT_.out (by kernel_rfl)) (fun _ _ _ h => h) (Or.inl ⟨by rfl, ?_⟩) ?_ ?_; rotate_left; exact ax4; rotate_left; exact ax5
           refine one_ (i := 7) (N := some 44) (ob 9 255) rfl rfl (one_of HT_.out (by kernel_rfl)) (by decide) (fun K hK => ?_)
           refine goes_ Tryd.func19 (by kernel_rfl) rfl #[.agg #[.slice A0_0 l0_0.length c0_0], .int .i64 x10_2, .int .i64 (wrap64 ((wrap64 (bt a2 x11_2)) - 97))] (by rfl) rfl rfl ax30 ?_
           with_reducible refine (spec_l2Kid.calls k2 _ _ l0_0 x10_2 (wrap64 ((wrap64 (bt a2 x11_2)) - 97)) t314 _ ?side1 ?side2 A22.out).mono ?_
           (case side1 => exact ax59)
           (case side2 => exact ax60)
           rintro e w35 ⟨rfl, hb⟩
           refine ⟨_, rfl, ?_⟩
           have n0_ := Aside0.mk (Kd.R_below ax118 hb)
           have n1_ := Aside0.mk (blk_below (g := gb305) (o := .cells #[.slice A0_0 l0_0.length c0_0] 30 (0, 0)) ax116 hb)
           have n2_ := Aside0.mk (below_step ax117 hb); clear HO313; clear BK305; clear HB; have HO313 := n0_; have BK305 := n1_; have HB := n2_; clear n0_ n1_ n2_; (try clear hb); (try clear hb2); (try clear hk); (try clear hi)
           refine hK.out _ _ ((blk_cell BK305.out 0).trans rfl) (fun hHeld => ?_)
           clear hK K
           refine norm_ (a' := ?_) ?_ ?_
           rotate_left
           ·exact ax16
           refine pure_ (i := 8) (N := some 12) (v := ?_) (a' := ?_) (ob 9 511) rfl rfl (any_of HT_.out (by kernel_rfl)) (fun _ _ _ h => h) (Or.inl ⟨by rfl, ?_⟩) ?_ ?_; rotate_left; exact ax4; rotate_left; exact ax5
           refine done_ (done_of HT_.out (by kernel_rfl)) ?_
           have hcz36_0 : w35.cell? ⟨gb305, 0, none⟩ = some (.slice A0_0 l0_0.length c0_0) := (blk_cell BK305.out 0).trans rfl
           have hfz36_0 := blk_frozen BK305.out 0
           try go_wp2_with (first | ((with_reducible refine gate_callee (f := 20) rfl ?_); refine goesL_ (some 53) rfl rfl Tryd.func20 (by kernel_rfl) rfl #[.agg #[.slice A0_0 l0_0.length c0_0], .int .i64 t314, .int .i64 a1] rfl ax30 ?_; (with_reducible refine (spec_l11Fatal.calls k2 _ _ l0_0 t314 a1 true _ ?side1 ?side2 A29.out).mono ?_); (case side1 => exact ax59); (case side2 => exact ax60); rintro e w37 ⟨rfl, hb⟩; refine ⟨_, rfl, ?_⟩; have n0_ := Aside0.mk (Kd.R_below ax118 hb); have n1_ := Aside0.mk (blk_below (g := gb305) (o := .cells #[.slice A0_0 l0_0.length c0_0] 30 (0, 0)) ax116 hb); have n2_ := Aside0.mk (below_step ax117 hb); clear HO313; clear BK305; clear HB; have HO313 := n0_; have BK305 := n1_; have HB := n2_; clear n0_ n1_ n2_; (try clear hb); (try clear hb2); (try clear hk); (try clear hi)))
           refine bodyPost_ret (results_list (rs := [.tmp 6, .tmp 7, .tmp 8, .tmp 9]) rfl (by simp) (.tmp (.tmp (.tmp (.tmp .nil))))) rfl ?_
           exact ⟨by first | rfl | (simp [errW_none, errW_some] <;> rfl) | (simp [*, errW_none, errW_some] <;> rfl), by repeat (first | (with_reducible first | exact HB.out | apply below_alloc | apply pw_below_drewN | apply below_drew1 | refine below_set ?_ GE305.out) | exact HB.out)⟩
          ·replace c30 := Bool.eq_false_iff.mpr c30
           subst c30
           have H1 : (spec_PlayLetters.l0 k2 a1 a2 t314 (wrap64 (x11_2 + 1)) l0_0) = some (r1, r2, r3, r4) := by rw [if_neg (show ¬ (false = true) by decide)] at H; exact H
           clear H; have H := H1; clear H1
           have H' := Aside0.mk H
           clear H
           have hcz38_0 : wr.cell? ⟨gb305, 0, none⟩ = some (.slice A0_0 l0_0.length c0_0) := (blk_cell BK305.out 0).trans rfl
           have hfz38_0 := blk_frozen BK305.out 0
           try go_wp2_with (first | ((with_reducible refine gate_callee (f := 18) rfl ?_); refine goesL_ (some 30) rfl rfl Tryd.func18 (by kernel_rfl) rfl #[.agg #[.slice A0_0 l0_0.length c0_0], .int .i64 x10_2] rfl ax30 ?_; (with_reducible refine (spec_l2Kids.calls k2 _ _ l0_0 x10_2 t311 _ ?side1 ?side2 A15.out).mono ?_); (case side1 => exact ax59); (case side2 => exact ax60); rintro e w39 ⟨v312, rfl, ho0, hb⟩; refine ⟨_, rfl, ?_⟩; have n0_ := Aside0.mk (Kd.R_lower ho0 (below_size ax117)); have n1_ := Aside0.mk (blk_below (g := gb305) (o := .cells #[.slice A0_0 l0_0.length c0_0] 30 (0, 0)) ax116 hb); have n2_ := Aside0.mk (below_step ax117 hb); clear BK305; clear HB; have HO313 := n0_; have BK305 := n1_; have HB := n2_; clear n0_ n1_ n2_; (try clear hb); (try clear hb2); (try clear hk); (try clear hi); (try clear ho0); obtain ⟨Ao40, co40, eo40⟩ := Kd.R_slice HO313.out; subst eo40))
           have n0_ := Aside0.mk (Kd.R_drew HO313.out); have n1_ := Aside0.mk (blk_drew BK305.out); have n2_ := Aside0.mk (below_drew1 HB.out); clear HO313; clear BK305; clear HB; have HO313 := n0_; have BK305 := n1_; have HB := n2_; clear n0_ n1_ n2_
           have p21 : 0 ≤ (x11_2 : Int) := of_decide_eq_true ax21
           have q21 : x11_2 < (a2.size : Int) := of_decide_eq_true ax21
           have hx21 := bt_at a2 x11_2; replace p21 := eq_true p21; replace q21 := eq_true q21
           refine start_ (n := 9) (S := fun w' => w'.cell? ⟨gb305, 0, none⟩ = some (.slice A0_0 l0_0.length c0_0)) (ds := []) (ob 9 0) (by kernel_rfl) rfl rfl ((blk_cell BK305.out 0).trans rfl) (fun hHeld => ?_); refine with_tabW spec_PlayLetters.tab9 spec_PlayLetters.bits9 (fun HT_ HW_ => ?_)
           generalize w39.drew = w41 at HO313 BK305 HB hHeld ⊢
           refine pure_ (i := 1) (N := some 38) (v := ?_) (a' := ?_) (ob 9 2) rfl rfl (any_of HT_.out (by kernel_rfl)) (fun _ _ _ h => h) (Or.inl ⟨by rfl, ?_⟩) ?_ ?_; rotate_left; exact ax4; rotate_left; exact ax5
           refine pure_ (i := 2) (N := some 39) (v := ?_) (a' := ?_) (ob 9 6) rfl rfl (any_of HT_.out (by kernel_rfl)) (fun _ _ _ h => h) (Or.inl ⟨by rfl, ?_⟩) ?_ ?_; rotate_left; exact ax4; rotate_left; exact ax5
           refine pure_ (i := 3) (N := some 40) (v := ?_) (a' := ?_) (ob 9 14) rfl rfl (any_of HT_.out (by kernel_rfl)) (fun _ _ _ h => h) (Or.inl ⟨by rfl, ?_⟩) ?_ ?_; rotate_left; exact ax4; rotate_left; exact ax5
           refine take_ (i := 0) (N := some 37) (v := ?_) (a' := ?_) (ob 9 15) rfl rfl (take_ofW HT_.out HW_.out (by kernel_rfl)) (fun _ _ _ h => h) (Or.inl ⟨by rfl, ?_⟩) hHeld ?_ ?_; rotate_left; exact ax15; rotate_left; exact ax5
           refine take_ (i := 4) (N := some 41) (v := ?_) (a' := ?_) (ob 9 31) rfl rfl (take_ofW HT_.out HW_.out (by kernel_rfl)) (fun _ _ _ h => h) (Or.inl ⟨by rfl, ?_⟩) hHeld ?_ ?_; rotate_left; exact ax15; rotate_left; exact ax5
           refine pure_ (i := 5) (N := some 42) (v := ?_) (a' := ?_) (ob 9 63) rfl rfl (any_of HT_.out (by kernel_rfl)) (fun _ _ _ h => h) (Or.inl ⟨by rfl, ?_⟩) ?_ ?_; rotate_left; exact ax4; rotate_left; exact ax5
           refine pure_ (i := 6) (N := some 43) (v := ?_) (a' := ?_) (ob 9 127) rfl rfl (any_of HT_.out (by kernel_rfl)) (fun _ _ _ h => h) (Or.inl ⟨by rfl, ?_⟩) ?_ ?_; rotate_left; exact ax4; rotate_left; exact ax5
           refine one_ (i := 7) (N := some 44) (ob 9 255) rfl rfl (one_of HT_.out (by kernel_rfl)) (by decide) (fun K hK => ?_)
           refine goes_ Tryd.func19 (by kernel_rfl) rfl #[.agg #[.slice A0_0 l0_0.length c0_0], .int .i64 x10_2, .int .i64 (wrap64 ((wrap64 (bt a2 x11_2)) - 97))] (by rfl) rfl rfl ax30 ?_
           with_reducible refine (spec_l2Kid.calls k2 _ _ l0_0 x10_2 (wrap64 ((wrap64 (bt a2 x11_2)) - 97)) t314 _ ?side1 ?side2 A22.out).mono ?_
           (case side1 => exact ax59)
           (case side2 => exact ax60)
           rintro e w42 ⟨rfl, hb⟩
           refine ⟨_, rfl, ?_⟩
           have n0_ := Aside0.mk (Kd.R_below ax118 hb)
           have n1_ := Aside0.mk (blk_below (g := gb305) (o := .cells #[.slice A0_0 l0_0.length c0_0] 30 (0, 0)) ax116 hb)
           have n2_ := Aside0.mk (below_step ax117 hb); clear HO313; clear BK305; clear HB; have HO313 := n0_; have BK305 := n1_; have HB := n2_; clear n0_ n1_ n2_; (try clear hb); (try clear hb2); (try clear hk); (try clear hi)
           refine hK.out _ _ ((blk_cell BK305.out 0).trans rfl) (fun hHeld => ?_)
           clear hK K
           refine norm_ (a' := ?_) ?_ ?_
           rotate_left
           ·exact ax16
           refine pure_ (i := 8) (N := some 12) (v := ?_) (a' := ?_) (ob 9 511) rfl rfl (any_of HT_.out (by kernel_rfl)) (fun _ _ _ h => h) (Or.inl ⟨by rfl, ?_⟩) ?_ ?_; rotate_left; exact ax4; rotate_left; exact ax5
           refine done_ (done_of HT_.out (by kernel_rfl)) ?_
           have hcz43_0 : w42.cell? ⟨gb305, 0, none⟩ = some (.slice A0_0 l0_0.length c0_0) := (blk_cell BK305.out 0).trans rfl
           have hfz43_0 := blk_frozen BK305.out 0
           try go_wp2_with (first | ((with_reducible refine gate_callee (f := 20) rfl ?_); refine goesL_ (some 53) rfl rfl Tryd.func20 (by kernel_rfl) rfl #[.agg #[.slice A0_0 l0_0.length c0_0], .int .i64 t314, .int .i64 a1] rfl ax30 ?_; (with_reducible refine (spec_l11Fatal.calls k2 _ _ l0_0 t314 a1 false _ ?side1 ?side2 A29.out).mono ?_); (case side1 => exact ax59); (case side2 => exact ax60); rintro e w44 ⟨rfl, hb⟩; refine ⟨_, rfl, ?_⟩; have n0_ := Aside0.mk (Kd.R_below ax118 hb); have n1_ := Aside0.mk (blk_below (g := gb305) (o := .cells #[.slice A0_0 l0_0.length c0_0] 30 (0, 0)) ax116 hb); have n2_ := Aside0.mk (below_step ax117 hb); clear HO313; clear BK305; clear HB; have HO313 := n0_; have BK305 := n1_; have HB := n2_; clear n0_ n1_ n2_; (try clear hb); (try clear hb2); (try clear hk); (try clear hi)))
           go_roundg k2
           case measure => have := HJ3.out; have := HK2.out; omega
           case rel => exact ⟨(t314), (wrap64 (x11_2 + 1)), ax20, ax20, H', ⟨by have := HJ3.out; have := HK2.out; omega⟩, ⟨by (with_reducible repeat (first | refine blk_drewN ?_ _ | refine blk_drew ?_ | refine blk_alloc ?_ _)); exact BK305.out⟩, ⟨by repeat (first | (with_reducible first | exact HB.out | apply below_alloc | apply pw_below_drewN | apply below_drew1 | refine below_set ?_ GE305.out) | exact HB.out)⟩⟩
        ·rw [if_neg c20] at H
         exact absurd H (by simp)
      ·rw [if_neg c14] at H
       have c14b0 : decide (x11_2 < (a2.size : Int)) = false := decide_eq_false c14
       clear c14; replace H := Option.bind_eq_some_iff.mp H
       obtain ⟨t308, A450, H⟩ := H
       replace H : (if (t308.length : Int) = 0 then (some (x10_2, (a2.size : Int), (a2.size : Int) % 2, true)) else (some (x10_2, (a2.size : Int), (-1), true))) = some (r1, r2, r3, r4) := H
       have A45 := Aside0.mk A450; clear A450
       by_cases c46 : (t308.length : Int) = 0
       ·rw [if_pos c46] at H
        have c46b0 : ((t308.length : Int) == 0) = true := beq_iff_eq.mpr c46
        have c46b1 : ((t308.length : Int) != 0) = false := bne_eq_false_iff_eq.mpr c46
        clear c46
        simp only [Option.some.injEq, Prod.mk.injEq] at H
        obtain ⟨rfl, rfl, rfl, rfl⟩ := H
        have hcz47_0 : wr.cell? ⟨gb305, 0, none⟩ = some (.slice A0_0 l0_0.length c0_0) := (blk_cell BK305.out 0).trans rfl
        have hfz47_0 := blk_frozen BK305.out 0
        go_wp2_with (first | ((with_reducible refine gate_callee (f := 18) rfl ?_); refine goesL_ (some 61) rfl rfl Tryd.func18 (by kernel_rfl) rfl #[.agg #[.slice A0_0 l0_0.length c0_0], .int .i64 x10_2] rfl ax30 ?_; (with_reducible refine (spec_l2Kids.calls k2 _ _ l0_0 x10_2 t308 _ ?side1 ?side2 A45.out).mono ?_); (case side1 => exact ax59); (case side2 => exact ax60); rintro e w48 ⟨v309, rfl, ho0, hb⟩; refine ⟨_, rfl, ?_⟩; have n0_ := Aside0.mk (Kd.R_lower ho0 (below_size ax117)); have n1_ := Aside0.mk (blk_below (g := gb305) (o := .cells #[.slice A0_0 l0_0.length c0_0] 30 (0, 0)) ax116 hb); have n2_ := Aside0.mk (below_step ax117 hb); clear BK305; clear HB; have HO310 := n0_; have BK305 := n1_; have HB := n2_; clear n0_ n1_ n2_; (try clear hb); (try clear hb2); (try clear hk); (try clear hi); (try clear ho0); obtain ⟨Ao49, co49, eo49⟩ := Kd.R_slice HO310.out; subst eo49))
        refine bodyPost_ret (results_list (rs := [.tmp 6, .tmp 7, .tmp 8, .tmp 9]) rfl (by simp) (.tmp (.tmp (.tmp (.tmp .nil))))) rfl ?_
        exact ⟨by first | rfl | (simp [errW_none, errW_some] <;> rfl) | (simp [*, errW_none, errW_some] <;> rfl), by repeat (first | (with_reducible first | exact HB.out | apply below_alloc | apply pw_below_drewN | apply below_drew1 | refine below_set ?_ GE305.out) | exact HB.out)⟩
       ·rw [if_neg c46] at H
        have c46b0 : ((t308.length : Int) == 0) = false := beq_eq_false_iff_ne.mpr c46
        have c46b1 : ((t308.length : Int) != 0) = true := bne_iff_ne.mpr c46
        have c46b2 : ¬ (t308 = []) := fun h_ => c46 (by rw [h_]; rfl)
        simp only [Option.some.injEq, Prod.mk.injEq] at H
        obtain ⟨rfl, rfl, rfl, rfl⟩ := H
        have hcz50_0 : wr.cell? ⟨gb305, 0, none⟩ = some (.slice A0_0 l0_0.length c0_0) := (blk_cell BK305.out 0).trans rfl
        have hfz50_0 := blk_frozen BK305.out 0
        go_wp2_with (first | ((with_reducible refine gate_callee (f := 18) rfl ?_); refine goesL_ (some 61) rfl rfl Tryd.func18 (by kernel_rfl) rfl #[.agg #[.slice A0_0 l0_0.length c0_0], .int .i64 x10_2] rfl ax30 ?_; (with_reducible refine (spec_l2Kids.calls k2 _ _ l0_0 x10_2 t308 _ ?side1 ?side2 A45.out).mono ?_); (case side1 => exact ax59); (case side2 => exact ax60); rintro e w51 ⟨v309, rfl, ho0, hb⟩; refine ⟨_, rfl, ?_⟩; have n0_ := Aside0.mk (Kd.R_lower ho0 (below_size ax117)); have n1_ := Aside0.mk (blk_below (g := gb305) (o := .cells #[.slice A0_0 l0_0.length c0_0] 30 (0, 0)) ax116 hb); have n2_ := Aside0.mk (below_step ax117 hb); clear BK305; clear HB; have HO310 := n0_; have BK305 := n1_; have HB := n2_; clear n0_ n1_ n2_; (try clear hb); (try clear hb2); (try clear hk); (try clear hi); (try clear ho0); obtain ⟨Ao52, co52, eo52⟩ := Kd.R_slice HO310.out; subst eo52))
        refine bodyPost_ret (results_list (rs := [.tmp 6, .tmp 7, .tmp 8, .tmp 9]) rfl (by simp) (.tmp (.tmp (.tmp (.tmp .nil))))) rfl ?_
        exact ⟨by first | rfl | (simp [errW_none, errW_some] <;> rfl) | (simp [*, errW_none, errW_some] <;> rfl), by repeat (first | (with_reducible first | exact HB.out | apply below_alloc | apply pw_below_drewN | apply below_drew1 | refine below_set ?_ GE305.out) | exact HB.out)⟩

/-! ### laws_toNode: function 34 -/
def laws_toNode.f (a0_0 : Int) (a0_1 : Int) (a0_2 : Bool) : Option (Int × Int × Bool) := some (a0_0, a0_1, a0_2)
set_option maxHeartbeats 8000000 in
set_option maxRecDepth 100000 in
theorem laws_toNode.calls (a0_0 : Int) (a0_1 : Int) (a0_2 : Bool) (r1 : Int) (r2 : Int) (r3 : Bool) (w : World) (h : laws_toNode.f a0_0 a0_1 a0_2 = some (r1, r2, r3)) :
  Calls Tryd.prog 34 #[.agg #[.int .i64 a0_0, .int .i64 a0_1, .bool a0_2]] w fun e w' => e = .returned (.agg #[.int .i64 r1, .int .i64 r2, .bool r3]) ∧ Below w.heap.size w w' := by
 have hu61 := Tryd.underlying61; have hu53 := Tryd.underlying53; have HB := Aside0.mk (Below.refl w.heap.size w)
 have H : (some (a0_0, a0_1, a0_2)) = some (r1, r2, r3) := h
 clear h
 simp only [Option.some.injEq, Prod.mk.injEq] at H
 obtain ⟨rfl, rfl, rfl⟩ := H
 go_enter Tryd.func34, Tryd.ntmps34
 go_wp2_with (first | ((with_reducible refine gate_dst (N := 1) rfl ?_); refine box_event ?hg (N := 1) ?hd (cs := #[.int .i64 a0_0, .int .i64 a0_1, .bool a0_2]) (t := 61) ?hr ?_; (case hd => rfl); (case hg => rfl); (case hr => exact ax22); intro gb316 hg w2 hbox hb; have n0_ := Aside0.mk (below_step ax24 hb); have n1_ := Aside0.mk (hbox); have n2_ := Aside0.mk ((ax58 : w.heap.size ≤ gb316)); have n3_ := Aside0.mk ((ax58 : w.heap.size ≤ gb316)); clear HB; have HB := n0_; have BK316 := n1_; have GW316 := n2_; have GE316 := n3_; clear n0_ n1_ n2_ n3_; clear hb hbox hg) | ((with_reducible refine gate_dst (N := 2) rfl ?_); refine box_event ?hg (N := 2) ?hd (cs := #[.int .i64 0, .int .i64 0, .bool false]) (t := 53) ?hr ?_; (case hd => rfl); (case hg => rfl); (case hr => exact ax22); intro gb317 hg w3 hbox hb; have n0_ := Aside0.mk (blk_below (g := gb316) (o := .cells #[.int .i64 a0_0, .int .i64 a0_1, .bool a0_2] 61 (0, 0)) ax119 hb); have n1_ := Aside0.mk (below_step ax120 hb); have n2_ := Aside0.mk (hbox); have n3_ := Aside0.mk ((ax121 : w.heap.size ≤ gb317)); have n4_ := Aside0.mk ((ax121 : w.heap.size ≤ gb317)); have n5_ := Aside0.mk ((ax122 : gb316 ≠ gb317)); have n6_ := Aside0.mk ((ax123 : gb317 ≠ gb316)); clear BK316; clear HB; have BK316 := n0_; have HB := n1_; have BK317 := n2_; have GW317 := n3_; have GE317 := n4_; have NB316_317 := n5_; have NB317_316 := n6_; clear n0_ n1_ n2_ n3_ n4_ n5_ n6_; clear hb hbox hg) | ((with_reducible refine gate_dst (N := 3) rfl ?_); refine box_event ?hg (N := 3) ?hd (cs := #[.int .i64 0, .int .i64 0, .bool false]) (t := 53) ?hr ?_; (case hd => rfl); (case hg => rfl); (case hr => exact ax22); intro gb318 hg w4 hbox hb; have n0_ := Aside0.mk (blk_below (g := gb316) (o := .cells #[.int .i64 a0_0, .int .i64 a0_1, .bool a0_2] 61 (0, 0)) ax119 hb); have n1_ := Aside0.mk (blk_below (g := gb317) (o := .cells #[.int .i64 0, .int .i64 0, .bool false] 53 (0, 0)) ax124 hb); have n2_ := Aside0.mk (below_step ax125 hb); have n3_ := Aside0.mk (hbox); have n4_ := Aside0.mk ((ax126 : w.heap.size ≤ gb318)); have n5_ := Aside0.mk ((ax126 : w.heap.size ≤ gb318)); have n6_ := Aside0.mk ((ax122 : gb316 ≠ gb318)); have n7_ := Aside0.mk ((ax123 : gb318 ≠ gb316)); have n8_ := Aside0.mk ((by rw [hg]; exact Nat.ne_of_lt (blk_lt (g := gb317) (o := .cells #[.int .i64 0, .int .i64 0, .bool false] 53 (0, 0)) ax124) : gb317 ≠ gb318)); have n9_ := Aside0.mk ((by rw [hg]; exact Nat.ne_of_gt (blk_lt (g := gb317) (o := .cells #[.int .i64 0, .int .i64 0, .bool false] 53 (0, 0)) ax124) : gb318 ≠ gb317)); clear BK316; clear BK317; clear HB; have BK316 := n0_; have BK317 := n1_; have HB := n2_; have BK318 := n3_; have GW318 := n4_; have GE318 := n5_; have NB316_318 := n6_; have NB318_316 := n7_; have NB317_318 := n8_; have NB318_317 := n9_; clear n0_ n1_ n2_ n3_ n4_ n5_ n6_ n7_ n8_ n9_; clear hb hbox hg; have hnb5 := NB316_317.out; have hnc5 := NB317_316.out; have hnb6 := NB316_318.out; have hnc6 := NB318_316.out; have hcz7_0 : w4.cell? ⟨gb316, 0, none⟩ = some (.int .i64 a0_0) := (blk_cell BK316.out 0).trans rfl; have hcz7_1 : w4.cell? ⟨gb316, 1, none⟩ = some (.int .i64 a0_1) := (blk_cell BK316.out 1).trans rfl; have hcz7_2 : w4.cell? ⟨gb316, 2, none⟩ = some (.bool a0_2) := (blk_cell BK316.out 2).trans rfl; have hfz7_0 := blk_frozen BK316.out 0; have hfz7_1 := blk_frozen BK316.out 1; have hfz7_2 := blk_frozen BK316.out 2; have hnb8 := NB318_317.out; have hnc8 := NB317_318.out; have hcz9_0 : w4.cell? ⟨gb318, 0, none⟩ = some (.int .i64 0) := (blk_cell BK318.out 0).trans rfl; have hcz9_1 : w4.cell? ⟨gb318, 1, none⟩ = some (.int .i64 0) := (blk_cell BK318.out 1).trans rfl; have hcz9_2 : w4.cell? ⟨gb318, 2, none⟩ = some (.bool false) := (blk_cell BK318.out 2).trans rfl; have hfz9_0 := blk_frozen BK318.out 0; have hfz9_1 := blk_frozen BK318.out 1; have hfz9_2 := blk_frozen BK318.out 2; have hcz10_0 : w4.cell? ⟨gb317, 0, none⟩ = some (.int .i64 0) := (blk_cell BK317.out 0).trans rfl; have hcz10_1 : w4.cell? ⟨gb317, 1, none⟩ = some (.int .i64 0) := (blk_cell BK317.out 1).trans rfl; have hcz10_2 : w4.cell? ⟨gb317, 2, none⟩ = some (.bool false) := (blk_cell BK317.out 2).trans rfl; have hfz10_0 := blk_frozen BK317.out 0; have hfz10_1 := blk_frozen BK317.out 1; have hfz10_2 := blk_frozen BK317.out 2))
 refine bodyPost_ret (results_cell_row rfl _ _ gb317 53 #[.int .i64 a0_0, .int .i64 a0_1, .bool a0_2] (0, 0) _ rfl (by (with_reducible repeat (first | refine blk_drewN ?_ _ | refine blk_drew ?_ | refine blk_alloc ?_ _)); refine blk_put (cs := #[.int .i64 a0_0, .int .i64 a0_1, .bool false]) ?_ 2 _ rfl; (with_reducible repeat (first | refine blk_drewN ?_ _ | refine blk_drew ?_ | refine blk_alloc ?_ _)); refine blk_put (cs := #[.int .i64 a0_0, .int .i64 0, .bool false]) ?_ 1 _ rfl; (with_reducible repeat (first | refine blk_drewN ?_ _ | refine blk_drew ?_ | refine blk_alloc ?_ _)); refine blk_put (cs := #[.int .i64 0, .int .i64 0, .bool false]) ?_ 0 _ rfl; (with_reducible repeat (first | refine blk_drewN ?_ _ | refine blk_drew ?_ | refine blk_alloc ?_ _)); refine blk_far ?_ NB317_318.out _; (with_reducible repeat (first | refine blk_drewN ?_ _ | refine blk_drew ?_ | refine blk_alloc ?_ _)); refine blk_far ?_ NB317_318.out _; (with_reducible repeat (first | refine blk_drewN ?_ _ | refine blk_drew ?_ | refine blk_alloc ?_ _)); refine blk_far ?_ NB317_318.out _; (with_reducible repeat (first | refine blk_drewN ?_ _ | refine blk_drew ?_ | refine blk_alloc ?_ _)); exact BK317.out) Tryd.underlying53 rfl (by kernel_rfl)) rfl ?_
 exact ⟨by first | rfl | (simp [errW_none, errW_some] <;> rfl) | (simp [*, errW_none, errW_some] <;> rfl), by repeat (first | (with_reducible first | exact HB.out | apply below_alloc | apply pw_below_drewN | apply below_drew1 | refine below_set ?_ GE316.out | refine below_set ?_ GE317.out | refine below_set ?_ GE318.out) | exact HB.out)⟩

end Go.Proofs.YtcbjfflaamlpcaaDoor.X

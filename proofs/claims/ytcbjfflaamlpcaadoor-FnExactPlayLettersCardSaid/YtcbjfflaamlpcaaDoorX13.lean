-- By gen.py (the session's own program over the kit's printer): functions of the program, each with its contract. Lean checks it.
import Derived.Test.YtcbjfflaamlpcaaDoorX0
import Derived.Test.YtcbjfflaamlpcaaDoorX9
namespace Go.Proofs.YtcbjfflaamlpcaaDoor.X
open Go.RowKit Go.Proofs.YtcbjfflaamlpcaaDoorW.PrintWords Go.Proofs.YtcbjfflaamlpcaaDoorW.PrintLast Go.Proofs.YtcbjfflaamlpcaaDoorW.PrintMore
attribute [local go_sem] max2_int min2_int max_two min_two max_three min_three max_four min_four   -- for this text's walks alone
set_option linter.unusedVariables false
set_option linter.unusedSimpArgs false

/-! ### spec_l2Kid: function 19 -/
def spec_l2Kid.l0 : Nat → Int → Int → Int → List (S53) → Option (Int)
 | 0, _, _, _, _ => none
 | k + 1, x1, x2, x7, x300000 => if x7 < (x300000.length : Int) then (if 0 ≤ x7 then (if ((rd_T53 x300000 x7).f1) = x1 then (if ((rd_T53 x300000 x7).f0) = x2 then (some x7) else (spec_l2Kid.l0 k x1 x2 (wrap64 (x7 + 1)) x300000)) else (spec_l2Kid.l0 k x1 x2 (wrap64 (x7 + 1)) x300000)) else (none)) else (some (-1))
def spec_l2Kid.f (k : Nat) (l0_0 : List (S53)) (a1 : Int) (a2 : Int) : Option (Int) := spec_l2Kid.l0 k a1 a2 (wrap64 (a1 + 1)) l0_0
theorem spec_l2Kid.mono_l : ∀ k, (∀ y0 y1 y2 y3, LeO (spec_l2Kid.l0 k y0 y1 y2 y3) (spec_l2Kid.l0 (k + 1) y0 y1 y2 y3))
 | 0 => fun _ _ _ _ r h => by simp [spec_l2Kid.l0] at h
 | k + 1 => by
  have ih0 := spec_l2Kid.mono_l k
  ·intro y0 y1 y2 y3
   unfold spec_l2Kid.l0
   repeat' first
   | (with_reducible exact ih0 _ _ _ _)
   | (with_reducible exact LeO.refl _)
   | (with_reducible exact LeO.none _)
   | (with_reducible refine LeO.ite ?_ ?_)
   | (with_reducible refine LeO.bind ?_ (fun _ => ?_))
   | exact ih0 _ _ _ _
   | exact LeO.none _
   | refine LeO.ite ?_ ?_
   | refine LeO.bind ?_ (fun _ => ?_)
theorem spec_l2Kid.mono : ∀ a0 a1 a2 k, LeO (spec_l2Kid.f k a0 a1 a2) (spec_l2Kid.f (k + 1) a0 a1 a2) := by
 intro a0 a1 a2 k
 have ih0 := spec_l2Kid.mono_l k
 unfold spec_l2Kid.f
 repeat' first
   | (with_reducible exact ih0 _ _ _ _)
   | (with_reducible exact LeO.refl _)
   | (with_reducible exact LeO.none _)
   | (with_reducible refine LeO.ite ?_ ?_)
   | (with_reducible refine LeO.bind ?_ (fun _ => ?_))
   | exact ih0 _ _ _ _
   | exact LeO.none _
   | refine LeO.ite ?_ ?_
   | refine LeO.bind ?_ (fun _ => ?_)
set_option maxHeartbeats 8000000 in
set_option maxRecDepth 100000 in
theorem spec_l2Kid.calls (k : Nat) (A0_0 : Option Addr) (c0_0 : Nat) (l0_0 : List (S53)) (a1 : Int) (a2 : Int) (r : Int) (w : World) (hr0_0 : Kd.C k53 w A0_0 l0_0.length l0_0) (hc0_0 : l0_0.length ≤ c0_0) (h : spec_l2Kid.f k l0_0 a1 a2 = some r) :
  Calls Tryd.prog 19 #[.agg #[.slice A0_0 l0_0.length c0_0], .int .i64 a1, .int .i64 a2] w fun e w' => e = .returned (.int .i64 r) ∧ Below w.heap.size w w' := by
 have hu30 := Tryd.underlying30; have HR0_0 := Aside0.mk hr0_0; have HC0_0 := Aside0.mk hc0_0; clear hr0_0 hc0_0; have HB := Aside0.mk (Below.refl w.heap.size w)
 have H : (spec_l2Kid.l0 k a1 a2 (wrap64 (a1 + 1)) l0_0) = some r := h
 clear h
 have H' := Aside0.mk H
 clear H
 go_enter Tryd.func19, Tryd.ntmps19
 go_wp2_with (first | ((with_reducible refine gate_dst (N := 3) rfl ?_); refine box_event ?hg (N := 3) ?hd (cs := #[.slice A0_0 l0_0.length c0_0]) (t := 30) ?hr ?_; (case hd => rfl); (case hg => rfl); (case hr => exact ax22); intro gb299 hg w4 hbox hb; have n0_ := Aside0.mk (below_step ax24 hb); have n1_ := Aside0.mk (hbox); have n2_ := Aside0.mk ((ax58 : w.heap.size ≤ gb299)); have n3_ := Aside0.mk ((ax58 : w.heap.size ≤ gb299)); clear HB; have HB := n0_; have BK299 := n1_; have GW299 := n2_; have GE299 := n3_; clear n0_ n1_ n2_ n3_; clear hb hbox hg))
 go_loopg [7] k (fun kq v7 w' => ∃ (x7_1 : Int), v7 = .int .i64 x7_1 ∧ Aside0 (spec_l2Kid.l0 kq a1 a2 x7_1 l0_0 = some r) ∧ Aside0 (kq ≤ k) ∧ Aside0 (w'.heap[gb299]? = some (.cells #[(.slice A0_0 l0_0.length c0_0)] 30 (0, 0))) ∧ Aside0 (Below w.heap.size w w'))
 case atStart => exact ⟨(wrap64 (a1 + 1)), ax20, H', ⟨Nat.le_refl _⟩, ⟨by (with_reducible repeat (first | refine blk_drewN ?_ _ | refine blk_drew ?_ | refine blk_alloc ?_ _)); exact BK299.out⟩, ⟨by repeat (first | (with_reducible first | exact HB.out | apply below_alloc | apply pw_below_drewN | apply below_drew1 | refine below_set ?_ GE299.out) | exact HB.out)⟩⟩
 case round =>
  clear H'
  try clear c1
  try clear p2
  obtain ⟨x7_1, rfl, HA, HK1, BK299, HB⟩ := hrel
  cases gk with
  | zero => exact absurd HA.out (by simp [spec_l2Kid.l0])
  | succ k1 =>
   have H := HA.out; clear HA
   simp only [spec_l2Kid.l0] at H
   by_cases c5 : x7_1 < (l0_0.length : Int)
   ·rw [if_pos c5] at H
    have c5b0 : decide (x7_1 < (l0_0.length : Int)) = true := decide_eq_true c5
    clear c5
    by_cases c6 : 0 ≤ x7_1
    ·rw [if_pos c6] at H
     have c6b0 : decide (0 ≤ x7_1) = true := decide_eq_true c6
     clear c6
     by_cases c7 : ((rd_T53 l0_0 x7_1).f1) = a1
     ·rw [if_pos c7] at H
      have c7b0 : (((rd_T53 l0_0 x7_1).f1) == a1) = true := beq_iff_eq.mpr c7
      have c7b1 : (((rd_T53 l0_0 x7_1).f1) != a1) = false := bne_eq_false_iff_eq.mpr c7
      clear c7
      by_cases c8 : ((rd_T53 l0_0 x7_1).f0) = a2
      ·rw [if_pos c8] at H
       have c8b0 : (((rd_T53 l0_0 x7_1).f0) == a2) = true := beq_iff_eq.mpr c8
       have c8b1 : (((rd_T53 l0_0 x7_1).f0) != a2) = false := bne_eq_false_iff_eq.mpr c8
       clear c8
       obtain rfl := Option.some.inj H
       have hcz9_0 : wr.cell? ⟨gb299, 0, none⟩ = some (.slice A0_0 l0_0.length c0_0) := (blk_cell BK299.out 0).trans rfl
       have hfz9_0 := blk_frozen BK299.out 0
       have p300 : 0 ≤ (x7_1 : Int) := of_decide_eq_true ax21
       have q300 : x7_1 < (l0_0.length : Int) := of_decide_eq_true ax21
       obtain ⟨ad300, e300, hx300_0, hx300_1, hx300_2⟩ := at_T53 HR0_0.out x7_1 p300 q300
       cases e300; replace hx300_0 := (HB.out.cell (World.block_lt_of_cell? w _ hx300_0)).trans hx300_0; replace hx300_1 := (HB.out.cell (World.block_lt_of_cell? w _ hx300_1)).trans hx300_1; replace hx300_2 := (HB.out.cell (World.block_lt_of_cell? w _ hx300_2)).trans hx300_2; replace p300 := eq_true p300; replace q300 := eq_true q300
       have p301 : 0 ≤ (x7_1 : Int) := of_decide_eq_true ax21
       have q301 : x7_1 < (l0_0.length : Int) := of_decide_eq_true ax21
       obtain ⟨ad301, e301, hx301_0, hx301_1, hx301_2⟩ := at_T53 HR0_0.out x7_1 p301 q301
       obtain rfl : ad300 = ad301 := (by injection e301)
       replace hx301_0 := (HB.out.cell (World.block_lt_of_cell? w _ hx301_0)).trans hx301_0; replace hx301_1 := (HB.out.cell (World.block_lt_of_cell? w _ hx301_1)).trans hx301_1; replace hx301_2 := (HB.out.cell (World.block_lt_of_cell? w _ hx301_2)).trans hx301_2; replace p301 := eq_true p301; replace q301 := eq_true q301
       go_wp2
       go_ret
       exact ⟨by first | rfl | (simp [errW_none, errW_some] <;> rfl) | (simp [*, errW_none, errW_some] <;> rfl), by repeat (first | (with_reducible first | exact HB.out | apply below_alloc | apply pw_below_drewN | apply below_drew1 | refine below_set ?_ GE299.out) | exact HB.out)⟩
      ·rw [if_neg c8] at H
       have c8b0 : (((rd_T53 l0_0 x7_1).f0) == a2) = false := beq_eq_false_iff_ne.mpr c8
       have c8b1 : (((rd_T53 l0_0 x7_1).f0) != a2) = true := bne_iff_ne.mpr c8
       have H' := Aside0.mk H
       clear H
       have hcz10_0 : wr.cell? ⟨gb299, 0, none⟩ = some (.slice A0_0 l0_0.length c0_0) := (blk_cell BK299.out 0).trans rfl
       have hfz10_0 := blk_frozen BK299.out 0
       have p300 : 0 ≤ (x7_1 : Int) := of_decide_eq_true ax21
       have q300 : x7_1 < (l0_0.length : Int) := of_decide_eq_true ax21
       obtain ⟨ad300, e300, hx300_0, hx300_1, hx300_2⟩ := at_T53 HR0_0.out x7_1 p300 q300
       cases e300; replace hx300_0 := (HB.out.cell (World.block_lt_of_cell? w _ hx300_0)).trans hx300_0; replace hx300_1 := (HB.out.cell (World.block_lt_of_cell? w _ hx300_1)).trans hx300_1; replace hx300_2 := (HB.out.cell (World.block_lt_of_cell? w _ hx300_2)).trans hx300_2; replace p300 := eq_true p300; replace q300 := eq_true q300
       have p301 : 0 ≤ (x7_1 : Int) := of_decide_eq_true ax21
       have q301 : x7_1 < (l0_0.length : Int) := of_decide_eq_true ax21
       obtain ⟨ad301, e301, hx301_0, hx301_1, hx301_2⟩ := at_T53 HR0_0.out x7_1 p301 q301
       obtain rfl : ad300 = ad301 := (by injection e301)
       replace hx301_0 := (HB.out.cell (World.block_lt_of_cell? w _ hx301_0)).trans hx301_0; replace hx301_1 := (HB.out.cell (World.block_lt_of_cell? w _ hx301_1)).trans hx301_1; replace hx301_2 := (HB.out.cell (World.block_lt_of_cell? w _ hx301_2)).trans hx301_2; replace p301 := eq_true p301; replace q301 := eq_true q301
       go_wp2
       go_roundg k1
       case measure => have := HK1.out; omega
       case rel => exact ⟨(wrap64 (x7_1 + 1)), ax20, H', ⟨by have := HK1.out; omega⟩, ⟨by (with_reducible repeat (first | refine blk_drewN ?_ _ | refine blk_drew ?_ | refine blk_alloc ?_ _)); exact BK299.out⟩, ⟨by repeat (first | (with_reducible first | exact HB.out | apply below_alloc | apply pw_below_drewN | apply below_drew1 | refine below_set ?_ GE299.out) | exact HB.out)⟩⟩
     ·rw [if_neg c7] at H
      have c7b0 : (((rd_T53 l0_0 x7_1).f1) == a1) = false := beq_eq_false_iff_ne.mpr c7
      have c7b1 : (((rd_T53 l0_0 x7_1).f1) != a1) = true := bne_iff_ne.mpr c7
      have H' := Aside0.mk H
      clear H
      have hcz11_0 : wr.cell? ⟨gb299, 0, none⟩ = some (.slice A0_0 l0_0.length c0_0) := (blk_cell BK299.out 0).trans rfl
      have hfz11_0 := blk_frozen BK299.out 0
      have p300 : 0 ≤ (x7_1 : Int) := of_decide_eq_true ax21
      have q300 : x7_1 < (l0_0.length : Int) := of_decide_eq_true ax21
      obtain ⟨ad300, e300, hx300_0, hx300_1, hx300_2⟩ := at_T53 HR0_0.out x7_1 p300 q300
      cases e300; replace hx300_0 := (HB.out.cell (World.block_lt_of_cell? w _ hx300_0)).trans hx300_0; replace hx300_1 := (HB.out.cell (World.block_lt_of_cell? w _ hx300_1)).trans hx300_1; replace hx300_2 := (HB.out.cell (World.block_lt_of_cell? w _ hx300_2)).trans hx300_2; replace p300 := eq_true p300; replace q300 := eq_true q300
      go_wp2
      go_roundg k1
      case measure => have := HK1.out; omega
      case rel => exact ⟨(wrap64 (x7_1 + 1)), ax20, H', ⟨by have := HK1.out; omega⟩, ⟨by (with_reducible repeat (first | refine blk_drewN ?_ _ | refine blk_drew ?_ | refine blk_alloc ?_ _)); exact BK299.out⟩, ⟨by repeat (first | (with_reducible first | exact HB.out | apply below_alloc | apply pw_below_drewN | apply below_drew1 | refine below_set ?_ GE299.out) | exact HB.out)⟩⟩
    ·exact ax3
   ·rw [if_neg c5] at H
    have c5b0 : decide (x7_1 < (l0_0.length : Int)) = false := decide_eq_false c5
    clear c5
    obtain rfl := Option.some.inj H
    have hcz12_0 : wr.cell? ⟨gb299, 0, none⟩ = some (.slice A0_0 l0_0.length c0_0) := (blk_cell BK299.out 0).trans rfl
    have hfz12_0 := blk_frozen BK299.out 0
    go_wp2
    go_ret
    exact ⟨by first | rfl | (simp [errW_none, errW_some] <;> rfl) | (simp [*, errW_none, errW_some] <;> rfl), by repeat (first | (with_reducible first | exact HB.out | apply below_alloc | apply pw_below_drewN | apply below_drew1 | refine below_set ?_ GE299.out) | exact HB.out)⟩

/-! ### spec_l11Fatal: function 20 -/
def spec_l11Fatal.f (k : Nat) (l0_0 : List (S53)) (a1 : Int) (a2 : Int) : Option (Bool) := if 0 ≤ a1 then (if a1 < (l0_0.length : Int) then (if (rd_T53 l0_0 a1).f2 = true then ((spec_l2Prefix.f k l0_0 a1).bind fun t304 => (some (decide ((t304.size : Int) ≥ a2)))) else (some false)) else (none)) else (none)
theorem spec_l11Fatal.mono : ∀ a0 a1 a2 k, LeO (spec_l11Fatal.f k a0 a1 a2) (spec_l11Fatal.f (k + 1) a0 a1 a2) := by
 intro a0 a1 a2 k
 unfold spec_l11Fatal.f
 repeat' first
   | (with_reducible exact spec_l2Prefix.mono _ _ _)
   | (with_reducible exact LeO.refl _)
   | (with_reducible exact LeO.none _)
   | (with_reducible refine LeO.ite ?_ ?_)
   | (with_reducible refine LeO.bind ?_ (fun _ => ?_))
   | exact spec_l2Prefix.mono _ _ _
   | exact LeO.none _
   | refine LeO.ite ?_ ?_
   | refine LeO.bind ?_ (fun _ => ?_)
set_option maxHeartbeats 8000000 in
set_option maxRecDepth 100000 in
theorem spec_l11Fatal.calls (k : Nat) (A0_0 : Option Addr) (c0_0 : Nat) (l0_0 : List (S53)) (a1 : Int) (a2 : Int) (r : Bool) (w : World) (hr0_0 : Kd.C k53 w A0_0 l0_0.length l0_0) (hc0_0 : l0_0.length ≤ c0_0) (h : spec_l11Fatal.f k l0_0 a1 a2 = some r) :
  Calls Tryd.prog 20 #[.agg #[.slice A0_0 l0_0.length c0_0], .int .i64 a1, .int .i64 a2] w fun e w' => e = .returned (.bool r) ∧ Below w.heap.size w w' := by
 have hu30 := Tryd.underlying30; have HR0_0 := Aside0.mk hr0_0; have HC0_0 := Aside0.mk hc0_0; clear hr0_0 hc0_0; have HB := Aside0.mk (Below.refl w.heap.size w)
 have H : (if 0 ≤ a1 then (if a1 < (l0_0.length : Int) then (if (rd_T53 l0_0 a1).f2 = true then ((spec_l2Prefix.f k l0_0 a1).bind fun t304 => (some (decide ((t304.size : Int) ≥ a2)))) else (some false)) else (none)) else (none)) = some r := h
 clear h
 by_cases c4 : 0 ≤ a1
 ·rw [if_pos c4] at H
  have c4b0 : decide (0 ≤ a1) = true := decide_eq_true c4
  clear c4
  by_cases c5 : a1 < (l0_0.length : Int)
  ·rw [if_pos c5] at H
   have c5b0 : decide (a1 < (l0_0.length : Int)) = true := decide_eq_true c5
   clear c5
   obtain ⟨bq6, hbq6⟩ : ∃ b_ : Bool, b_ = ((rd_T53 l0_0 a1).f2) := ⟨_, rfl⟩
   replace H : (if bq6 = true then ((spec_l2Prefix.f k l0_0 a1).bind fun t304 => (some (decide ((t304.size : Int) ≥ a2)))) else (some false)) = some r := by rw [← hbq6] at H; exact H
   have Nbq6 := Aside0.mk hbq6; clear hbq6
   by_cases c7 : bq6 = true
   ·subst c7
    have H1 : ((spec_l2Prefix.f k l0_0 a1).bind fun t304 => (some (decide ((t304.size : Int) ≥ a2)))) = some r := by rw [if_pos rfl] at H; exact H
    clear H; have H := H1; clear H1; replace H := Option.bind_eq_some_iff.mp H
    obtain ⟨t304, A80, H⟩ := H
    replace H : (some (decide ((t304.size : Int) ≥ a2))) = some r := H
    have A8 := Aside0.mk A80; clear A80
    obtain rfl := Option.some.inj H
    go_enter Tryd.func20, Tryd.ntmps20
    go_wp2_with (first | ((with_reducible refine gate_dst (N := 3) rfl ?_); (try (refine gate_guard (by rfl) ?_; dsimp only)); refine box_event ?hg (N := 3) ?hd (cs := #[.slice A0_0 l0_0.length c0_0]) (t := 30) ?hr ?_; (case hd => rfl); (case hg => rfl); (case hr => exact ax22); intro gb302 hg w9 hbox hb; have n0_ := Aside0.mk (below_step ax24 hb); have n1_ := Aside0.mk (hbox); have n2_ := Aside0.mk ((ax58 : w.heap.size ≤ gb302)); have n3_ := Aside0.mk ((ax58 : w.heap.size ≤ gb302)); clear HB; have HB := n0_; have BK302 := n1_; have GW302 := n2_; have GE302 := n3_; clear n0_ n1_ n2_ n3_; clear hb hbox hg; have hcz10_0 : w9.cell? ⟨gb302, 0, none⟩ = some (.slice A0_0 l0_0.length c0_0) := (blk_cell BK302.out 0).trans rfl; have hfz10_0 := blk_frozen BK302.out 0; have p303 : 0 ≤ (a1 : Int) := of_decide_eq_true ax21; have q303 : a1 < (l0_0.length : Int) := of_decide_eq_true ax21; obtain ⟨ad303, e303, hx303_0, hx303_1, hx303_2⟩ := at_T53 HR0_0.out a1 p303 q303; (try rw [← Nbq6.out] at hx303_2); cases e303; replace hx303_0 := (HB.out.cell (World.block_lt_of_cell? w _ hx303_0)).trans hx303_0; replace hx303_1 := (HB.out.cell (World.block_lt_of_cell? w _ hx303_1)).trans hx303_1; replace hx303_2 := (HB.out.cell (World.block_lt_of_cell? w _ hx303_2)).trans hx303_2; replace p303 := eq_true p303; replace q303 := eq_true q303) | (go_at_call 33; (with_reducible refine (spec_l2Prefix.calls k _ _ l0_0 a1 t304 _ ?side1 ?side2 A8.out).mono ?_); (case side1 => exact ax59); (case side2 => exact ax60); rintro e w11 ⟨rfl, hb⟩; have n0_ := Aside0.mk (blk_below (g := gb302) (o := .cells #[.slice (some ad303) l0_0.length c0_0] 30 (0, 0)) (by (with_reducible repeat (first | refine blk_drewN ?_ _ | refine blk_drew ?_ | refine blk_alloc ?_ _)); exact BK302.out) hb); have n1_ := Aside0.mk (below_step (by repeat (first | (with_reducible first | exact HB.out | apply below_alloc | apply pw_below_drewN | apply below_drew1 | refine below_set ?_ GE302.out) | exact HB.out)) hb); clear BK302; clear HB; have BK302 := n0_; have HB := n1_; clear n0_ n1_; (try clear hb); (try clear hb2); (try clear hk); (try clear hi)))
    go_ret
    exact ⟨by first | rfl | (simp [errW_none, errW_some] <;> rfl) | (simp [*, errW_none, errW_some] <;> rfl), by repeat (first | (with_reducible first | exact HB.out | apply below_alloc | apply pw_below_drewN | apply below_drew1 | refine below_set ?_ GE302.out) | exact HB.out)⟩
   ·replace c7 := Bool.eq_false_iff.mpr c7
    subst c7
    have H1 : (some false) = some r := by rw [if_neg (show ¬ (false = true) by decide)] at H; exact H
    clear H; have H := H1; clear H1
    obtain rfl := Option.some.inj H
    go_enter Tryd.func20, Tryd.ntmps20
    go_wp2_with (first | ((with_reducible refine gate_dst (N := 3) rfl ?_); (try (refine gate_guard (by rfl) ?_; dsimp only)); refine box_event ?hg (N := 3) ?hd (cs := #[.slice A0_0 l0_0.length c0_0]) (t := 30) ?hr ?_; (case hd => rfl); (case hg => rfl); (case hr => exact ax22); intro gb302 hg w12 hbox hb; have n0_ := Aside0.mk (below_step ax24 hb); have n1_ := Aside0.mk (hbox); have n2_ := Aside0.mk ((ax58 : w.heap.size ≤ gb302)); have n3_ := Aside0.mk ((ax58 : w.heap.size ≤ gb302)); clear HB; have HB := n0_; have BK302 := n1_; have GW302 := n2_; have GE302 := n3_; clear n0_ n1_ n2_ n3_; clear hb hbox hg; have hcz13_0 : w12.cell? ⟨gb302, 0, none⟩ = some (.slice A0_0 l0_0.length c0_0) := (blk_cell BK302.out 0).trans rfl; have hfz13_0 := blk_frozen BK302.out 0; have p303 : 0 ≤ (a1 : Int) := of_decide_eq_true ax21; have q303 : a1 < (l0_0.length : Int) := of_decide_eq_true ax21; obtain ⟨ad303, e303, hx303_0, hx303_1, hx303_2⟩ := at_T53 HR0_0.out a1 p303 q303; (try rw [← Nbq6.out] at hx303_2); cases e303; replace hx303_0 := (HB.out.cell (World.block_lt_of_cell? w _ hx303_0)).trans hx303_0; replace hx303_1 := (HB.out.cell (World.block_lt_of_cell? w _ hx303_1)).trans hx303_1; replace hx303_2 := (HB.out.cell (World.block_lt_of_cell? w _ hx303_2)).trans hx303_2; replace p303 := eq_true p303; replace q303 := eq_true q303))
    go_ret
    exact ⟨by first | rfl | (simp [errW_none, errW_some] <;> rfl) | (simp [*, errW_none, errW_some] <;> rfl), by repeat (first | (with_reducible first | exact HB.out | apply below_alloc | apply pw_below_drewN | apply below_drew1 | refine below_set ?_ GE302.out) | exact HB.out)⟩
  ·exact ax12
 ·exact ax11
end Go.Proofs.YtcbjfflaamlpcaaDoor.X

-- By gen.py (the session's own program over the kit's printer): functions of the program, each with its contract. Lean checks it.
import Derived.Test.YtnjjchbhbicmoaaGreatDoorX0
import Derived.Test.YtnjjchbhbicmoaaGreatDoorX1
import Derived.Test.YtnjjchbhbicmoaaGreatDoorX11
import Derived.Test.YtnjjchbhbicmoaaGreatDoorX15
import Derived.Test.YtnjjchbhbicmoaaGreatDoorX16
namespace Go.Proofs.YtnjjchbhbicmoaaGreatDoor.X
open Go.RowKit Go.Proofs.YtnjjchbhbicmoaaGreatDoorW.PrintWords Go.Proofs.YtnjjchbhbicmoaaGreatDoorW.PrintLast Go.Proofs.YtnjjchbhbicmoaaGreatDoorW.PrintMore
attribute [local go_sem] max2_int min2_int max_two min_two max_three min_three max_four min_four   -- for this text's walks alone
set_option linter.unusedVariables false
set_option linter.unusedSimpArgs false

/-! ### impl_Log_records: function 26 -/
mutual
def impl_Log_records.j0 : Nat → List (S71) → List Int → Bool → ByteArray → ByteArray → Int → Option ((List (S71)) × Bool)
 | 0, _, _, _, _, _, _ => none
 | k + 1, x5, x6, x36, x436000, x436001, x436002 => if x36 = true then (some (([] : List (S71)), false)) else (impl_Log_records.l0 k x5 x6 (x6.length : Int) 0 x436000 x436001 x436002)
def impl_Log_records.l0 : Nat → List (S71) → List Int → Int → Int → ByteArray → ByteArray → Int → Option ((List (S71)) × Bool)
 | 0, _, _, _, _, _, _, _ => none
 | k + 1, x5, x37, x38, x39, x436000, x436001, x436002 => if x39 < x38 then (if 0 ≤ x39 then (if x39 < (x37.length : Int) then (if (rd x37 x39) = (x436000.size : Int) then (some (x5, true)) else (impl_Log_records.l0 k x5 x37 x38 (wrap64 (x39 + 1)) x436000 x436001 x436002)) else (none)) else (none)) else (some (([] : List (S71)), false))
end
def impl_Log_records.f (k : Nat) (a0_0 : ByteArray) (a0_1 : ByteArray) (a0_2 : Int) : Option ((List (S71)) × Bool) := if a0_0.size + a0_1.size ≤ 9223372036854775807 then (if ((a0_0 ++ a0_1).size : Int) > 30000 then (some (([] : List (S71)), false)) else ((impl_readRecords.f k (a0_0 ++ a0_1)).bind fun bt436 => (if 0 ≤ (bt436.1.length : Int) then (if (bt436.1.length : Int) < (bt436.2.length : Int) then (if (rd bt436.2 (bt436.1.length : Int)) = ((a0_0 ++ a0_1).size : Int) then (impl_Log_records.j0 k bt436.1 bt436.2 ((bt436.1.length : Int) != a0_2) a0_0 a0_1 a0_2) else (impl_Log_records.j0 k bt436.1 bt436.2 true a0_0 a0_1 a0_2)) else (none)) else (none)))) else (none)
theorem impl_Log_records.mono_l : ∀ k, (∀ y0 y1 y2 y3 y4 y5, LeO (impl_Log_records.j0 k y0 y1 y2 y3 y4 y5) (impl_Log_records.j0 (k + 1) y0 y1 y2 y3 y4 y5)) ∧ (∀ y0 y1 y2 y3 y4 y5 y6, LeO (impl_Log_records.l0 k y0 y1 y2 y3 y4 y5 y6) (impl_Log_records.l0 (k + 1) y0 y1 y2 y3 y4 y5 y6))
 | 0 => ⟨fun _ _ _ _ _ _ r h => by simp [impl_Log_records.j0] at h, fun _ _ _ _ _ _ _ r h => by simp [impl_Log_records.l0] at h⟩
 | k + 1 => by
  obtain ⟨ih0, ih1⟩ := impl_Log_records.mono_l k
  refine ⟨?_, ?_⟩ <;> intros
  all_goals (first | unfold impl_Log_records.j0 | unfold impl_Log_records.l0)
  all_goals (repeat' first | (with_reducible first | exact ih0 .. | exact ih1 .. | exact impl_readRecords.mono .. | exact LeO.refl _ | exact LeO.none _ | refine LeO.ite ?_ ?_ | refine LeO.bind ?_ (fun _ => ?_)) | exact ih0 .. | exact ih1 .. | exact impl_readRecords.mono .. | exact LeO.none _ | refine LeO.ite ?_ ?_ | refine LeO.bind ?_ (fun _ => ?_))
theorem impl_Log_records.mono : ∀ a0 a1 a2 k, LeO (impl_Log_records.f k a0 a1 a2) (impl_Log_records.f (k + 1) a0 a1 a2) := by
 intro a0 a1 a2 k
 obtain ⟨ih0, ih1⟩ := impl_Log_records.mono_l k
 unfold impl_Log_records.f
 repeat' first | (with_reducible first | exact ih0 .. | exact ih1 .. | exact impl_readRecords.mono .. | exact LeO.refl _ | exact LeO.none _ | refine LeO.ite ?_ ?_ | refine LeO.bind ?_ (fun _ => ?_)) | exact ih0 .. | exact ih1 .. | exact impl_readRecords.mono .. | exact LeO.none _ | refine LeO.ite ?_ ?_ | refine LeO.bind ?_ (fun _ => ?_)
set_option maxHeartbeats 8000000 in
set_option maxRecDepth 100000 in
theorem impl_Log_records.calls (k : Nat) (a0_0 : ByteArray) (a0_1 : ByteArray) (a0_2 : Int) (r1 : List (S71)) (r2 : Bool) (w : World) (hG : GL w) (h : impl_Log_records.f k a0_0 a0_1 a0_2 = some (r1, r2)) :
  Calls Tryz.prog 26 #[.agg #[.string a0_0, .string a0_1, .int .i64 a0_2]] w fun e w' => ∃ v0_ : Value, e = .returned (.tuple #[v0_, .bool r2]) ∧ Kd.R k71 71 w' w.heap.size (fun _ => True) v0_ r1 ∧ Below w.heap.size w w' := by
 have hu31 := Tryz.underlying31; have HB := Aside0.mk (Below.refl w.heap.size w); have HG := Aside0.mk hG; clear hG
 have H : (if a0_0.size + a0_1.size ≤ 9223372036854775807 then (if ((a0_0 ++ a0_1).size : Int) > 30000 then (some (([] : List (S71)), false)) else ((impl_readRecords.f k (a0_0 ++ a0_1)).bind fun bt436 => (if 0 ≤ (bt436.1.length : Int) then (if (bt436.1.length : Int) < (bt436.2.length : Int) then (if (rd bt436.2 (bt436.1.length : Int)) = ((a0_0 ++ a0_1).size : Int) then (impl_Log_records.j0 k bt436.1 bt436.2 ((bt436.1.length : Int) != a0_2) a0_0 a0_1 a0_2) else (impl_Log_records.j0 k bt436.1 bt436.2 true a0_0 a0_1 a0_2)) else (none)) else (none)))) else (none)) = some (r1, r2) := h
 clear h
 by_cases c2 : a0_0.size + a0_1.size ≤ 9223372036854775807
 ·rw [if_pos c2] at H
  have c2b0 := eq_true c2
  have c2b1 : decide (a0_0.size + a0_1.size ≤ 9223372036854775807) = true := decide_eq_true c2
  try have c2b2 : (9223372036854775807 < a0_0.size + a0_1.size) = False := eq_false (Nat.not_lt.2 c2)
  clear c2
  obtain ⟨js3, hjs3⟩ : ∃ j_ : ByteArray, (a0_0 ++ a0_1) = j_ := ⟨_, rfl⟩
  replace H : (if (js3.size : Int) > 30000 then (some (([] : List (S71)), false)) else ((impl_readRecords.f k js3).bind fun bt436 => (if 0 ≤ (bt436.1.length : Int) then (if (bt436.1.length : Int) < (bt436.2.length : Int) then (if (rd bt436.2 (bt436.1.length : Int)) = (js3.size : Int) then (impl_Log_records.j0 k bt436.1 bt436.2 ((bt436.1.length : Int) != a0_2) a0_0 a0_1 a0_2) else (impl_Log_records.j0 k bt436.1 bt436.2 true a0_0 a0_1 a0_2)) else (none)) else (none)))) = some (r1, r2) := by first | (rw [hjs3] at H; exact H) | (simp only [hjs3] at H ⊢; exact H)
  by_cases c4 : (js3.size : Int) > 30000
  ·rw [if_pos c4] at H
   have c4b0 : decide (30000 < (js3.size : Int)) = true := decide_eq_true c4
   have c4b1 : decide (30000 < js3.size) = true := decide_eq_true (by omega)
   clear c4
   simp only [Option.some.injEq, Prod.mk.injEq] at H
   obtain ⟨rfl, rfl⟩ := H
   go_enter Tryz.func26, Tryz.ntmps26
   go_wp2_with (first | ((with_reducible refine gate_dst (N := 1) rfl ?_); (try (refine gate_guard (by rfl) ?_; dsimp only)); refine box_event ?hg (N := 1) ?hd (cs := #[.string a0_0, .string a0_1, .int .i64 a0_2]) (t := 31) ?hr ?_; (case hd => rfl); (case hg => rfl); (case hr => exact ax8); intro gb435 hg w5 hbox hb; have n0_ := Aside0.mk (below_step ax9 hb); have n1_ := Aside0.mk (hbox); have n2_ := Aside0.mk ((ax10 : w.heap.size ≤ gb435)); have n3_ := Aside0.mk ((ax10 : w.heap.size ≤ gb435)); clear HB; have HB := n0_; have BK435 := n1_; have GW435 := n2_; have GE435 := n3_; clear n0_ n1_ n2_ n3_; clear hb hbox hg; have hcz6_0 : w5.cell? ⟨gb435, 0, none⟩ = some (.string a0_0) := (blk_cell BK435.out 0).trans rfl; have hcz6_1 : w5.cell? ⟨gb435, 1, none⟩ = some (.string a0_1) := (blk_cell BK435.out 1).trans rfl; have hcz6_2 : w5.cell? ⟨gb435, 2, none⟩ = some (.int .i64 a0_2) := (blk_cell BK435.out 2).trans rfl; have hfz6_0 := blk_frozen BK435.out 0; have hfz6_1 := blk_frozen BK435.out 1; have hfz6_2 := blk_frozen BK435.out 2))
   go_ret2
   exact ⟨_, by first | rfl | (simp [errW_none, errW_some] <;> rfl) | (simp only [← hjs3]; first | rfl | (simp [errW_none, errW_some] <;> rfl)) | (simp [*, errW_none, errW_some] <;> rfl), by first | exact Kd.R_nil _ _ _ _ _ | exact Kd.N_nil _ _ _ _ _ | exact Kd.V_nil _ _ _ _ _ | exact Kd.Q_nil _ _ _ _ _ | exact Kd.S_nil _ _ _ _ _, by repeat (first | (with_reducible first | exact HB.out | apply below_alloc | apply pw_below_drewN | apply below_drew1 | refine below_set ?_ GE435.out) | exact HB.out)⟩
  ·rw [if_neg c4] at H
   have c4b0 : decide (30000 < (js3.size : Int)) = false := decide_eq_false c4
   have c4b1 : decide (30000 < js3.size) = false := decide_eq_false (by omega)
   clear c4
   obtain ⟨⟨t436, t437⟩, A7, H⟩ := bs H
   have HC8 := Aside0.mk H; clear H
   go_enter Tryz.func26, Tryz.ntmps26
   go_upto_region 5 with (first | ((with_reducible refine gate_dst (N := 1) rfl ?_); (try (refine gate_guard (by rfl) ?_; dsimp only)); refine box_event ?hg (N := 1) ?hd (cs := #[.string a0_0, .string a0_1, .int .i64 a0_2]) (t := 31) ?hr ?_; (case hd => rfl); (case hg => rfl); (case hr => exact ax8); intro gb435 hg w9 hbox hb; have n0_ := Aside0.mk (below_step ax9 hb); have n1_ := Aside0.mk (hbox); have n2_ := Aside0.mk ((ax10 : w.heap.size ≤ gb435)); have n3_ := Aside0.mk ((ax10 : w.heap.size ≤ gb435)); clear HB; have HB := n0_; have BK435 := n1_; have GW435 := n2_; have GE435 := n3_; clear n0_ n1_ n2_ n3_; clear hb hbox hg; have hcz10_0 : w9.cell? ⟨gb435, 0, none⟩ = some (.string a0_0) := (blk_cell BK435.out 0).trans rfl; have hcz10_1 : w9.cell? ⟨gb435, 1, none⟩ = some (.string a0_1) := (blk_cell BK435.out 1).trans rfl; have hcz10_2 : w9.cell? ⟨gb435, 2, none⟩ = some (.int .i64 a0_2) := (blk_cell BK435.out 2).trans rfl; have hfz10_0 := blk_frozen BK435.out 0; have hfz10_1 := blk_frozen BK435.out 1; have hfz10_2 := blk_frozen BK435.out 2) | ((with_reducible refine gate_callee (f := 44) rfl ?_); refine goesL_ (some 19) rfl rfl Tryz.func44 (by kernel_rfl) rfl #[.string js3] rfl ax12 ?_; (with_reducible refine (impl_readRecords.calls k js3 t436 t437 _ ?side1 A7.out).mono ?_); (case side1 => exact GL.below HG.out ax234); rintro e w11 ⟨v438, v440, rfl, ho0, ho1, hb⟩; refine ⟨_, rfl, ?_⟩; have n0_ := Aside0.mk (Kd.R_lower ho0 (below_size ax234)); have n1_ := Aside0.mk (Kd.R_lower ho1 (below_size ax234)); have n2_ := Aside0.mk (blk_below (g := gb435) (o := .cells #[.string a0_0, .string a0_1, .int .i64 a0_2] 31 (0, 0)) ax235 hb); have n3_ := Aside0.mk (below_step ax234 hb); clear BK435; clear HB; have HO439 := n0_; have HO441 := n1_; have BK435 := n2_; have HB := n3_; clear n0_ n1_ n2_ n3_; (try clear hb); (try clear hb2); (try clear hk); (try clear hi); (try clear ho0); (try clear ho1)))
   (try simp only [Act.put, List.setIfInBounds_toArray, List.set_cons_zero, List.set_cons_succ])
   go_cut [36] (fun v36 wc => ∃ (kq : Nat) (x36_7 : Bool), v36 = .bool x36_7 ∧ Aside0 (impl_Log_records.j0 kq t436 t437 x36_7 a0_0 a0_1 a0_2 = some (r1, r2)) ∧ Aside0 (kq ≤ k) ∧ Aside0 (Kd.R k71 71 wc w.heap.size (fun _ => True) v438 t436) ∧ Aside0 (Kd.R (Kd.int .i64) 3 wc w.heap.size (fun _ => True) v440 t437) ∧ Aside0 (wc.heap[gb435]? = some (.cells #[.string a0_0, .string a0_1, .int .i64 a0_2] 31 (0, 0))) ∧ Aside0 (Below w.heap.size w wc))
   case first =>
    have H := HC8.out; clear HC8
    by_cases c12 : 0 ≤ (t436.length : Int)
    ·rw [if_pos c12] at H
     have c12b0 : decide (0 ≤ (t436.length : Int)) = true := decide_eq_true c12
     have c12b1 : decide (0 ≤ t436.length) = true := decide_eq_true (by omega)
     clear c12
     (first | rw [c12b0] | (simp only [i64_w, i32_w]; rw [c12b0]) | skip)
     by_cases c13 : (t436.length : Int) < (t437.length : Int)
     ·rw [if_pos c13] at H
      have c13b0 : decide ((t436.length : Int) < (t437.length : Int)) = true := decide_eq_true c13
      have c13b1 : decide (t436.length < t437.length) = true := decide_eq_true (Int.ofNat_lt.mp c13)
      clear c13
      by_cases c14 : (rd t437 (t436.length : Int)) = (js3.size : Int)
      ·rw [if_pos c14] at H
       have c14b0 : ((rd t437 (t436.length : Int)) == (js3.size : Int)) = true := beq_iff_eq.mpr c14
       have c14b1 : ((rd t437 (t436.length : Int)) != (js3.size : Int)) = false := bne_eq_false_iff_eq.mpr c14
       clear c14
       have H' := Aside0.mk H
       clear H
       obtain ⟨Ao15, co15, eo15⟩ := Kd.R_slice HO439.out
       subst eo15
       obtain ⟨Ao16, co16, eo16⟩ := Kd.R_slice HO441.out
       subst eo16
       have p442 : 0 ≤ ((t436.length : Int) : Int) := of_decide_eq_true ax17
       have q442 : (t436.length : Int) < (t437.length : Int) := of_decide_eq_true ax17
       obtain ⟨ad442, e442, hx442_0⟩ := Kd.at_int (Kd.R_reads' HO441.out).2.2 (t436.length : Int) p442 q442
       cases e442
       (try simp only [Go.IntWalk.toNatUp] at hx442_0)
       replace p442 := eq_true p442; replace q442 := eq_true q442
       have hcz17_0 : w11.cell? ⟨gb435, 0, none⟩ = some (.string a0_0) := (blk_cell BK435.out 0).trans rfl
       have hcz17_1 : w11.cell? ⟨gb435, 1, none⟩ = some (.string a0_1) := (blk_cell BK435.out 1).trans rfl
       have hcz17_2 : w11.cell? ⟨gb435, 2, none⟩ = some (.int .i64 a0_2) := (blk_cell BK435.out 2).trans rfl
       have hfz17_0 := blk_frozen BK435.out 0; have hfz17_1 := blk_frozen BK435.out 1; have hfz17_2 := blk_frozen BK435.out 2
       go_wp2
       go_meet
       case rel => exact ⟨_, (((t436.length : Int) != a0_2)), ax15, H', ⟨by first | omega | exact Nat.le_refl _⟩, ⟨ax236⟩, ⟨ax237⟩, ⟨ax235⟩, ⟨ax234⟩⟩
      ·rw [if_neg c14] at H
       have c14b0 : ((rd t437 (t436.length : Int)) == (js3.size : Int)) = false := beq_eq_false_iff_ne.mpr c14
       have c14b1 : ((rd t437 (t436.length : Int)) != (js3.size : Int)) = true := bne_iff_ne.mpr c14
       have H' := Aside0.mk H
       clear H
       obtain ⟨Ao18, co18, eo18⟩ := Kd.R_slice HO439.out
       subst eo18
       obtain ⟨Ao19, co19, eo19⟩ := Kd.R_slice HO441.out
       subst eo19
       have p442 : 0 ≤ ((t436.length : Int) : Int) := of_decide_eq_true ax17
       have q442 : (t436.length : Int) < (t437.length : Int) := of_decide_eq_true ax17
       obtain ⟨ad442, e442, hx442_0⟩ := Kd.at_int (Kd.R_reads' HO441.out).2.2 (t436.length : Int) p442 q442
       cases e442
       (try simp only [Go.IntWalk.toNatUp] at hx442_0)
       replace p442 := eq_true p442; replace q442 := eq_true q442
       go_wp2
       go_meet
       case rel => exact ⟨_, (true), ax15, H', ⟨by first | omega | exact Nat.le_refl _⟩, ⟨ax236⟩, ⟨ax237⟩, ⟨ax235⟩, ⟨ax234⟩⟩
     ·rw [if_neg c13] at H
      exact absurd H (by simp)
    ·rw [if_neg c12] at H
     exact absurd H (by simp)
   case rest =>
    clear HC8
    try clear c1
    try clear c2
    try clear c2b0
    try clear c2b1
    try clear c2b2
    try clear p2
    try clear c4
    try clear c4b0
    try clear c4b1
    try clear p4
    try clear q4
    try clear hx4
    try clear c12
    try clear c12b0
    try clear c12b1
    try clear c13
    try clear c13b0
    try clear c13b1
    try clear c14
    try clear c14b0
    try clear c14b1
    try clear hcz10_0
    try clear hcz10_1
    try clear hcz10_2
    try clear hcz17_0
    try clear hcz17_1
    try clear hcz17_2
    try clear hcz6_0
    try clear hcz6_1
    try clear hcz6_2
    try clear hfz10_0
    try clear hfz10_1
    try clear hfz10_2
    try clear hfz17_0
    try clear hfz17_1
    try clear hfz17_2
    try clear hfz6_0
    try clear hfz6_1
    try clear hfz6_2
    try clear hx442_0
    try clear p442
    try clear q442
    obtain ⟨kq, x36_7, rfl, HA, HJ7, HO_5, HO_6, BK435, HB⟩ := hcut
    cases kq with
    | zero => exact absurd HA.out (by simp [impl_Log_records.j0])
    | succ kj7 =>
     have H := HA.out; clear HA
     simp only [impl_Log_records.j0] at H
     by_cases c20 : x36_7 = true
     ·subst c20
      rw [if_pos rfl] at H
      simp only [Option.some.injEq, Prod.mk.injEq] at H
      obtain ⟨rfl, rfl⟩ := H
      go_wp2
      go_ret2
      exact ⟨_, by first | rfl | (simp [errW_none, errW_some] <;> rfl) | (simp only [← hjs3]; first | rfl | (simp [errW_none, errW_some] <;> rfl)) | (simp [*, errW_none, errW_some] <;> rfl), by first | exact Kd.R_nil _ _ _ _ _ | exact Kd.N_nil _ _ _ _ _ | exact Kd.V_nil _ _ _ _ _ | exact Kd.Q_nil _ _ _ _ _ | exact Kd.S_nil _ _ _ _ _, by repeat (first | (with_reducible first | exact HB.out | apply below_alloc | apply pw_below_drewN | apply below_drew1 | refine below_set ?_ GE435.out) | exact HB.out)⟩
     ·replace c20 := Bool.eq_false_iff.mpr c20
      subst c20
      rw [if_neg (show ¬ (false = true) by decide)] at H
      have H' := Aside0.mk H
      clear H
      obtain ⟨Ao21, co21, eo21⟩ := Kd.R_slice HO_6.out
      subst eo21
      go_wp2
      go_loopg [39] kj7 (fun kq v39 w' => ∃ (x39_2 : Int), v39 = .int .i64 x39_2 ∧ Aside0 (impl_Log_records.l0 kq t436 t437 (t437.length : Int) x39_2 a0_0 a0_1 a0_2 = some (r1, r2)) ∧ Aside0 (kq ≤ kj7) ∧ Aside0 (Kd.R k71 71 w' w.heap.size (fun _ => True) v438 t436) ∧ Aside0 (Kd.R (Kd.int .i64) 3 w' w.heap.size (fun _ => True) (.slice Ao21 t437.length co21) t437) ∧ Aside0 (w'.heap[gb435]? = some (.cells #[.string a0_0, .string a0_1, .int .i64 a0_2] 31 (0, 0))) ∧ Aside0 (Below w.heap.size w w'))
      case atStart => exact ⟨(0), ax15, H', ⟨Nat.le_refl _⟩, ⟨ax23⟩, ⟨(by (with_reducible repeat (first | apply Kd.R_alloc | apply Kd.R_drewN | apply Kd.R_drew)); exact HO_6.out)⟩, ⟨ax235⟩, ⟨ax234⟩⟩
      case round =>
       clear H'
       try clear c1
       try clear c2
       try clear c2b0
       try clear c2b1
       try clear c2b2
       try clear p2
       try clear c4
       try clear c4b0
       try clear c4b1
       try clear p4
       try clear q4
       try clear hx4
       try clear c12
       try clear c12b0
       try clear c12b1
       try clear c13
       try clear c13b0
       try clear c13b1
       try clear c14
       try clear c14b0
       try clear c14b1
       try clear c20
       try clear hcz10_0
       try clear hcz10_1
       try clear hcz10_2
       try clear hcz17_0
       try clear hcz17_1
       try clear hcz17_2
       try clear hcz6_0
       try clear hcz6_1
       try clear hcz6_2
       try clear hfz10_0
       try clear hfz10_1
       try clear hfz10_2
       try clear hfz17_0
       try clear hfz17_1
       try clear hfz17_2
       try clear hfz6_0
       try clear hfz6_1
       try clear hfz6_2
       try clear hx442_0
       try clear p2
       try clear p4
       try clear p442
       try clear q4
       try clear q442
       obtain ⟨x39_2, rfl, HA, HK2, HO_5, HO_37, BK435, HB⟩ := hrel
       cases gk with
       | zero => exact absurd HA.out (by simp [impl_Log_records.l0])
       | succ k2 =>
        have H := HA.out; clear HA
        simp only [impl_Log_records.l0] at H
        by_cases c22 : x39_2 < (t437.length : Int)
        ·rw [if_pos c22] at H
         have c22b0 : decide (x39_2 < (t437.length : Int)) = true := decide_eq_true c22
         clear c22
         by_cases c23 : 0 ≤ x39_2
         ·rw [if_pos c23] at H
          have c23b0 : decide (0 ≤ x39_2) = true := decide_eq_true c23
          clear c23
          by_cases c24 : x39_2 < (t437.length : Int)
          ·rw [if_pos c24] at H
           have c24b0 : decide (x39_2 < (t437.length : Int)) = true := decide_eq_true c24
           clear c24
           by_cases c25 : (rd t437 x39_2) = (a0_0.size : Int)
           ·rw [if_pos c25] at H
            have c25b0 : ((rd t437 x39_2) == (a0_0.size : Int)) = true := beq_iff_eq.mpr c25
            have c25b1 : ((rd t437 x39_2) != (a0_0.size : Int)) = false := bne_eq_false_iff_eq.mpr c25
            clear c25
            simp only [Option.some.injEq, Prod.mk.injEq] at H
            obtain ⟨rfl, rfl⟩ := H
            have p443 : 0 ≤ (x39_2 : Int) := of_decide_eq_true ax17
            have q443 : x39_2 < (t437.length : Int) := of_decide_eq_true ax17
            obtain ⟨ad443, e443, hx443_0⟩ := Kd.at_int (Kd.R_reads' HO_37.out).2.2 x39_2 p443 q443
            cases e443; replace p443 := eq_true p443; replace q443 := eq_true q443
            have hcz26_0 : wr.cell? ⟨gb435, 0, none⟩ = some (.string a0_0) := (blk_cell BK435.out 0).trans rfl
            have hcz26_1 : wr.cell? ⟨gb435, 1, none⟩ = some (.string a0_1) := (blk_cell BK435.out 1).trans rfl
            have hcz26_2 : wr.cell? ⟨gb435, 2, none⟩ = some (.int .i64 a0_2) := (blk_cell BK435.out 2).trans rfl
            have hfz26_0 := blk_frozen BK435.out 0; have hfz26_1 := blk_frozen BK435.out 1; have hfz26_2 := blk_frozen BK435.out 2
            go_wp2
            go_ret2
            exact ⟨_, by first | rfl | (simp [errW_none, errW_some] <;> rfl) | (simp only [← hjs3]; first | rfl | (simp [errW_none, errW_some] <;> rfl)) | (simp [*, errW_none, errW_some] <;> rfl), by (with_reducible repeat (first | apply Kd.R_alloc | apply Kd.R_drewN | apply Kd.R_drew)); exact HO_5.out, by repeat (first | (with_reducible first | exact HB.out | apply below_alloc | apply pw_below_drewN | apply below_drew1 | refine below_set ?_ GE435.out) | exact HB.out)⟩
           ·rw [if_neg c25] at H
            have c25b0 : ((rd t437 x39_2) == (a0_0.size : Int)) = false := beq_eq_false_iff_ne.mpr c25
            have c25b1 : ((rd t437 x39_2) != (a0_0.size : Int)) = true := bne_iff_ne.mpr c25
            have H' := Aside0.mk H
            clear H
            have p443 : 0 ≤ (x39_2 : Int) := of_decide_eq_true ax17
            have q443 : x39_2 < (t437.length : Int) := of_decide_eq_true ax17
            obtain ⟨ad443, e443, hx443_0⟩ := Kd.at_int (Kd.R_reads' HO_37.out).2.2 x39_2 p443 q443
            cases e443; replace p443 := eq_true p443; replace q443 := eq_true q443
            have hcz27_0 : wr.cell? ⟨gb435, 0, none⟩ = some (.string a0_0) := (blk_cell BK435.out 0).trans rfl
            have hcz27_1 : wr.cell? ⟨gb435, 1, none⟩ = some (.string a0_1) := (blk_cell BK435.out 1).trans rfl
            have hcz27_2 : wr.cell? ⟨gb435, 2, none⟩ = some (.int .i64 a0_2) := (blk_cell BK435.out 2).trans rfl
            have hfz27_0 := blk_frozen BK435.out 0; have hfz27_1 := blk_frozen BK435.out 1; have hfz27_2 := blk_frozen BK435.out 2
            go_wp2
            go_roundg k2
            case measure => have := HJ7.out; have := HK2.out; omega
            case rel => exact ⟨(wrap64 (x39_2 + 1)), ax15, H', ⟨(by have := HJ7.out; have := HK2.out; omega)⟩, ⟨ax23⟩, ⟨(by (with_reducible repeat (first | apply Kd.R_alloc | apply Kd.R_drewN | apply Kd.R_drew)); exact HO_37.out)⟩, ⟨ax235⟩, ⟨ax234⟩⟩
          ·rw [if_neg c24] at H
           exact absurd H (by simp)
         ·rw [if_neg c23] at H
          exact absurd H (by simp)
        ·rw [if_neg c22] at H
         have c22b0 : decide (x39_2 < (t437.length : Int)) = false := decide_eq_false c22
         clear c22
         simp only [Option.some.injEq, Prod.mk.injEq] at H
         obtain ⟨rfl, rfl⟩ := H
         go_wp2
         go_ret2
         exact ⟨_, by first | rfl | (simp [errW_none, errW_some] <;> rfl) | (simp only [← hjs3]; first | rfl | (simp [errW_none, errW_some] <;> rfl)) | (simp [*, errW_none, errW_some] <;> rfl), by first | exact Kd.R_nil _ _ _ _ _ | exact Kd.N_nil _ _ _ _ _ | exact Kd.V_nil _ _ _ _ _ | exact Kd.Q_nil _ _ _ _ _ | exact Kd.S_nil _ _ _ _ _, by repeat (first | (with_reducible first | exact HB.out | apply below_alloc | apply pw_below_drewN | apply below_drew1 | refine below_set ?_ GE435.out) | exact HB.out)⟩
 ·rw [if_neg c2] at H
  exact absurd H (by simp)

/-! ### impl_IsValidLog: function 15 -/
def impl_IsValidLog.f (k : Nat) (a0_0 : ByteArray) (a0_1 : ByteArray) (a0_2 : Int) : Option (Bool) := (impl_Log_records.f k a0_0 a0_1 a0_2).bind fun bt445 => (some bt445.2)
theorem impl_IsValidLog.mono : ∀ a0 a1 a2 k, LeO (impl_IsValidLog.f k a0 a1 a2) (impl_IsValidLog.f (k + 1) a0 a1 a2) := by
 intro a0 a1 a2 k
 unfold impl_IsValidLog.f
 repeat' first | (with_reducible first | exact impl_Log_records.mono .. | exact LeO.refl _ | exact LeO.none _ | refine LeO.ite ?_ ?_ | refine LeO.bind ?_ (fun _ => ?_)) | exact impl_Log_records.mono .. | exact LeO.none _ | refine LeO.ite ?_ ?_ | refine LeO.bind ?_ (fun _ => ?_)
set_option maxHeartbeats 8000000 in
set_option maxRecDepth 100000 in
theorem impl_IsValidLog.calls (k : Nat) (a0_0 : ByteArray) (a0_1 : ByteArray) (a0_2 : Int) (r : Bool) (w : World) (hG : GL w) (h : impl_IsValidLog.f k a0_0 a0_1 a0_2 = some r) :
  Calls Tryz.prog 15 #[.agg #[.string a0_0, .string a0_1, .int .i64 a0_2]] w fun e w' => e = .returned (.bool r) ∧ Below w.heap.size w w' := by
 have hu31 := Tryz.underlying31; have HB := Aside0.mk (Below.refl w.heap.size w); have HG := Aside0.mk hG; clear hG
 have H : ((impl_Log_records.f k a0_0 a0_1 a0_2).bind fun bt445 => (some bt445.2)) = some r := h
 clear h
 obtain ⟨⟨t445, t448⟩, A2, H⟩ := bs H
 obtain rfl := Option.some.inj H
 go_enter Tryz.func15, Tryz.ntmps15
 go_wp2_with (first | ((with_reducible refine gate_dst (N := 1) rfl ?_); refine box_event ?hg (N := 1) ?hd (cs := #[.string a0_0, .string a0_1, .int .i64 a0_2]) (t := 31) ?hr ?_; (case hd => rfl); (case hg => rfl); (case hr => exact ax8); intro gb444 hg w3 hbox hb; have n0_ := Aside0.mk (below_step ax9 hb); have n1_ := Aside0.mk (hbox); have n2_ := Aside0.mk ((ax10 : w.heap.size ≤ gb444)); have n3_ := Aside0.mk ((ax10 : w.heap.size ≤ gb444)); clear HB; have HB := n0_; have BK444 := n1_; have GW444 := n2_; have GE444 := n3_; clear n0_ n1_ n2_ n3_; clear hb hbox hg; have hcz4_0 : w3.cell? ⟨gb444, 0, none⟩ = some (.string a0_0) := (blk_cell BK444.out 0).trans rfl; have hcz4_1 : w3.cell? ⟨gb444, 1, none⟩ = some (.string a0_1) := (blk_cell BK444.out 1).trans rfl; have hcz4_2 : w3.cell? ⟨gb444, 2, none⟩ = some (.int .i64 a0_2) := (blk_cell BK444.out 2).trans rfl; have hfz4_0 := blk_frozen BK444.out 0; have hfz4_1 := blk_frozen BK444.out 1; have hfz4_2 := blk_frozen BK444.out 2) | ((with_reducible refine gate_callee (f := 26) rfl ?_); refine goesL_ (some 7) rfl rfl Tryz.func26 (by kernel_rfl) rfl #[.agg #[.string a0_0, .string a0_1, .int .i64 a0_2]] rfl ax12 ?_; (with_reducible refine (impl_Log_records.calls k a0_0 a0_1 a0_2 t445 t448 _ ?side1 A2.out).mono ?_); (case side1 => exact GL.below HG.out ax238); rintro e w5 ⟨v446, rfl, ho0, hb⟩; refine ⟨_, rfl, ?_⟩; have n0_ := Aside0.mk (Kd.R_lower ho0 (below_size ax238)); have n1_ := Aside0.mk (blk_below (g := gb444) (o := .cells #[.string a0_0, .string a0_1, .int .i64 a0_2] 31 (0, 0)) (by (with_reducible repeat (first | refine blk_drewN ?_ _ | refine blk_drew ?_ | refine blk_alloc ?_ _)); exact BK444.out) hb); have n2_ := Aside0.mk (below_step ax238 hb); clear BK444; clear HB; have HO447 := n0_; have BK444 := n1_; have HB := n2_; clear n0_ n1_ n2_; (try clear hb); (try clear hb2); (try clear hk); (try clear hi); (try clear ho0)))
 go_ret
 exact ⟨ax11, by repeat (first | (with_reducible first | exact HB.out | apply below_alloc | apply pw_below_drewN | apply below_drew1 | refine below_set ?_ GE444.out) | exact HB.out)⟩

/-! ### impl_IsValidConsole: function 7 -/
def impl_IsValidConsole.f (k : Nat) (a0_0 : ByteArray) (a0_1 : ByteArray) (a0_2 : Int) (a0_3 : ByteArray) (a0_4 : ByteArray) (a0_5 : Int) : Option (Bool) := (impl_Book_isBook.f k a0_0 a0_1 a0_2).bind fun t450 => (if t450 = true then ((impl_IsValidLog.f k a0_3 a0_4 a0_5).bind fun t451 => (some t451)) else (some false))
theorem impl_IsValidConsole.mono : ∀ a0 a1 a2 a3 a4 a5 k, LeO (impl_IsValidConsole.f k a0 a1 a2 a3 a4 a5) (impl_IsValidConsole.f (k + 1) a0 a1 a2 a3 a4 a5) := by
 intro a0 a1 a2 a3 a4 a5 k
 unfold impl_IsValidConsole.f
 repeat' first | (with_reducible first | exact impl_Book_isBook.mono .. | exact impl_IsValidLog.mono .. | exact LeO.refl _ | exact LeO.none _ | refine LeO.ite ?_ ?_ | refine LeO.bind ?_ (fun _ => ?_)) | exact impl_Book_isBook.mono .. | exact impl_IsValidLog.mono .. | exact LeO.none _ | refine LeO.ite ?_ ?_ | refine LeO.bind ?_ (fun _ => ?_)
set_option maxHeartbeats 8000000 in
set_option maxRecDepth 100000 in
theorem impl_IsValidConsole.calls (k : Nat) (a0_0 : ByteArray) (a0_1 : ByteArray) (a0_2 : Int) (a0_3 : ByteArray) (a0_4 : ByteArray) (a0_5 : Int) (r : Bool) (w : World) (hG : GL w) (h : impl_IsValidConsole.f k a0_0 a0_1 a0_2 a0_3 a0_4 a0_5 = some r) :
  Calls Tryz.prog 7 #[.agg #[.string a0_0, .string a0_1, .int .i64 a0_2, .string a0_3, .string a0_4, .int .i64 a0_5]] w fun e w' => e = .returned (.bool r) ∧ Below w.heap.size w w' := by
 have hu33 := Tryz.underlying33; have hu30 := Tryz.underlying30; have hu31 := Tryz.underlying31; have HB := Aside0.mk (Below.refl w.heap.size w); have HG := Aside0.mk hG; clear hG
 have H : ((impl_Book_isBook.f k a0_0 a0_1 a0_2).bind fun t450 => (if t450 = true then ((impl_IsValidLog.f k a0_3 a0_4 a0_5).bind fun t451 => (some t451)) else (some false))) = some r := h
 clear h
 obtain ⟨t450, A2, H⟩ := bs H
 by_cases c3 : t450 = true
 ·subst c3
  rw [if_pos rfl] at H
  obtain ⟨t451, A4, H⟩ := bs H
  obtain rfl := Option.some.inj H
  go_enter Tryz.func7, Tryz.ntmps7
  go_wp2_with (first | ((with_reducible refine gate_dst (N := 1) rfl ?_); refine box_event ?hg (N := 1) ?hd (cs := #[.string a0_0, .string a0_1, .int .i64 a0_2, .string a0_3, .string a0_4, .int .i64 a0_5]) (t := 33) ?hr ?_; (case hd => rfl); (case hg => rfl); (case hr => exact ax8); intro gb449 hg w5 hbox hb; have n0_ := Aside0.mk (below_step ax9 hb); have n1_ := Aside0.mk (hbox); have n2_ := Aside0.mk ((ax10 : w.heap.size ≤ gb449)); have n3_ := Aside0.mk ((ax10 : w.heap.size ≤ gb449)); clear HB; have HB := n0_; have BK449 := n1_; have GW449 := n2_; have GE449 := n3_; clear n0_ n1_ n2_ n3_; clear hb hbox hg; have hcz6_0 : w5.cell? ⟨gb449, 0, none⟩ = some (.string a0_0) := (blk_cell BK449.out 0).trans rfl; have hcz6_1 : w5.cell? ⟨gb449, 1, none⟩ = some (.string a0_1) := (blk_cell BK449.out 1).trans rfl; have hcz6_2 : w5.cell? ⟨gb449, 2, none⟩ = some (.int .i64 a0_2) := (blk_cell BK449.out 2).trans rfl; have hcz6_3 : w5.cell? ⟨gb449, 3, none⟩ = some (.string a0_3) := (blk_cell BK449.out 3).trans rfl; have hcz6_4 : w5.cell? ⟨gb449, 4, none⟩ = some (.string a0_4) := (blk_cell BK449.out 4).trans rfl; have hcz6_5 : w5.cell? ⟨gb449, 5, none⟩ = some (.int .i64 a0_5) := (blk_cell BK449.out 5).trans rfl; have hfz6_0 := blk_frozen BK449.out 0; have hfz6_1 := blk_frozen BK449.out 1; have hfz6_2 := blk_frozen BK449.out 2; have hfz6_3 := blk_frozen BK449.out 3; have hfz6_4 := blk_frozen BK449.out 4; have hfz6_5 := blk_frozen BK449.out 5) | ((with_reducible refine gate_callee (f := 14) rfl ?_); refine goesL_ (some 5) rfl rfl Tryz.func14 (by kernel_rfl) rfl #[.agg #[.string a0_0, .string a0_1, .int .i64 a0_2]] rfl ax12 ?_; (with_reducible refine (impl_Book_isBook.calls k a0_0 a0_1 a0_2 true _ ?side1 A2.out).mono ?_); (case side1 => exact ax239); rintro e w7 ⟨rfl, hb⟩; refine ⟨_, rfl, ?_⟩; have n0_ := Aside0.mk (blk_below (g := gb449) (o := .cells #[.string a0_0, .string a0_1, .int .i64 a0_2, .string a0_3, .string a0_4, .int .i64 a0_5] 33 (0, 0)) ax240 hb); have n1_ := Aside0.mk (below_step ax241 hb); clear BK449; clear HB; have BK449 := n0_; have HB := n1_; clear n0_ n1_; (try clear hb); (try clear hb2); (try clear hk); (try clear hi); have hcz8_0 : w7.cell? ⟨gb449, 0, none⟩ = some (.string a0_0) := (blk_cell BK449.out 0).trans rfl; have hcz8_1 : w7.cell? ⟨gb449, 1, none⟩ = some (.string a0_1) := (blk_cell BK449.out 1).trans rfl; have hcz8_2 : w7.cell? ⟨gb449, 2, none⟩ = some (.int .i64 a0_2) := (blk_cell BK449.out 2).trans rfl; have hcz8_3 : w7.cell? ⟨gb449, 3, none⟩ = some (.string a0_3) := (blk_cell BK449.out 3).trans rfl; have hcz8_4 : w7.cell? ⟨gb449, 4, none⟩ = some (.string a0_4) := (blk_cell BK449.out 4).trans rfl; have hcz8_5 : w7.cell? ⟨gb449, 5, none⟩ = some (.int .i64 a0_5) := (blk_cell BK449.out 5).trans rfl; have hfz8_0 := blk_frozen BK449.out 0; have hfz8_1 := blk_frozen BK449.out 1; have hfz8_2 := blk_frozen BK449.out 2; have hfz8_3 := blk_frozen BK449.out 3; have hfz8_4 := blk_frozen BK449.out 4; have hfz8_5 := blk_frozen BK449.out 5) | (go_at_call 15; (with_reducible refine (impl_IsValidLog.calls k a0_3 a0_4 a0_5 t451 _ ?side1 A4.out).mono ?_); (case side1 => exact ax239); rintro e w9 ⟨rfl, hb⟩; have n0_ := Aside0.mk (blk_below (g := gb449) (o := .cells #[.string a0_0, .string a0_1, .int .i64 a0_2, .string a0_3, .string a0_4, .int .i64 a0_5] 33 (0, 0)) ax240 hb); have n1_ := Aside0.mk (below_step ax241 hb); clear BK449; clear HB; have BK449 := n0_; have HB := n1_; clear n0_ n1_; (try clear hb); (try clear hb2); (try clear hk); (try clear hi)))
  go_ret
  exact ⟨ax11, by repeat (first | (with_reducible first | exact HB.out | apply below_alloc | apply pw_below_drewN | apply below_drew1 | refine below_set ?_ GE449.out) | exact HB.out)⟩
 ·replace c3 := Bool.eq_false_iff.mpr c3
  subst c3
  rw [if_neg (show ¬ (false = true) by decide)] at H
  obtain rfl := Option.some.inj H
  go_enter Tryz.func7, Tryz.ntmps7
  go_wp2_with (first | ((with_reducible refine gate_dst (N := 1) rfl ?_); refine box_event ?hg (N := 1) ?hd (cs := #[.string a0_0, .string a0_1, .int .i64 a0_2, .string a0_3, .string a0_4, .int .i64 a0_5]) (t := 33) ?hr ?_; (case hd => rfl); (case hg => rfl); (case hr => exact ax8); intro gb449 hg w10 hbox hb; have n0_ := Aside0.mk (below_step ax9 hb); have n1_ := Aside0.mk (hbox); have n2_ := Aside0.mk ((ax10 : w.heap.size ≤ gb449)); have n3_ := Aside0.mk ((ax10 : w.heap.size ≤ gb449)); clear HB; have HB := n0_; have BK449 := n1_; have GW449 := n2_; have GE449 := n3_; clear n0_ n1_ n2_ n3_; clear hb hbox hg; have hcz11_0 : w10.cell? ⟨gb449, 0, none⟩ = some (.string a0_0) := (blk_cell BK449.out 0).trans rfl; have hcz11_1 : w10.cell? ⟨gb449, 1, none⟩ = some (.string a0_1) := (blk_cell BK449.out 1).trans rfl; have hcz11_2 : w10.cell? ⟨gb449, 2, none⟩ = some (.int .i64 a0_2) := (blk_cell BK449.out 2).trans rfl; have hcz11_3 : w10.cell? ⟨gb449, 3, none⟩ = some (.string a0_3) := (blk_cell BK449.out 3).trans rfl; have hcz11_4 : w10.cell? ⟨gb449, 4, none⟩ = some (.string a0_4) := (blk_cell BK449.out 4).trans rfl; have hcz11_5 : w10.cell? ⟨gb449, 5, none⟩ = some (.int .i64 a0_5) := (blk_cell BK449.out 5).trans rfl; have hfz11_0 := blk_frozen BK449.out 0; have hfz11_1 := blk_frozen BK449.out 1; have hfz11_2 := blk_frozen BK449.out 2; have hfz11_3 := blk_frozen BK449.out 3; have hfz11_4 := blk_frozen BK449.out 4; have hfz11_5 := blk_frozen BK449.out 5) | ((with_reducible refine gate_callee (f := 14) rfl ?_); refine goesL_ (some 5) rfl rfl Tryz.func14 (by kernel_rfl) rfl #[.agg #[.string a0_0, .string a0_1, .int .i64 a0_2]] rfl ax12 ?_; (with_reducible refine (impl_Book_isBook.calls k a0_0 a0_1 a0_2 false _ ?side1 A2.out).mono ?_); (case side1 => exact ax239); rintro e w12 ⟨rfl, hb⟩; refine ⟨_, rfl, ?_⟩; have n0_ := Aside0.mk (blk_below (g := gb449) (o := .cells #[.string a0_0, .string a0_1, .int .i64 a0_2, .string a0_3, .string a0_4, .int .i64 a0_5] 33 (0, 0)) ax240 hb); have n1_ := Aside0.mk (below_step ax241 hb); clear BK449; clear HB; have BK449 := n0_; have HB := n1_; clear n0_ n1_; (try clear hb); (try clear hb2); (try clear hk); (try clear hi)))
  go_ret
  exact ⟨ax11, by repeat (first | (with_reducible first | exact HB.out | apply below_alloc | apply pw_below_drewN | apply below_drew1 | refine below_set ?_ GE449.out) | exact HB.out)⟩

/-! ### laws_FnExactIsValidConsole: function 3 -/
def laws_FnExactIsValidConsole.f (k : Nat) (a0_0 : ByteArray) (a0_1 : ByteArray) (a0_2 : Int) (a0_3 : ByteArray) (a0_4 : ByteArray) (a0_5 : Int) : Option (Bool) := (laws_szConsole.f a0_0 a0_1 a0_2 a0_3 a0_4 a0_5 1048576).bind fun t453 => (if t453 < 0 then (some true) else ((laws_toConsole.f a0_0 a0_1 a0_2 a0_3 a0_4 a0_5).bind fun bt454 => ((spec_IsValidConsole.f k bt454.1 bt454.2.1 bt454.2.2.1 bt454.2.2.2.1 bt454.2.2.2.2.1 bt454.2.2.2.2.2).bind fun t460 => ((laws_toConsole.f a0_0 a0_1 a0_2 a0_3 a0_4 a0_5).bind fun bt461 => ((impl_IsValidConsole.f k bt461.1 bt461.2.1 bt461.2.2.1 bt461.2.2.2.1 bt461.2.2.2.2.1 bt461.2.2.2.2.2).bind fun t467 => (if (t467 != t460) = true then (some false) else (some true)))))))
theorem laws_FnExactIsValidConsole.mono : ∀ a0 a1 a2 a3 a4 a5 k, LeO (laws_FnExactIsValidConsole.f k a0 a1 a2 a3 a4 a5) (laws_FnExactIsValidConsole.f (k + 1) a0 a1 a2 a3 a4 a5) := by
 intro a0 a1 a2 a3 a4 a5 k
 unfold laws_FnExactIsValidConsole.f
 repeat' first | (with_reducible first | exact impl_IsValidConsole.mono .. | exact spec_IsValidConsole.mono .. | exact LeO.refl _ | exact LeO.none _ | refine LeO.ite ?_ ?_ | refine LeO.bind ?_ (fun _ => ?_)) | exact impl_IsValidConsole.mono .. | exact spec_IsValidConsole.mono .. | exact LeO.none _ | refine LeO.ite ?_ ?_ | refine LeO.bind ?_ (fun _ => ?_)
set_option maxHeartbeats 8000000 in
set_option maxRecDepth 100000 in
theorem laws_FnExactIsValidConsole.calls (k : Nat) (a0_0 : ByteArray) (a0_1 : ByteArray) (a0_2 : Int) (a0_3 : ByteArray) (a0_4 : ByteArray) (a0_5 : Int) (r : Bool) (w : World) (hG : GL w) (h : laws_FnExactIsValidConsole.f k a0_0 a0_1 a0_2 a0_3 a0_4 a0_5 = some r) (hr_ : r = true) :
  Calls Tryz.prog 3 #[.agg #[.string a0_0, .string a0_1, .int .i64 a0_2, .string a0_3, .string a0_4, .int .i64 a0_5]] w fun e w' => e = .returned (.bool r) ∧ Below w.heap.size w w' := by
 have hu27 := Tryz.underlying27; have HB := Aside0.mk (Below.refl w.heap.size w); have HG := Aside0.mk hG; clear hG; have HRT := Aside0.mk hr_; clear hr_
 have H : ((laws_szConsole.f a0_0 a0_1 a0_2 a0_3 a0_4 a0_5 1048576).bind fun t453 => (if t453 < 0 then (some true) else ((laws_toConsole.f a0_0 a0_1 a0_2 a0_3 a0_4 a0_5).bind fun bt454 => ((spec_IsValidConsole.f k bt454.1 bt454.2.1 bt454.2.2.1 bt454.2.2.2.1 bt454.2.2.2.2.1 bt454.2.2.2.2.2).bind fun t460 => ((laws_toConsole.f a0_0 a0_1 a0_2 a0_3 a0_4 a0_5).bind fun bt461 => ((impl_IsValidConsole.f k bt461.1 bt461.2.1 bt461.2.2.1 bt461.2.2.2.1 bt461.2.2.2.2.1 bt461.2.2.2.2.2).bind fun t467 => (if (t467 != t460) = true then (some false) else (some true)))))))) = some r := h
 clear h
 obtain ⟨t453, A2, H⟩ := bs H
 by_cases c3 : t453 < 0
 ·rw [if_pos c3] at H
  have c3b0 : decide (t453 < 0) = true := decide_eq_true c3
  clear c3
  obtain rfl := Option.some.inj H
  go_enter Tryz.func3, Tryz.ntmps3
  go_wp2_with (first | ((with_reducible refine gate_dst (N := 1) rfl ?_); refine box_event ?hg (N := 1) ?hd (cs := #[.string a0_0, .string a0_1, .int .i64 a0_2, .string a0_3, .string a0_4, .int .i64 a0_5]) (t := 27) ?hr ?_; (case hd => rfl); (case hg => rfl); (case hr => exact ax8); intro gb452 hg w4 hbox hb; have n0_ := Aside0.mk (below_step ax9 hb); have n1_ := Aside0.mk (hbox); have n2_ := Aside0.mk ((ax10 : w.heap.size ≤ gb452)); have n3_ := Aside0.mk ((ax10 : w.heap.size ≤ gb452)); clear HB; have HB := n0_; have BK452 := n1_; have GW452 := n2_; have GE452 := n3_; clear n0_ n1_ n2_ n3_; clear hb hbox hg; have hcz5_0 : w4.cell? ⟨gb452, 0, none⟩ = some (.string a0_0) := (blk_cell BK452.out 0).trans rfl; have hcz5_1 : w4.cell? ⟨gb452, 1, none⟩ = some (.string a0_1) := (blk_cell BK452.out 1).trans rfl; have hcz5_2 : w4.cell? ⟨gb452, 2, none⟩ = some (.int .i64 a0_2) := (blk_cell BK452.out 2).trans rfl; have hcz5_3 : w4.cell? ⟨gb452, 3, none⟩ = some (.string a0_3) := (blk_cell BK452.out 3).trans rfl; have hcz5_4 : w4.cell? ⟨gb452, 4, none⟩ = some (.string a0_4) := (blk_cell BK452.out 4).trans rfl; have hcz5_5 : w4.cell? ⟨gb452, 5, none⟩ = some (.int .i64 a0_5) := (blk_cell BK452.out 5).trans rfl; have hfz5_0 := blk_frozen BK452.out 0; have hfz5_1 := blk_frozen BK452.out 1; have hfz5_2 := blk_frozen BK452.out 2; have hfz5_3 := blk_frozen BK452.out 3; have hfz5_4 := blk_frozen BK452.out 4; have hfz5_5 := blk_frozen BK452.out 5) | ((with_reducible refine gate_callee (f := 4) rfl ?_); refine goesL_ (some 8) rfl rfl Tryz.func4 (by kernel_rfl) rfl #[.agg #[.string a0_0, .string a0_1, .int .i64 a0_2, .string a0_3, .string a0_4, .int .i64 a0_5], .int .i64 1048576] rfl ax12 ?_; (with_reducible refine (laws_szConsole.calls a0_0 a0_1 a0_2 a0_3 a0_4 a0_5 1048576 t453 _ A2.out).mono ?_); rintro e w6 ⟨rfl, hb⟩; refine ⟨_, rfl, ?_⟩; have n0_ := Aside0.mk (blk_below (g := gb452) (o := .cells #[.string a0_0, .string a0_1, .int .i64 a0_2, .string a0_3, .string a0_4, .int .i64 a0_5] 27 (0, 0)) ax242 hb); have n1_ := Aside0.mk (below_step ax243 hb); clear BK452; clear HB; have BK452 := n0_; have HB := n1_; clear n0_ n1_; (try clear hb); (try clear hb2); (try clear hk); (try clear hi)))
  go_ret
  exact ⟨ax11, by repeat (first | (with_reducible first | exact HB.out | apply below_alloc | apply pw_below_drewN | apply below_drew1 | refine below_set ?_ GE452.out) | exact HB.out)⟩
 ·rw [if_neg c3] at H
  have c3b0 : decide (t453 < 0) = false := decide_eq_false c3
  clear c3
  obtain ⟨⟨t454, t455, t456, t457, t458, t459⟩, A7, H⟩ := bs H
  obtain ⟨t460, A8, H⟩ := bs H
  obtain ⟨⟨t461, t462, t463, t464, t465, t466⟩, A9, H⟩ := bs H
  obtain ⟨t467, A10, H⟩ := bs H
  by_cases c11 : (t467 != t460) = true
  ·rw [if_pos c11] at H
   have c11b0 : (t467 != t460) = true := c11
   (try (have c11b1 : decide (t467 = t460) = false := by simpa using c11))
   (try (have c11b2 : (t467 == t460) = false := by simpa using c11))
   (try (have c11b3 : ¬ (t467 = t460) := by simpa using c11))
   clear c11
   exact absurd ((Option.some.inj H).trans HRT.out) (by decide)
  ·rw [if_neg c11] at H
   have c11b0 : (t467 != t460) = false := by simpa using c11
   (try (have c11b1 : decide (t467 = t460) = true := by simpa using c11))
   (try (have c11b2 : (t467 == t460) = true := by simpa using c11))
   clear c11
   obtain rfl := Option.some.inj H
   go_enter Tryz.func3, Tryz.ntmps3
   go_wp2_with (first | ((with_reducible refine gate_dst (N := 1) rfl ?_); refine box_event ?hg (N := 1) ?hd (cs := #[.string a0_0, .string a0_1, .int .i64 a0_2, .string a0_3, .string a0_4, .int .i64 a0_5]) (t := 27) ?hr ?_; (case hd => rfl); (case hg => rfl); (case hr => exact ax8); intro gb452 hg w12 hbox hb; have n0_ := Aside0.mk (below_step ax9 hb); have n1_ := Aside0.mk (hbox); have n2_ := Aside0.mk ((ax10 : w.heap.size ≤ gb452)); have n3_ := Aside0.mk ((ax10 : w.heap.size ≤ gb452)); clear HB; have HB := n0_; have BK452 := n1_; have GW452 := n2_; have GE452 := n3_; clear n0_ n1_ n2_ n3_; clear hb hbox hg; have hcz13_0 : w12.cell? ⟨gb452, 0, none⟩ = some (.string a0_0) := (blk_cell BK452.out 0).trans rfl; have hcz13_1 : w12.cell? ⟨gb452, 1, none⟩ = some (.string a0_1) := (blk_cell BK452.out 1).trans rfl; have hcz13_2 : w12.cell? ⟨gb452, 2, none⟩ = some (.int .i64 a0_2) := (blk_cell BK452.out 2).trans rfl; have hcz13_3 : w12.cell? ⟨gb452, 3, none⟩ = some (.string a0_3) := (blk_cell BK452.out 3).trans rfl; have hcz13_4 : w12.cell? ⟨gb452, 4, none⟩ = some (.string a0_4) := (blk_cell BK452.out 4).trans rfl; have hcz13_5 : w12.cell? ⟨gb452, 5, none⟩ = some (.int .i64 a0_5) := (blk_cell BK452.out 5).trans rfl; have hfz13_0 := blk_frozen BK452.out 0; have hfz13_1 := blk_frozen BK452.out 1; have hfz13_2 := blk_frozen BK452.out 2; have hfz13_3 := blk_frozen BK452.out 3; have hfz13_4 := blk_frozen BK452.out 4; have hfz13_5 := blk_frozen BK452.out 5) | ((with_reducible refine gate_callee (f := 4) rfl ?_); refine goesL_ (some 8) rfl rfl Tryz.func4 (by kernel_rfl) rfl #[.agg #[.string a0_0, .string a0_1, .int .i64 a0_2, .string a0_3, .string a0_4, .int .i64 a0_5], .int .i64 1048576] rfl ax12 ?_; (with_reducible refine (laws_szConsole.calls a0_0 a0_1 a0_2 a0_3 a0_4 a0_5 1048576 t453 _ A2.out).mono ?_); rintro e w14 ⟨rfl, hb⟩; refine ⟨_, rfl, ?_⟩; have n0_ := Aside0.mk (blk_below (g := gb452) (o := .cells #[.string a0_0, .string a0_1, .int .i64 a0_2, .string a0_3, .string a0_4, .int .i64 a0_5] 27 (0, 0)) ax242 hb); have n1_ := Aside0.mk (below_step ax243 hb); clear BK452; clear HB; have BK452 := n0_; have HB := n1_; clear n0_ n1_; (try clear hb); (try clear hb2); (try clear hk); (try clear hi); have hcz15_0 : w14.cell? ⟨gb452, 0, none⟩ = some (.string a0_0) := (blk_cell BK452.out 0).trans rfl; have hcz15_1 : w14.cell? ⟨gb452, 1, none⟩ = some (.string a0_1) := (blk_cell BK452.out 1).trans rfl; have hcz15_2 : w14.cell? ⟨gb452, 2, none⟩ = some (.int .i64 a0_2) := (blk_cell BK452.out 2).trans rfl; have hcz15_3 : w14.cell? ⟨gb452, 3, none⟩ = some (.string a0_3) := (blk_cell BK452.out 3).trans rfl; have hcz15_4 : w14.cell? ⟨gb452, 4, none⟩ = some (.string a0_4) := (blk_cell BK452.out 4).trans rfl; have hcz15_5 : w14.cell? ⟨gb452, 5, none⟩ = some (.int .i64 a0_5) := (blk_cell BK452.out 5).trans rfl; have hfz15_0 := blk_frozen BK452.out 0; have hfz15_1 := blk_frozen BK452.out 1; have hfz15_2 := blk_frozen BK452.out 2; have hfz15_3 := blk_frozen BK452.out 3; have hfz15_4 := blk_frozen BK452.out 4; have hfz15_5 := blk_frozen BK452.out 5) | ((with_reducible refine gate_callee (f := 6) rfl ?_); refine goesL_ (some 12) rfl rfl Tryz.func6 (by kernel_rfl) rfl #[.agg #[.string a0_0, .string a0_1, .int .i64 a0_2, .string a0_3, .string a0_4, .int .i64 a0_5]] rfl ax12 ?_; (with_reducible refine (laws_toConsole.calls a0_0 a0_1 a0_2 a0_3 a0_4 a0_5 t454 t455 t456 t457 t458 t459 _ A7.out).mono ?_); rintro e w16 ⟨rfl, hb⟩; refine ⟨_, rfl, ?_⟩; have n0_ := Aside0.mk (blk_below (g := gb452) (o := .cells #[.string a0_0, .string a0_1, .int .i64 a0_2, .string a0_3, .string a0_4, .int .i64 a0_5] 27 (0, 0)) ax242 hb); have n1_ := Aside0.mk (below_step ax243 hb); clear BK452; clear HB; have BK452 := n0_; have HB := n1_; clear n0_ n1_; (try clear hb); (try clear hb2); (try clear hk); (try clear hi)) | ((with_reducible refine gate_callee (f := 5) rfl ?_); refine goesL_ (some 13) rfl rfl Tryz.func5 (by kernel_rfl) rfl #[.agg #[.string t454, .string t455, .int .i64 t456, .string t457, .string t458, .int .i64 t459]] rfl ax12 ?_; (with_reducible refine (spec_IsValidConsole.calls k t454 t455 t456 t457 t458 t459 t460 _ A8.out).mono ?_); rintro e w17 ⟨rfl, hb⟩; refine ⟨_, rfl, ?_⟩; have n0_ := Aside0.mk (blk_below (g := gb452) (o := .cells #[.string a0_0, .string a0_1, .int .i64 a0_2, .string a0_3, .string a0_4, .int .i64 a0_5] 27 (0, 0)) ax242 hb); have n1_ := Aside0.mk (below_step ax243 hb); clear BK452; clear HB; have BK452 := n0_; have HB := n1_; clear n0_ n1_; (try clear hb); (try clear hb2); (try clear hk); (try clear hi); have hcz18_0 : w17.cell? ⟨gb452, 0, none⟩ = some (.string a0_0) := (blk_cell BK452.out 0).trans rfl; have hcz18_1 : w17.cell? ⟨gb452, 1, none⟩ = some (.string a0_1) := (blk_cell BK452.out 1).trans rfl; have hcz18_2 : w17.cell? ⟨gb452, 2, none⟩ = some (.int .i64 a0_2) := (blk_cell BK452.out 2).trans rfl; have hcz18_3 : w17.cell? ⟨gb452, 3, none⟩ = some (.string a0_3) := (blk_cell BK452.out 3).trans rfl; have hcz18_4 : w17.cell? ⟨gb452, 4, none⟩ = some (.string a0_4) := (blk_cell BK452.out 4).trans rfl; have hcz18_5 : w17.cell? ⟨gb452, 5, none⟩ = some (.int .i64 a0_5) := (blk_cell BK452.out 5).trans rfl; have hfz18_0 := blk_frozen BK452.out 0; have hfz18_1 := blk_frozen BK452.out 1; have hfz18_2 := blk_frozen BK452.out 2; have hfz18_3 := blk_frozen BK452.out 3; have hfz18_4 := blk_frozen BK452.out 4; have hfz18_5 := blk_frozen BK452.out 5) | ((with_reducible refine gate_callee (f := 6) rfl ?_); refine goesL_ (some 15) rfl rfl Tryz.func6 (by kernel_rfl) rfl #[.agg #[.string a0_0, .string a0_1, .int .i64 a0_2, .string a0_3, .string a0_4, .int .i64 a0_5]] rfl ax12 ?_; (with_reducible refine (laws_toConsole.calls a0_0 a0_1 a0_2 a0_3 a0_4 a0_5 t461 t462 t463 t464 t465 t466 _ A9.out).mono ?_); rintro e w19 ⟨rfl, hb⟩; refine ⟨_, rfl, ?_⟩; have n0_ := Aside0.mk (blk_below (g := gb452) (o := .cells #[.string a0_0, .string a0_1, .int .i64 a0_2, .string a0_3, .string a0_4, .int .i64 a0_5] 27 (0, 0)) ax242 hb); have n1_ := Aside0.mk (below_step ax243 hb); clear BK452; clear HB; have BK452 := n0_; have HB := n1_; clear n0_ n1_; (try clear hb); (try clear hb2); (try clear hk); (try clear hi)) | ((with_reducible refine gate_callee (f := 7) rfl ?_); refine goesL_ (some 16) rfl rfl Tryz.func7 (by kernel_rfl) rfl #[.agg #[.string t461, .string t462, .int .i64 t463, .string t464, .string t465, .int .i64 t466]] rfl ax12 ?_; (with_reducible refine (impl_IsValidConsole.calls k t461 t462 t463 t464 t465 t466 t467 _ ?side1 A10.out).mono ?_); (case side1 => exact GL.below HG.out ax243); rintro e w20 ⟨rfl, hb⟩; refine ⟨_, rfl, ?_⟩; have n0_ := Aside0.mk (blk_below (g := gb452) (o := .cells #[.string a0_0, .string a0_1, .int .i64 a0_2, .string a0_3, .string a0_4, .int .i64 a0_5] 27 (0, 0)) ax242 hb); have n1_ := Aside0.mk (below_step ax243 hb); clear BK452; clear HB; have BK452 := n0_; have HB := n1_; clear n0_ n1_; (try clear hb); (try clear hb2); (try clear hk); (try clear hi)))
   go_ret
   exact ⟨ax11, by repeat (first | (with_reducible first | exact HB.out | apply below_alloc | apply pw_below_drewN | apply below_drew1 | refine below_set ?_ GE452.out) | exact HB.out)⟩

end Go.Proofs.YtnjjchbhbicmoaaGreatDoor.X

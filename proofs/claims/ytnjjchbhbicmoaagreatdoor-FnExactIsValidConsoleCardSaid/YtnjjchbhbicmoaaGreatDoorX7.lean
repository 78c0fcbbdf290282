-- By gen.py (the session's own program over the kit's printer): functions of the program, each with its contract. Lean checks it.
import Derived.Test.YtnjjchbhbicmoaaGreatDoorX0
import Derived.Test.YtnjjchbhbicmoaaGreatDoorX1
import Derived.Test.YtnjjchbhbicmoaaGreatDoorX4
import Derived.Test.YtnjjchbhbicmoaaGreatDoorX5
import Derived.Test.YtnjjchbhbicmoaaGreatDoorX6
namespace Go.Proofs.YtnjjchbhbicmoaaGreatDoor.X
open Go.RowKit Go.Proofs.YtnjjchbhbicmoaaGreatDoorW.PrintWords Go.Proofs.YtnjjchbhbicmoaaGreatDoorW.PrintLast Go.Proofs.YtnjjchbhbicmoaaGreatDoorW.PrintMore
attribute [local go_sem] max2_int min2_int max_two min_two max_three min_three max_four min_four   -- for this text's walks alone
set_option linter.unusedVariables false
set_option linter.unusedSimpArgs false

/-! ### spec_l12Good: function 10 -/
def spec_l12Good.j0 : Nat → Bool → ByteArray → ByteArray → Int → Option (Bool)
 | 0, _, _, _, _ => none
 | k + 1, x20, x226000, x226001, x226002 => if x20 = true then (some false) else ((spec_l12Words.f k x226000 x226001 x226002).bind fun bt228 => (if bt228.2 = true then ((spec_l2Of.f k bt228.1).bind fun t232 => ((spec_l2Node.f k t232 x226001).bind fun t235 => (some (decide (t235 ≥ 0))))) else (some false)))
def spec_l12Good.f (k : Nat) (a0_0 : ByteArray) (a0_1 : ByteArray) (a0_2 : Int) : Option (Bool) := if (a0_0.size : Int) > 520 then (spec_l12Good.j0 k true a0_0 a0_1 a0_2) else ((spec_l2Word.f k a0_1).bind fun t226 => (if t226 = true then ((spec_l1In.f a0_2 0 1000).bind fun t227 => (spec_l12Good.j0 k (!t227) a0_0 a0_1 a0_2)) else (spec_l12Good.j0 k true a0_0 a0_1 a0_2)))
theorem spec_l12Good.mono_l : ∀ k, (∀ y0 y1 y2 y3, LeO (spec_l12Good.j0 k y0 y1 y2 y3) (spec_l12Good.j0 (k + 1) y0 y1 y2 y3))
 | 0 => fun _ _ _ _ r h => by simp [spec_l12Good.j0] at h
 | k + 1 => by
  have ih0 := spec_l12Good.mono_l k
  ·intro y0 y1 y2 y3
   unfold spec_l12Good.j0
   repeat' first | (with_reducible first | exact ih0 .. | exact spec_l12Words.mono .. | exact spec_l2Node.mono .. | exact spec_l2Of.mono .. | exact spec_l2Word.mono .. | exact LeO.refl _ | exact LeO.none _ | refine LeO.ite ?_ ?_ | refine LeO.bind ?_ (fun _ => ?_)) | exact ih0 .. | exact spec_l12Words.mono .. | exact spec_l2Node.mono .. | exact spec_l2Of.mono .. | exact spec_l2Word.mono .. | exact LeO.none _ | refine LeO.ite ?_ ?_ | refine LeO.bind ?_ (fun _ => ?_)
theorem spec_l12Good.mono : ∀ a0 a1 a2 k, LeO (spec_l12Good.f k a0 a1 a2) (spec_l12Good.f (k + 1) a0 a1 a2) := by
 intro a0 a1 a2 k
 have ih0 := spec_l12Good.mono_l k
 unfold spec_l12Good.f
 repeat' first | (with_reducible first | exact ih0 .. | exact spec_l12Words.mono .. | exact spec_l2Node.mono .. | exact spec_l2Of.mono .. | exact spec_l2Word.mono .. | exact LeO.refl _ | exact LeO.none _ | refine LeO.ite ?_ ?_ | refine LeO.bind ?_ (fun _ => ?_)) | exact ih0 .. | exact spec_l12Words.mono .. | exact spec_l2Node.mono .. | exact spec_l2Of.mono .. | exact spec_l2Word.mono .. | exact LeO.none _ | refine LeO.ite ?_ ?_ | refine LeO.bind ?_ (fun _ => ?_)
def spec_l12Good.T4 : Bool × List (List Nat × List Nat) := (true, [([], []), ([0], [0]), ([1], [1]), ([2, 1, 1], [1, 2]), ([1], [1]), ([4, 1], [1, 4]), ([3, 5, 3, 1], [1, 3, 5]), ([6, 1], [1, 6]), ([1, 7], [1, 7]), ([8, 6, 0, 1, 2, 3, 4, 5, 6, 7, 8], [8])])
def spec_l12Good.B4 : List Nat := [0, 1, 3, 7, 3, 19, 63, 127, 255, 511]
theorem spec_l12Good.tab4 : rtab .any (opsOf Tryz.f10 4) = spec_l12Good.T4 := by kernel_rfl
theorem spec_l12Good.bits4 : waitsOk spec_l12Good.T4.2 spec_l12Good.B4 = true := by kernel_rfl
set_option maxHeartbeats 8000000 in
set_option maxRecDepth 100000 in
theorem spec_l12Good.calls (k : Nat) (a0_0 : ByteArray) (a0_1 : ByteArray) (a0_2 : Int) (r : Bool) (w : World) (h : spec_l12Good.f k a0_0 a0_1 a0_2 = some r) :
  Calls Tryz.prog 10 #[.agg #[.string a0_0, .string a0_1, .int .i64 a0_2]] w fun e w' => e = .returned (.bool r) ∧ Below w.heap.size w w' := by
 have hu30 := Tryz.underlying30; have HB := Aside0.mk (Below.refl w.heap.size w)
 have H : (if (a0_0.size : Int) > 520 then (spec_l12Good.j0 k true a0_0 a0_1 a0_2) else ((spec_l2Word.f k a0_1).bind fun t226 => (if t226 = true then ((spec_l1In.f a0_2 0 1000).bind fun t227 => (spec_l12Good.j0 k (!t227) a0_0 a0_1 a0_2)) else (spec_l12Good.j0 k true a0_0 a0_1 a0_2)))) = some r := h
 clear h; have HC2 := Aside0.mk H; clear H
 go_enter Tryz.func10, Tryz.ntmps10
 go_upto_region 1 with (first | ((with_reducible refine gate_dst (N := 1) rfl ?_); refine box_event ?hg (N := 1) ?hd (cs := #[.string a0_0, .string a0_1, .int .i64 a0_2]) (t := 30) ?hr ?_; (case hd => rfl); (case hg => rfl); (case hr => exact ax8); intro gb225 hg w3 hbox hb; have n0_ := Aside0.mk (below_step ax9 hb); have n1_ := Aside0.mk (hbox); have n2_ := Aside0.mk ((ax10 : w.heap.size ≤ gb225)); have n3_ := Aside0.mk ((ax10 : w.heap.size ≤ gb225)); clear HB; have HB := n0_; have BK225 := n1_; have GW225 := n2_; have GE225 := n3_; clear n0_ n1_ n2_ n3_; clear hb hbox hg))
 (try simp only [Act.put, List.setIfInBounds_toArray, List.set_cons_zero, List.set_cons_succ])
 go_cut [20] (fun v20 wc => ∃ (kq : Nat) (x20_1 : Bool), v20 = .bool x20_1 ∧ Aside0 (spec_l12Good.j0 kq x20_1 a0_0 a0_1 a0_2 = some r) ∧ Aside0 (kq ≤ k) ∧ Aside0 (wc.heap[gb225]? = some (.cells #[.string a0_0, .string a0_1, .int .i64 a0_2] 30 (0, 0))) ∧ Aside0 (Below w.heap.size w wc))
 case first =>
  have H := HC2.out; clear HC2
  by_cases c4 : (a0_0.size : Int) > 520
  ·rw [if_pos c4] at H
   have c4b0 : decide (520 < (a0_0.size : Int)) = true := decide_eq_true c4
   have c4b1 : decide (520 < a0_0.size) = true := decide_eq_true (by omega)
   clear c4
   (first | rw [c4b0] | (simp only [i64_w, i32_w]; rw [c4b0]) | skip)
   have H' := Aside0.mk H
   clear H
   have hcz5_0 : w3.cell? ⟨gb225, 0, none⟩ = some (.string a0_0) := (blk_cell BK225.out 0).trans rfl
   have hcz5_1 : w3.cell? ⟨gb225, 1, none⟩ = some (.string a0_1) := (blk_cell BK225.out 1).trans rfl
   have hcz5_2 : w3.cell? ⟨gb225, 2, none⟩ = some (.int .i64 a0_2) := (blk_cell BK225.out 2).trans rfl
   have hfz5_0 := blk_frozen BK225.out 0; have hfz5_1 := blk_frozen BK225.out 1; have hfz5_2 := blk_frozen BK225.out 2
   go_wp2
   go_meet
   case rel => exact ⟨_, (true), ax15, H', ⟨by first | omega | exact Nat.le_refl _⟩, ⟨ax91⟩, ⟨ax92⟩⟩
  ·rw [if_neg c4] at H
   have c4b0 : decide (520 < (a0_0.size : Int)) = false := decide_eq_false c4
   have c4b1 : decide (520 < a0_0.size) = false := decide_eq_false (by omega)
   clear c4
   (first | rw [c4b0] | (simp only [i64_w, i32_w]; rw [c4b0]) | skip)
   obtain ⟨t226, A6, H⟩ := bs H
   by_cases c7 : t226 = true
   ·subst c7
    rw [if_pos rfl] at H
    obtain ⟨t227, A8, H⟩ := bs H
    have H' := Aside0.mk H
    clear H
    have hcz9_0 : w3.cell? ⟨gb225, 0, none⟩ = some (.string a0_0) := (blk_cell BK225.out 0).trans rfl
    have hcz9_1 : w3.cell? ⟨gb225, 1, none⟩ = some (.string a0_1) := (blk_cell BK225.out 1).trans rfl
    have hcz9_2 : w3.cell? ⟨gb225, 2, none⟩ = some (.int .i64 a0_2) := (blk_cell BK225.out 2).trans rfl
    have hfz9_0 := blk_frozen BK225.out 0; have hfz9_1 := blk_frozen BK225.out 1; have hfz9_2 := blk_frozen BK225.out 2
    go_wp2_with (first | (go_at_call 16; (with_reducible refine (spec_l2Word.calls k a0_1 true _ A6.out).mono ?_); rintro e w' ⟨rfl, ⟨nd, rfl⟩⟩) | (go_at_call 17; (with_reducible refine (spec_l1In.calls a0_2 0 1000 t227 _ A8.out).mono ?_); rintro e w' ⟨rfl, ⟨nd, rfl⟩⟩))
    go_meet
    case rel => exact ⟨_, (!t227), ax15, H', ⟨by first | omega | exact Nat.le_refl _⟩, ⟨ax91⟩, ⟨ax92⟩⟩
   ·replace c7 := Bool.eq_false_iff.mpr c7
    subst c7
    rw [if_neg (show ¬ (false = true) by decide)] at H
    have H' := Aside0.mk H
    clear H
    have hcz10_0 : w3.cell? ⟨gb225, 0, none⟩ = some (.string a0_0) := (blk_cell BK225.out 0).trans rfl
    have hcz10_1 : w3.cell? ⟨gb225, 1, none⟩ = some (.string a0_1) := (blk_cell BK225.out 1).trans rfl
    have hcz10_2 : w3.cell? ⟨gb225, 2, none⟩ = some (.int .i64 a0_2) := (blk_cell BK225.out 2).trans rfl
    have hfz10_0 := blk_frozen BK225.out 0; have hfz10_1 := blk_frozen BK225.out 1; have hfz10_2 := blk_frozen BK225.out 2
    go_wp2_with (first | (go_at_call 16; (with_reducible refine (spec_l2Word.calls k a0_1 false _ A6.out).mono ?_); rintro e w' ⟨rfl, ⟨nd, rfl⟩⟩))
    go_meet
    case rel => exact ⟨_, (true), ax15, H', ⟨by first | omega | exact Nat.le_refl _⟩, ⟨ax91⟩, ⟨ax92⟩⟩
 case rest =>
  clear HC2
  try clear c1
  try clear p2
  try clear c4
  try clear c4b0
  try clear c4b1
  try clear c7
  try clear c10
  try clear hcz10_0
  try clear hcz10_1
  try clear hcz10_2
  try clear hcz5_0
  try clear hcz5_1
  try clear hcz5_2
  try clear hcz9_0
  try clear hcz9_1
  try clear hcz9_2
  try clear hfz10_0
  try clear hfz10_1
  try clear hfz10_2
  try clear hfz5_0
  try clear hfz5_1
  try clear hfz5_2
  try clear hfz9_0
  try clear hfz9_1
  try clear hfz9_2
  obtain ⟨kq, x20_1, rfl, HA, HJ1, BK225, HB⟩ := hcut
  cases kq with
  | zero => exact absurd HA.out (by simp [spec_l12Good.j0])
  | succ kj1 =>
   have H := HA.out; clear HA
   simp only [spec_l12Good.j0] at H
   by_cases c11 : x20_1 = true
   ·subst c11
    rw [if_pos rfl] at H
    obtain rfl := Option.some.inj H
    go_wp2
    go_ret
    exact ⟨ax11, by repeat (first | (with_reducible first | exact HB.out | apply below_alloc | apply pw_below_drewN | apply below_drew1 | refine below_set ?_ GE225.out) | exact HB.out)⟩
   ·replace c11 := Bool.eq_false_iff.mpr c11
    subst c11
    rw [if_neg (show ¬ (false = true) by decide)] at H
    obtain ⟨⟨t228, t231⟩, A12, H⟩ := bs H
    by_cases c13 : t231 = true
    ·subst c13
     rw [if_pos rfl] at H
     obtain ⟨t232, A14, H⟩ := bs H
     obtain ⟨t235, A15, H⟩ := bs H
     obtain rfl := Option.some.inj H
     have hcz16_0 : wc.cell? ⟨gb225, 0, none⟩ = some (.string a0_0) := (blk_cell BK225.out 0).trans rfl
     have hcz16_1 : wc.cell? ⟨gb225, 1, none⟩ = some (.string a0_1) := (blk_cell BK225.out 1).trans rfl
     have hcz16_2 : wc.cell? ⟨gb225, 2, none⟩ = some (.int .i64 a0_2) := (blk_cell BK225.out 2).trans rfl
     have hfz16_0 := blk_frozen BK225.out 0; have hfz16_1 := blk_frozen BK225.out 1; have hfz16_2 := blk_frozen BK225.out 2
     try go_wp2_with (first | ((with_reducible refine gate_callee (f := 18) rfl ?_); refine goesL_ (some 23) rfl rfl Tryz.func18 (by kernel_rfl) rfl #[.agg #[.string a0_0, .string a0_1, .int .i64 a0_2]] rfl ax12 ?_; (with_reducible refine (spec_l12Words.calls kj1 a0_0 a0_1 a0_2 t228 true _ A12.out).mono ?_); rintro e w17 ⟨v229, rfl, ho0, hb⟩; refine ⟨_, rfl, ?_⟩; have n0_ := Aside0.mk (Kd.V_lower (Kd.V_mono (ok' := fun k_ => k_ ≠ gb225) ho0 (fun k_ hk_ => (Kd.freshB (g := gb225) (o := .cells #[.string a0_0, .string a0_1, .int .i64 a0_2] 30 (0, 0)) ax91 k_ hk_))) (below_size ax92)); have n1_ := Aside0.mk (blk_below (g := gb225) (o := .cells #[.string a0_0, .string a0_1, .int .i64 a0_2] 30 (0, 0)) ax91 hb); have n2_ := Aside0.mk (below_step ax92 hb); clear BK225; clear HB; have HO230 := n0_; have BK225 := n1_; have HB := n2_; clear n0_ n1_ n2_; (try clear hb); (try clear hb2); (try clear hk); (try clear hi); (try clear ho0)))
     have n0_ := Aside0.mk (Kd.V_drew HO230.out); have n1_ := Aside0.mk (blk_drew BK225.out); have n2_ := Aside0.mk (below_drew1 HB.out); clear HO230; clear BK225; clear HB; have HO230 := n0_; have BK225 := n1_; have HB := n2_; clear n0_ n1_ n2_
     obtain ⟨Ao19, co19, eo19⟩ := Kd.V_slice HO230.out
     (first | subst eo19 | (injection eo19 with f1_ f2_ f3_; have f4_ := f1_.symm; have f5_ := f3_.symm; clear f1_ f2_ f3_; subst f4_; subst f5_))
     refine start_ (n := 10) (S := fun w' => w'.cell? ⟨gb225, 0, none⟩ = some (.string a0_0) ∧ w'.cell? ⟨gb225, 1, none⟩ = some (.string a0_1) ∧ w'.cell? ⟨gb225, 2, none⟩ = some (.int .i64 a0_2)) (ds := []) (ob 10 0) (by kernel_rfl) rfl rfl ⟨(blk_cell BK225.out 0).trans rfl, (blk_cell BK225.out 1).trans rfl, (blk_cell BK225.out 2).trans rfl⟩ (fun hHeld => ?_); refine with_tabW spec_l12Good.tab4 spec_l12Good.bits4 (fun HT_ HW_ => ?_)
     generalize w17.drew = w18 at HO230 BK225 HB hHeld ⊢
     refine pu 0 26 ?_; refine pu 1 27 ?_; refine pu 2 28 ?_; refine pu 4 30 ?_; refine tk 5 31 ?_
     refine one_ (i := 3) (N := some 29) (ob 10 63) rfl rfl (one_of HT_.out (by kernel_rfl)) (by decide) (fun K hK => ?_)
     refine goes_ Tryz.func20 (by kernel_rfl) rfl #[.slice Ao19 t228.length co19] (by rfl) rfl rfl ax12 ?_
     with_reducible refine (spec_l2Of.calls kj1 _ _ t228 t232 _ ?side1 ?side2 A14.out).mono ?_
     (case side1 => repeat (first | exact (Kd.V_reads' HO230.out).2.2 | (with_reducible refine Kd.C_alloc ?_ _) | (with_reducible refine Kd.C_drewN ?_ _) | (with_reducible refine Kd.C_drew ?_)))
     (case side2 => exact (Kd.V_reads' HO230.out).2.1)
     rintro e w20 ⟨v233, rfl, ho0, hb⟩
     refine ⟨_, rfl, ?_⟩
     have n0_ := Aside0.mk (Kd.V_elder' ax93 (Kd.R_base ho0) hb); have n1_ := Aside0.mk (Kd.R_lower ho0 (below_size ax92))
     have n2_ := Aside0.mk (blk_below (g := gb225) (o := .cells #[.string a0_0, .string a0_1, .int .i64 a0_2] 30 (0, 0)) ax91 hb)
     have n3_ := Aside0.mk (below_step ax92 hb); clear HO230; clear BK225; clear HB; have HO230 := n0_; have HO234 := n1_; have BK225 := n2_; have HB := n3_; clear n0_ n1_ n2_ n3_; (try clear hb); (try clear hb2); (try clear hk); (try clear hi); (try clear ho0)
     obtain ⟨Ao21, co21, eo21⟩ := Kd.R_slice HO234.out
     (first | subst eo21 | (injection eo21 with f1_ f2_ f3_; have f4_ := f1_.symm; have f5_ := f3_.symm; clear f1_ f2_ f3_; subst f4_; subst f5_))
     refine hK.out _ _ ⟨(blk_cell BK225.out 0).trans rfl, (blk_cell BK225.out 1).trans rfl, (blk_cell BK225.out 2).trans rfl⟩ (fun hHeld => ?_)
     clear hK K
     refine nm 29 ?_
     refine one_ (i := 6) (N := some 32) (ob 10 127) rfl rfl (one_of HT_.out (by kernel_rfl)) (by decide) (fun K hK => ?_)
     refine goes_ Tryz.func19 (by kernel_rfl) rfl #[.agg #[.slice Ao21 t232.length co21], .string a0_1] (by rfl) rfl rfl ax12 ?_
     with_reducible refine (spec_l2Node.calls kj1 _ _ t232 a0_1 t235 _ ?side1 ?side2 A15.out).mono ?_
     (case side1 => repeat (first | exact (Kd.R_reads' HO234.out).2.2 | (with_reducible refine Kd.C_alloc ?_ _) | (with_reducible refine Kd.C_drewN ?_ _) | (with_reducible refine Kd.C_drew ?_)))
     (case side2 => exact (Kd.R_reads' HO234.out).2.1)
     rintro e w22 ⟨rfl, hb⟩
     refine ⟨_, rfl, ?_⟩
     have n0_ := Aside0.mk (Kd.V_below ax93 hb)
     have n1_ := Aside0.mk (Kd.R_below (by (with_reducible repeat (first | apply Kd.R_alloc | apply Kd.R_drewN | apply Kd.R_drew)); exact HO234.out) hb)
     have n2_ := Aside0.mk (blk_below (g := gb225) (o := .cells #[.string a0_0, .string a0_1, .int .i64 a0_2] 30 (0, 0)) ax91 hb)
     have n3_ := Aside0.mk (below_step ax92 hb); clear HO230; clear HO234; clear BK225; clear HB; have HO230 := n0_; have HO234 := n1_; have BK225 := n2_; have HB := n3_; clear n0_ n1_ n2_ n3_; (try clear hb); (try clear hb2); (try clear hk); (try clear hi)
     refine hK.out _ _ ⟨(blk_cell BK225.out 0).trans rfl, (blk_cell BK225.out 1).trans rfl, (blk_cell BK225.out 2).trans rfl⟩ (fun hHeld => ?_)
     clear hK K
     refine nm 32 ?_
     refine pu 7 33 ?_; refine pu 8 34 ?_; refine pu 9 2 ?_
     refine dn ?_
     try go_wp2
     go_ret
     exact ⟨ax11, by repeat (first | (with_reducible first | exact HB.out | apply below_alloc | apply pw_below_drewN | apply below_drew1 | refine below_set ?_ GE225.out) | exact HB.out)⟩
    ·replace c13 := Bool.eq_false_iff.mpr c13
     subst c13
     rw [if_neg (show ¬ (false = true) by decide)] at H
     obtain rfl := Option.some.inj H
     have hcz23_0 : wc.cell? ⟨gb225, 0, none⟩ = some (.string a0_0) := (blk_cell BK225.out 0).trans rfl
     have hcz23_1 : wc.cell? ⟨gb225, 1, none⟩ = some (.string a0_1) := (blk_cell BK225.out 1).trans rfl
     have hcz23_2 : wc.cell? ⟨gb225, 2, none⟩ = some (.int .i64 a0_2) := (blk_cell BK225.out 2).trans rfl
     have hfz23_0 := blk_frozen BK225.out 0; have hfz23_1 := blk_frozen BK225.out 1; have hfz23_2 := blk_frozen BK225.out 2
     try go_wp2_with (first | ((with_reducible refine gate_callee (f := 18) rfl ?_); refine goesL_ (some 23) rfl rfl Tryz.func18 (by kernel_rfl) rfl #[.agg #[.string a0_0, .string a0_1, .int .i64 a0_2]] rfl ax12 ?_; (with_reducible refine (spec_l12Words.calls kj1 a0_0 a0_1 a0_2 t228 false _ A12.out).mono ?_); rintro e w24 ⟨v229, rfl, ho0, hb⟩; refine ⟨_, rfl, ?_⟩; have n0_ := Aside0.mk (Kd.V_lower (Kd.V_mono (ok' := fun k_ => k_ ≠ gb225) ho0 (fun k_ hk_ => (Kd.freshB (g := gb225) (o := .cells #[.string a0_0, .string a0_1, .int .i64 a0_2] 30 (0, 0)) ax91 k_ hk_))) (below_size ax92)); have n1_ := Aside0.mk (blk_below (g := gb225) (o := .cells #[.string a0_0, .string a0_1, .int .i64 a0_2] 30 (0, 0)) ax91 hb); have n2_ := Aside0.mk (below_step ax92 hb); clear BK225; clear HB; have HO230 := n0_; have BK225 := n1_; have HB := n2_; clear n0_ n1_ n2_; (try clear hb); (try clear hb2); (try clear hk); (try clear hi); (try clear ho0)))
     have n0_ := Aside0.mk (Kd.V_drew HO230.out); have n1_ := Aside0.mk (blk_drew BK225.out); have n2_ := Aside0.mk (below_drew1 HB.out); clear HO230; clear BK225; clear HB; have HO230 := n0_; have BK225 := n1_; have HB := n2_; clear n0_ n1_ n2_
     refine start_ (n := 10) (S := fun w' => True) (ds := []) (ob 10 0) (by kernel_rfl) rfl rfl trivial (fun hHeld => ?_); refine with_tabW spec_l12Good.tab4 spec_l12Good.bits4 (fun HT_ HW_ => ?_)
     generalize w24.drew = w25 at HO230 BK225 HB hHeld ⊢
     refine pu 0 26 ?_; refine pu 1 27 ?_; refine pu 2 28 ?_; refine pu 3 29 ?_; refine pu 4 30 ?_; refine pu 5 31 ?_; refine pu 6 32 ?_; refine pu 7 33 ?_; refine pu 8 34 ?_; refine pu 9 2 ?_
     refine dn ?_
     try go_wp2
     go_ret
     exact ⟨ax11, by repeat (first | (with_reducible first | exact HB.out | apply below_alloc | apply pw_below_drewN | apply below_drew1 | refine below_set ?_ GE225.out) | exact HB.out)⟩

end Go.Proofs.YtnjjchbhbicmoaaGreatDoor.X

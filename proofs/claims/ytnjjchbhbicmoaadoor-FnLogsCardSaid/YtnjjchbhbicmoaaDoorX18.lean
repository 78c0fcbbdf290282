-- By gen.py (the session's own program over the kit's printer): functions of the program, each with its contract. Lean checks it.
import Derived.Test.YtnjjchbhbicmoaaDoorX0
import Derived.Test.YtnjjchbhbicmoaaDoorX3
import Derived.Test.YtnjjchbhbicmoaaDoorX6
import Derived.Test.YtnjjchbhbicmoaaDoorX7
import Derived.Test.YtnjjchbhbicmoaaDoorX8
namespace Go.Proofs.YtnjjchbhbicmoaaDoor.X
open Go.RowKit Go.Proofs.YtnjjchbhbicmoaaDoorW.PrintWords Go.Proofs.YtnjjchbhbicmoaaDoorW.PrintLast Go.Proofs.YtnjjchbhbicmoaaDoorW.PrintMore
attribute [local go_sem] max2_int min2_int max_two min_two max_three min_three max_four min_four   -- for this text's walks alone
set_option linter.unusedVariables false
set_option linter.unusedSimpArgs false

/-! ### impl_AppendRecord: function 18 -/
def impl_AppendRecord.j0 : Nat → Bool → ByteArray → ByteArray → Int → ByteArray → ByteArray → Option (ByteArray × ByteArray × Int × Int)
 | 0, _, _, _, _, _, _ => none
 | k + 1, x8, x410000, x410001, x410002, x411000, x411001 => if x8 = true then (some (x410000, x410001, x410002, 1)) else (if x410002 = 40 then (some (x410000, x410001, x410002, 2)) else ((impl_EncodeRecord.f k x410002 x411000 x411001).bind fun bt414 => (if x410001.size + bt414.1.size ≤ 9223372036854775807 then (some (x410000, x410001 ++ bt414.1, wrap64 (x410002 + 1), 0)) else (none))))
def impl_AppendRecord.f (k : Nat) (a0_0 : ByteArray) (a0_1 : ByteArray) (a0_2 : Int) (a1_0 : ByteArray) (a1_1 : ByteArray) : Option (ByteArray × ByteArray × Int × Int) := (impl_IsValidLog.f k a0_0 a0_1 a0_2).bind fun t412 => (if t412 = true then ((impl_IsValidRecord.f k a1_0 a1_1).bind fun t413 => (impl_AppendRecord.j0 k (!t413) a0_0 a0_1 a0_2 a1_0 a1_1)) else (impl_AppendRecord.j0 k true a0_0 a0_1 a0_2 a1_0 a1_1))
theorem impl_AppendRecord.mono_l : ∀ k, (∀ y0 y1 y2 y3 y4 y5, LeO (impl_AppendRecord.j0 k y0 y1 y2 y3 y4 y5) (impl_AppendRecord.j0 (k + 1) y0 y1 y2 y3 y4 y5))
 | 0 => fun _ _ _ _ _ _ r h => by simp [impl_AppendRecord.j0] at h
 | k + 1 => by
  have ih0 := impl_AppendRecord.mono_l k
  ·intro y0 y1 y2 y3 y4 y5
   unfold impl_AppendRecord.j0
   repeat' first | (with_reducible first | exact ih0 .. | exact impl_EncodeRecord.mono .. | exact impl_IsValidLog.mono .. | exact impl_IsValidRecord.mono .. | exact LeO.refl _ | exact LeO.none _ | refine LeO.ite ?_ ?_ | refine LeO.bind ?_ (fun _ => ?_)) | exact ih0 .. | exact impl_EncodeRecord.mono .. | exact impl_IsValidLog.mono .. | exact impl_IsValidRecord.mono .. | exact LeO.none _ | refine LeO.ite ?_ ?_ | refine LeO.bind ?_ (fun _ => ?_)
theorem impl_AppendRecord.mono : ∀ a0 a1 a2 a3 a4 k, LeO (impl_AppendRecord.f k a0 a1 a2 a3 a4) (impl_AppendRecord.f (k + 1) a0 a1 a2 a3 a4) := by
 intro a0 a1 a2 a3 a4 k
 have ih0 := impl_AppendRecord.mono_l k
 unfold impl_AppendRecord.f
 repeat' first | (with_reducible first | exact ih0 .. | exact impl_EncodeRecord.mono .. | exact impl_IsValidLog.mono .. | exact impl_IsValidRecord.mono .. | exact LeO.refl _ | exact LeO.none _ | refine LeO.ite ?_ ?_ | refine LeO.bind ?_ (fun _ => ?_)) | exact ih0 .. | exact impl_EncodeRecord.mono .. | exact impl_IsValidLog.mono .. | exact impl_IsValidRecord.mono .. | exact LeO.none _ | refine LeO.ite ?_ ?_ | refine LeO.bind ?_ (fun _ => ?_)
set_option maxHeartbeats 8000000 in
set_option maxRecDepth 100000 in
theorem impl_AppendRecord.calls (k : Nat) (a0_0 : ByteArray) (a0_1 : ByteArray) (a0_2 : Int) (a1_0 : ByteArray) (a1_1 : ByteArray) (r1 : ByteArray) (r2 : ByteArray) (r3 : Int) (r4 : Int) (w : World) (hG : GL w) (h : impl_AppendRecord.f k a0_0 a0_1 a0_2 a1_0 a1_1 = some (r1, r2, r3, r4)) :
  Calls Tryd.prog 18 #[.agg #[.string a0_0, .string a0_1, .int .i64 a0_2], .agg #[.string a1_0, .string a1_1]] w fun e w' => e = .returned (.tuple #[.agg #[.string r1, .string r2, .int .i64 r3], .int .i64 r4]) ∧ Below w.heap.size w w' := by
 have hu27 := Tryd.underlying27; have hu33 := Tryd.underlying33; have HB := Aside0.mk (Below.refl w.heap.size w); have HG := Aside0.mk hG; clear hG
 have H : ((impl_IsValidLog.f k a0_0 a0_1 a0_2).bind fun t412 => (if t412 = true then ((impl_IsValidRecord.f k a1_0 a1_1).bind fun t413 => (impl_AppendRecord.j0 k (!t413) a0_0 a0_1 a0_2 a1_0 a1_1)) else (impl_AppendRecord.j0 k true a0_0 a0_1 a0_2 a1_0 a1_1))) = some (r1, r2, r3, r4) := h
 clear h; have HC3 := Aside0.mk H; clear H
 go_enter Tryd.func18, Tryd.ntmps18
 go_upto_region 1 with (first | ((with_reducible refine gate_dst (N := 2) rfl ?_); refine box_event ?hg (N := 2) ?hd (cs := #[.string a0_0, .string a0_1, .int .i64 a0_2]) (t := 27) ?hr ?_; (case hd => rfl); (case hg => rfl); (case hr => exact ax9); intro gb409 hg w4 hbox hb; have BK409 := Aside0.mk (hbox); have GW409 := uG hg HB; have GE409 := uG hg HB; replace HB := uB HB hb; clear hb hbox hg) | ((with_reducible refine gate_dst (N := 3) rfl ?_); refine box_event ?hg (N := 3) ?hd (cs := #[.string a1_0, .string a1_1]) (t := 33) ?hr ?_; (case hd => rfl); (case hg => rfl); (case hr => exact ax9); intro gb410 hg w5 hbox hb; have BK410 := Aside0.mk (hbox); have GW410 := Aside0.mk ((ax196 : w.heap.size ≤ gb410)); have GE410 := Aside0.mk ((ax196 : w.heap.size ≤ gb410)); replace HB := Aside0.mk (below_step ax197 hb); have NB409_410 := uN hg BK409; have NB410_409 := uM hg BK409; replace BK409 := ub BK409 hb; clear hb hbox hg) | ((with_reducible refine gate_dst (N := 4) rfl ?_); refine box_event ?hg (N := 4) ?hd (cs := #[.string (⟨#[]⟩ : ByteArray), .string (⟨#[]⟩ : ByteArray), .int .i64 0]) (t := 27) ?hr ?_; (case hd => rfl); (case hg => rfl); (case hr => exact ax9); intro gb411 hg w6 hbox hb; have BK411 := Aside0.mk (hbox); have GW411 := Aside0.mk ((ax198 : w.heap.size ≤ gb411)); have GE411 := Aside0.mk ((ax198 : w.heap.size ≤ gb411)); replace HB := Aside0.mk (below_step ax199 hb); have NB409_411 := uN hg BK409; have NB411_409 := uM hg BK409; replace BK409 := ub BK409 hb; have NB410_411 := uN hg BK410; have NB411_410 := uM hg BK410; replace BK410 := ub BK410 hb; clear hb hbox hg))
 (try simp only [Act.put, List.setIfInBounds_toArray, List.set_cons_zero, List.set_cons_succ])
 go_cut [8] (fun v8 wc => ∃ (kq : Nat) (x8_2 : Bool), v8 = .bool x8_2 ∧ Aside0 (impl_AppendRecord.j0 kq x8_2 a0_0 a0_1 a0_2 a1_0 a1_1 = some (r1, r2, r3, r4)) ∧ Aside0 (kq ≤ k) ∧ Aside0 (wc.heap[gb409]? = some (.cells #[.string a0_0, .string a0_1, .int .i64 a0_2] 27 (0, 0))) ∧ Aside0 (wc.heap[gb410]? = some (.cells #[.string a1_0, .string a1_1] 33 (0, 0))) ∧ Aside0 (wc.heap[gb411]? = some (.cells #[.string (⟨#[]⟩ : ByteArray), .string (⟨#[]⟩ : ByteArray), .int .i64 0] 27 (0, 0))) ∧ Aside0 (Below w.heap.size w wc))
 case first =>
  have H := HC3.out; clear HC3
  obtain ⟨t412, A7, H⟩ := bs H
  by_cases c8 : t412 = true
  ·subst c8
   rw [if_pos rfl] at H
   obtain ⟨t413, A9, H⟩ := bs H
   have H' := Aside0.mk H
   clear H; have hnb10 := NB409_410.out; have hnc10 := NB410_409.out; have hnb11 := NB409_411.out; have hnc11 := NB411_409.out; have hcz12_0 := bc (.string a0_0) BK409 0; have hcz12_1 := bc (.string a0_1) BK409 1; have hcz12_2 := bc (.int .i64 a0_2) BK409 2; have hfz12_0 := blk_frozen BK409.out 0; have hfz12_1 := blk_frozen BK409.out 1; have hfz12_2 := blk_frozen BK409.out 2
   go_wp2_with (first | (refine gd 10 22 ?_; refine gc 10 Tryd.func22 #[.agg #[.string a0_0, .string a0_1, .int .i64 a0_2]] (impl_IsValidLog.calls k a0_0 a0_1 a0_2 true _ (GL.below HG.out ax200) A7.out) ?_; rintro e w13 ⟨rfl, hb⟩; refine ⟨_, rfl, ?_⟩; replace BK409 := ub BK409 hb; replace BK410 := ub BK410 hb; replace BK411 := ub BK411 hb; replace HB := Aside0.mk (below_step ax200 hb); (try clear hb); (try clear hb2); (try clear hk); (try clear hi); have hnb14 := NB410_411.out; have hnc14 := NB411_410.out; have hcz15_0 := bc (.string a1_0) BK410 0; have hcz15_1 := bc (.string a1_1) BK410 1; have hfz15_0 := blk_frozen BK410.out 0; have hfz15_1 := blk_frozen BK410.out 1) | (go_at_call 20; (with_reducible refine (impl_IsValidRecord.calls k a1_0 a1_1 t413 _ A9.out).mono ?_); rintro e w16 ⟨rfl, hb⟩; replace BK409 := ub BK409 hb; replace BK410 := ub BK410 hb; replace BK411 := ub BK411 hb; replace HB := Aside0.mk (below_step ax200 hb); (try clear hb); (try clear hb2); (try clear hk); (try clear hi)))
   go_meet
   case rel => exact ⟨_, (!t413), ax10, H', ⟨by first | omega | exact Nat.le_refl _⟩, ⟨ax201⟩, ⟨ax202⟩, ⟨ax203⟩, ⟨ax200⟩⟩
  ·replace c8 := Bool.eq_false_iff.mpr c8
   subst c8
   rw [if_neg (show ¬ (false = true) by decide)] at H
   have H' := Aside0.mk H
   clear H; have hnb17 := NB409_410.out; have hnc17 := NB410_409.out; have hnb18 := NB409_411.out; have hnc18 := NB411_409.out; have hcz19_0 := bc (.string a0_0) BK409 0; have hcz19_1 := bc (.string a0_1) BK409 1; have hcz19_2 := bc (.int .i64 a0_2) BK409 2; have hfz19_0 := blk_frozen BK409.out 0; have hfz19_1 := blk_frozen BK409.out 1; have hfz19_2 := blk_frozen BK409.out 2
   go_wp2_with (first | (refine gd 10 22 ?_; refine gc 10 Tryd.func22 #[.agg #[.string a0_0, .string a0_1, .int .i64 a0_2]] (impl_IsValidLog.calls k a0_0 a0_1 a0_2 false _ (GL.below HG.out ax200) A7.out) ?_; rintro e w20 ⟨rfl, hb⟩; refine ⟨_, rfl, ?_⟩; replace BK409 := ub BK409 hb; replace BK410 := ub BK410 hb; replace BK411 := ub BK411 hb; replace HB := Aside0.mk (below_step ax200 hb); (try clear hb); (try clear hb2); (try clear hk); (try clear hi)))
   go_meet
   case rel => exact ⟨_, (true), ax10, H', ⟨by first | omega | exact Nat.le_refl _⟩, ⟨ax201⟩, ⟨ax202⟩, ⟨ax203⟩, ⟨ax200⟩⟩
 case rest =>
  clear HC3
  try clear c1
  try clear c2
  try clear p2
  try clear c8
  try clear c10
  try clear c11
  try clear c14
  try clear c17
  try clear c18
  try clear hcz12_0
  try clear hcz12_1
  try clear hcz12_2
  try clear hcz15_0
  try clear hcz15_1
  try clear hcz19_0
  try clear hcz19_1
  try clear hcz19_2
  try clear hfz12_0
  try clear hfz12_1
  try clear hfz12_2
  try clear hfz15_0
  try clear hfz15_1
  try clear hfz19_0
  try clear hfz19_1
  try clear hfz19_2
  obtain ⟨kq, x8_2, rfl, HA, HJ2, BK409, BK410, BK411, HB⟩ := hcut
  cases kq with
  | zero => exact absurd HA.out (by simp [impl_AppendRecord.j0])
  | succ kj2 =>
   have H := HA.out; clear HA
   simp only [impl_AppendRecord.j0] at H
   by_cases c21 : x8_2 = true
   ·subst c21
    rw [if_pos rfl] at H
    simp only [Option.some.injEq, Prod.mk.injEq] at H
    obtain ⟨rfl, rfl, rfl, rfl⟩ := H
    have hnb22 := NB409_410.out; have hnc22 := NB410_409.out; have hnb23 := NB409_411.out; have hnc23 := NB411_409.out; have hcz24_0 := bc (.string a0_0) BK409 0; have hcz24_1 := bc (.string a0_1) BK409 1; have hcz24_2 := bc (.int .i64 a0_2) BK409 2; have hfz24_0 := blk_frozen BK409.out 0; have hfz24_1 := blk_frozen BK409.out 1; have hfz24_2 := blk_frozen BK409.out 2; have hnb25 := NB411_410.out; have hnc25 := NB410_411.out; have hcz26_0 := bc (.string (⟨#[]⟩ : ByteArray)) BK411 0; have hcz26_1 := bc (.string (⟨#[]⟩ : ByteArray)) BK411 1; have hcz26_2 := bc (.int .i64 0) BK411 2; have hfz26_0 := blk_frozen BK411.out 0; have hfz26_1 := blk_frozen BK411.out 1; have hfz26_2 := blk_frozen BK411.out 2
    go_wp2
    refine bodyPost_ret (results_ct rfl _ _ gb411 27 #[.string a0_0, .string a0_1, .int .i64 a0_2] (0, 0) _ rfl ax204 Tryd.underlying27 rfl (by kernel_rfl)) rfl ?_
    exact ⟨ax18, by repeat (first | (with_reducible first | exact HB.out | apply below_alloc | apply pw_below_drewN | apply below_drew1 | refine below_set ?_ GE409.out | refine below_set ?_ GE410.out | refine below_set ?_ GE411.out) | exact HB.out)⟩
   ·replace c21 := Bool.eq_false_iff.mpr c21
    subst c21
    rw [if_neg (show ¬ (false = true) by decide)] at H
    by_cases c27 : a0_2 = 40
    ·rw [if_pos c27] at H
     have c27b0 : (a0_2 == 40) = true := beq_iff_eq.mpr c27
     have c27b1 : (a0_2 != 40) = false := bne_eq_false_iff_eq.mpr c27
     clear c27
     simp only [Option.some.injEq, Prod.mk.injEq] at H
     obtain ⟨rfl, rfl, rfl, rfl⟩ := H
     have hnb28 := NB409_410.out; have hnc28 := NB410_409.out; have hnb29 := NB409_411.out; have hnc29 := NB411_409.out; have hcz30_0 := bc (.string a0_0) BK409 0; have hcz30_1 := bc (.string a0_1) BK409 1; have hcz30_2 := bc (.int .i64 a0_2) BK409 2; have hfz30_0 := blk_frozen BK409.out 0; have hfz30_1 := blk_frozen BK409.out 1; have hfz30_2 := blk_frozen BK409.out 2; have hnb31 := NB411_410.out; have hnc31 := NB410_411.out; have hcz32_0 := bc (.string (⟨#[]⟩ : ByteArray)) BK411 0; have hcz32_1 := bc (.string (⟨#[]⟩ : ByteArray)) BK411 1; have hcz32_2 := bc (.int .i64 0) BK411 2; have hfz32_0 := blk_frozen BK411.out 0; have hfz32_1 := blk_frozen BK411.out 1; have hfz32_2 := blk_frozen BK411.out 2
     go_wp2
     refine bodyPost_ret (results_ct rfl _ _ gb411 27 #[.string a0_0, .string a0_1, .int .i64 a0_2] (0, 0) _ rfl ax204 Tryd.underlying27 rfl (by kernel_rfl)) rfl ?_
     exact ⟨ax18, by repeat (first | (with_reducible first | exact HB.out | apply below_alloc | apply pw_below_drewN | apply below_drew1 | refine below_set ?_ GE409.out | refine below_set ?_ GE410.out | refine below_set ?_ GE411.out) | exact HB.out)⟩
    ·rw [if_neg c27] at H
     have c27b0 : (a0_2 == 40) = false := beq_eq_false_iff_ne.mpr c27
     have c27b1 : (a0_2 != 40) = true := bne_iff_ne.mpr c27
     obtain ⟨⟨t414, t415⟩, A33, H⟩ := bs H
     by_cases c34 : a0_1.size + t414.size ≤ 9223372036854775807
     ·rw [if_pos c34] at H
      have c34b0 := eq_true c34
      have c34b1 : decide (a0_1.size + t414.size ≤ 9223372036854775807) = true := decide_eq_true c34
      try have c34b2 : (9223372036854775807 < a0_1.size + t414.size) = False := eq_false (Nat.not_lt.2 c34)
      clear c34
      obtain ⟨js35, hjs35⟩ : ∃ j_ : ByteArray, (a0_1 ++ t414) = j_ := ⟨_, rfl⟩
      replace H : (some (a0_0, js35, wrap64 (a0_2 + 1), 0)) = some (r1, r2, r3, r4) := by first | (rw [hjs35] at H; exact H) | (simp only [hjs35] at H ⊢; exact H)
      simp only [Option.some.injEq, Prod.mk.injEq] at H
      obtain ⟨rfl, rfl, rfl, rfl⟩ := H
      have hnb36 := NB409_410.out; have hnc36 := NB410_409.out; have hnb37 := NB409_411.out; have hnc37 := NB411_409.out; have hcz38_0 := bc (.string a0_0) BK409 0; have hcz38_1 := bc (.string a0_1) BK409 1; have hcz38_2 := bc (.int .i64 a0_2) BK409 2; have hfz38_0 := blk_frozen BK409.out 0; have hfz38_1 := blk_frozen BK409.out 1; have hfz38_2 := blk_frozen BK409.out 2; have hnb39 := NB410_411.out; have hnc39 := NB411_410.out; have hcz40_0 := bc (.string a1_0) BK410 0; have hcz40_1 := bc (.string a1_1) BK410 1; have hfz40_0 := blk_frozen BK410.out 0; have hfz40_1 := blk_frozen BK410.out 1
      go_wp2_with (first | (refine gd 27 14 ?_; refine gc 27 Tryd.func14 #[.int .i64 a0_2, .agg #[.string a1_0, .string a1_1]] (impl_EncodeRecord.calls kj2 a0_2 a1_0 a1_1 t414 t415 _ (GL.below HG.out ax200) A33.out) ?_; rintro e w41 ⟨rfl, hb⟩; refine ⟨_, rfl, ?_⟩; replace BK409 := ub BK409 hb; replace BK410 := ub BK410 hb; replace BK411 := ub BK411 hb; replace HB := Aside0.mk (below_step ax200 hb); (try clear hb); (try clear hb2); (try clear hk); (try clear hi); have hcz42_0 := bc (.string a0_0) BK409 0; have hcz42_1 := bc (.string a0_1) BK409 1; have hcz42_2 := bc (.int .i64 a0_2) BK409 2; have hfz42_0 := blk_frozen BK409.out 0; have hfz42_1 := blk_frozen BK409.out 1; have hfz42_2 := blk_frozen BK409.out 2; have hcz43_0 := bc (.string (⟨#[]⟩ : ByteArray)) BK411 0; have hcz43_1 := bc (.string (⟨#[]⟩ : ByteArray)) BK411 1; have hcz43_2 := bc (.int .i64 0) BK411 2; have hfz43_0 := blk_frozen BK411.out 0; have hfz43_1 := blk_frozen BK411.out 1; have hfz43_2 := blk_frozen BK411.out 2))
      refine bodyPost_ret (results_ct rfl _ _ gb411 27 #[.string a0_0, .string js35, .int .i64 (wrap64 (a0_2 + 1))] (0, 0) _ rfl (by (with_reducible repeat (first | refine blk_drewN ?_ _ | refine blk_drew ?_ | refine blk_alloc ?_ _)); refine blk_put (cs := #[.string a0_0, .string js35, .int .i64 0]) ?_ 2 _ rfl; (with_reducible repeat (first | refine blk_drewN ?_ _ | refine blk_drew ?_ | refine blk_alloc ?_ _)); refine blk_put (cs := #[.string a0_0, .string (⟨#[]⟩ : ByteArray), .int .i64 0]) ?_ 1 _ rfl; (with_reducible repeat (first | refine blk_drewN ?_ _ | refine blk_drew ?_ | refine blk_alloc ?_ _)); refine blk_put (cs := #[.string (⟨#[]⟩ : ByteArray), .string (⟨#[]⟩ : ByteArray), .int .i64 0]) ?_ 0 _ rfl; (with_reducible repeat (first | refine blk_drewN ?_ _ | refine blk_drew ?_ | refine blk_alloc ?_ _)); exact BK411.out) Tryd.underlying27 rfl (by kernel_rfl)) rfl ?_
      exact ⟨ax94, by repeat (first | (with_reducible first | exact HB.out | apply below_alloc | apply pw_below_drewN | apply below_drew1 | refine below_set ?_ GE409.out | refine below_set ?_ GE410.out | refine below_set ?_ GE411.out) | exact HB.out)⟩
     ·rw [if_neg c34] at H
      exact absurd H (by simp)

/-! ### spec_IsValidRecord: function 21 -/
def spec_IsValidRecord.f (k : Nat) (a0_0 : ByteArray) (a0_1 : ByteArray) : Option (Bool) := (spec_l12Record.f k a0_0 a0_1).bind fun t417 => (some t417)
theorem spec_IsValidRecord.mono : ∀ a0 a1 k, LeO (spec_IsValidRecord.f k a0 a1) (spec_IsValidRecord.f (k + 1) a0 a1) := by
 intro a0 a1 k
 unfold spec_IsValidRecord.f
 repeat' first | (with_reducible first | exact spec_l12Record.mono .. | exact LeO.refl _ | exact LeO.none _ | refine LeO.ite ?_ ?_ | refine LeO.bind ?_ (fun _ => ?_)) | exact spec_l12Record.mono .. | exact LeO.none _ | refine LeO.ite ?_ ?_ | refine LeO.bind ?_ (fun _ => ?_)
set_option maxHeartbeats 8000000 in
set_option maxRecDepth 100000 in
theorem spec_IsValidRecord.calls (k : Nat) (a0_0 : ByteArray) (a0_1 : ByteArray) (r : Bool) (w : World) (h : spec_IsValidRecord.f k a0_0 a0_1 = some r) :
  Calls Tryd.prog 21 #[.agg #[.string a0_0, .string a0_1]] w fun e w' => e = .returned (.bool r) ∧ Below w.heap.size w w' := by
 have hu33 := Tryd.underlying33; have HB := Aside0.mk (Below.refl w.heap.size w)
 have H : ((spec_l12Record.f k a0_0 a0_1).bind fun t417 => (some t417)) = some r := h
 clear h
 obtain ⟨t417, A2, H⟩ := bs H
 obtain rfl := Option.some.inj H
 go_enter Tryd.func21, Tryd.ntmps21
 go_wp2_with (first | ((with_reducible refine gate_dst (N := 1) rfl ?_); refine box_event ?hg (N := 1) ?hd (cs := #[.string a0_0, .string a0_1]) (t := 33) ?hr ?_; (case hd => rfl); (case hg => rfl); (case hr => exact ax9); intro gb416 hg w3 hbox hb; have BK416 := Aside0.mk (hbox); have GW416 := uG hg HB; have GE416 := uG hg HB; replace HB := uB HB hb; clear hb hbox hg; have hcz4_0 := bc (.string a0_0) BK416 0; have hcz4_1 := bc (.string a0_1) BK416 1; have hfz4_0 := blk_frozen BK416.out 0; have hfz4_1 := blk_frozen BK416.out 1) | (refine gd 4 40 ?_; refine gc 4 Tryd.func40 #[.agg #[.string a0_0, .string a0_1]] (spec_l12Record.calls k a0_0 a0_1 t417 _ A2.out) ?_; rintro e w5 ⟨rfl, hb⟩; refine ⟨_, rfl, ?_⟩; replace BK416 := ub BK416 hb; replace HB := Aside0.mk (below_step (by repeat (first | (with_reducible first | exact HB.out | apply below_alloc | apply pw_below_drewN | apply below_drew1 | refine below_set ?_ GE416.out) | exact HB.out)) hb); (try clear hb); (try clear hb2); (try clear hk); (try clear hi)))
 go_ret
 exact ⟨ax18, by repeat (first | (with_reducible first | exact HB.out | apply below_alloc | apply pw_below_drewN | apply below_drew1 | refine below_set ?_ GE416.out) | exact HB.out)⟩

/-! ### spec_IsValidLog: function 23 -/
def spec_IsValidLog.f (k : Nat) (a0_0 : ByteArray) (a0_1 : ByteArray) (a0_2 : Int) : Option (Bool) := (spec_l12Valid.f k a0_0 a0_1 a0_2).bind fun t419 => (some t419)
theorem spec_IsValidLog.mono : ∀ a0 a1 a2 k, LeO (spec_IsValidLog.f k a0 a1 a2) (spec_IsValidLog.f (k + 1) a0 a1 a2) := by
 intro a0 a1 a2 k
 unfold spec_IsValidLog.f
 repeat' first | (with_reducible first | exact spec_l12Valid.mono .. | exact LeO.refl _ | exact LeO.none _ | refine LeO.ite ?_ ?_ | refine LeO.bind ?_ (fun _ => ?_)) | exact spec_l12Valid.mono .. | exact LeO.none _ | refine LeO.ite ?_ ?_ | refine LeO.bind ?_ (fun _ => ?_)
set_option maxHeartbeats 8000000 in
set_option maxRecDepth 100000 in
theorem spec_IsValidLog.calls (k : Nat) (a0_0 : ByteArray) (a0_1 : ByteArray) (a0_2 : Int) (r : Bool) (w : World) (h : spec_IsValidLog.f k a0_0 a0_1 a0_2 = some r) :
  Calls Tryd.prog 23 #[.agg #[.string a0_0, .string a0_1, .int .i64 a0_2]] w fun e w' => e = .returned (.bool r) ∧ Below w.heap.size w w' := by
 have hu27 := Tryd.underlying27; have HB := Aside0.mk (Below.refl w.heap.size w)
 have H : ((spec_l12Valid.f k a0_0 a0_1 a0_2).bind fun t419 => (some t419)) = some r := h
 clear h
 obtain ⟨t419, A2, H⟩ := bs H
 obtain rfl := Option.some.inj H
 go_enter Tryd.func23, Tryd.ntmps23
 go_wp2_with (first | ((with_reducible refine gate_dst (N := 1) rfl ?_); refine box_event ?hg (N := 1) ?hd (cs := #[.string a0_0, .string a0_1, .int .i64 a0_2]) (t := 27) ?hr ?_; (case hd => rfl); (case hg => rfl); (case hr => exact ax9); intro gb418 hg w3 hbox hb; have BK418 := Aside0.mk (hbox); have GW418 := uG hg HB; have GE418 := uG hg HB; replace HB := uB HB hb; clear hb hbox hg; have hcz4_0 := bc (.string a0_0) BK418 0; have hcz4_1 := bc (.string a0_1) BK418 1; have hcz4_2 := bc (.int .i64 a0_2) BK418 2; have hfz4_0 := blk_frozen BK418.out 0; have hfz4_1 := blk_frozen BK418.out 1; have hfz4_2 := blk_frozen BK418.out 2) | (refine gd 4 33 ?_; refine gc 4 Tryd.func33 #[.agg #[.string a0_0, .string a0_1, .int .i64 a0_2]] (spec_l12Valid.calls k a0_0 a0_1 a0_2 t419 _ A2.out) ?_; rintro e w5 ⟨rfl, hb⟩; refine ⟨_, rfl, ?_⟩; replace BK418 := ub BK418 hb; replace HB := Aside0.mk (below_step (by repeat (first | (with_reducible first | exact HB.out | apply below_alloc | apply pw_below_drewN | apply below_drew1 | refine below_set ?_ GE418.out) | exact HB.out)) hb); (try clear hb); (try clear hb2); (try clear hk); (try clear hi)))
 go_ret
 exact ⟨ax18, by repeat (first | (with_reducible first | exact HB.out | apply below_alloc | apply pw_below_drewN | apply below_drew1 | refine below_set ?_ GE418.out) | exact HB.out)⟩

/-! ### impl_SyncLog: function 24 -/
def impl_SyncLog.f (k : Nat) (a0_0 : ByteArray) (a0_1 : ByteArray) (a0_2 : Int) : Option (ByteArray × ByteArray × Int × Bool) := (impl_IsValidLog.f k a0_0 a0_1 a0_2).bind fun t422 => (if t422 = true then (if a0_0.size + a0_1.size ≤ 9223372036854775807 then (some (a0_0 ++ a0_1, (⟨#[]⟩ : ByteArray), a0_2, true)) else (none)) else (some ((⟨#[]⟩ : ByteArray), (⟨#[]⟩ : ByteArray), 0, false)))
theorem impl_SyncLog.mono : ∀ a0 a1 a2 k, LeO (impl_SyncLog.f k a0 a1 a2) (impl_SyncLog.f (k + 1) a0 a1 a2) := by
 intro a0 a1 a2 k
 unfold impl_SyncLog.f
 repeat' first | (with_reducible first | exact impl_IsValidLog.mono .. | exact LeO.refl _ | exact LeO.none _ | refine LeO.ite ?_ ?_ | refine LeO.bind ?_ (fun _ => ?_)) | exact impl_IsValidLog.mono .. | exact LeO.none _ | refine LeO.ite ?_ ?_ | refine LeO.bind ?_ (fun _ => ?_)
set_option maxHeartbeats 8000000 in
set_option maxRecDepth 100000 in
theorem impl_SyncLog.calls (k : Nat) (a0_0 : ByteArray) (a0_1 : ByteArray) (a0_2 : Int) (r1 : ByteArray) (r2 : ByteArray) (r3 : Int) (r4 : Bool) (w : World) (hG : GL w) (h : impl_SyncLog.f k a0_0 a0_1 a0_2 = some (r1, r2, r3, r4)) :
  Calls Tryd.prog 24 #[.agg #[.string a0_0, .string a0_1, .int .i64 a0_2]] w fun e w' => e = .returned (.tuple #[.agg #[.string r1, .string r2, .int .i64 r3], .bool r4]) ∧ Below w.heap.size w w' := by
 have hu27 := Tryd.underlying27; have HB := Aside0.mk (Below.refl w.heap.size w); have HG := Aside0.mk hG; clear hG
 have H : ((impl_IsValidLog.f k a0_0 a0_1 a0_2).bind fun t422 => (if t422 = true then (if a0_0.size + a0_1.size ≤ 9223372036854775807 then (some (a0_0 ++ a0_1, (⟨#[]⟩ : ByteArray), a0_2, true)) else (none)) else (some ((⟨#[]⟩ : ByteArray), (⟨#[]⟩ : ByteArray), 0, false)))) = some (r1, r2, r3, r4) := h
 clear h
 obtain ⟨t422, A2, H⟩ := bs H
 by_cases c3 : t422 = true
 ·subst c3
  rw [if_pos rfl] at H
  by_cases c4 : a0_0.size + a0_1.size ≤ 9223372036854775807
  ·rw [if_pos c4] at H
   have c4b0 := eq_true c4
   have c4b1 : decide (a0_0.size + a0_1.size ≤ 9223372036854775807) = true := decide_eq_true c4
   try have c4b2 : (9223372036854775807 < a0_0.size + a0_1.size) = False := eq_false (Nat.not_lt.2 c4)
   clear c4
   obtain ⟨js5, hjs5⟩ : ∃ j_ : ByteArray, (a0_0 ++ a0_1) = j_ := ⟨_, rfl⟩
   replace H : (some (js5, (⟨#[]⟩ : ByteArray), a0_2, true)) = some (r1, r2, r3, r4) := by first | (rw [hjs5] at H; exact H) | (simp only [hjs5] at H ⊢; exact H)
   simp only [Option.some.injEq, Prod.mk.injEq] at H
   obtain ⟨rfl, rfl, rfl, rfl⟩ := H
   go_enter Tryd.func24, Tryd.ntmps24
   go_wp2_with (first | ((with_reducible refine gate_dst (N := 1) rfl ?_); refine box_event ?hg (N := 1) ?hd (cs := #[.string a0_0, .string a0_1, .int .i64 a0_2]) (t := 27) ?hr ?_; (case hd => rfl); (case hg => rfl); (case hr => exact ax9); intro gb420 hg w6 hbox hb; have BK420 := Aside0.mk (hbox); have GW420 := uG hg HB; have GE420 := uG hg HB; replace HB := uB HB hb; clear hb hbox hg) | ((with_reducible refine gate_dst (N := 2) rfl ?_); refine box_event ?hg (N := 2) ?hd (cs := #[.string (⟨#[]⟩ : ByteArray), .string (⟨#[]⟩ : ByteArray), .int .i64 0]) (t := 27) ?hr ?_; (case hd => rfl); (case hg => rfl); (case hr => exact ax9); intro gb421 hg w7 hbox hb; have BK421 := Aside0.mk (hbox); have GW421 := Aside0.mk ((ax205 : w.heap.size ≤ gb421)); have GE421 := Aside0.mk ((ax205 : w.heap.size ≤ gb421)); replace HB := Aside0.mk (below_step ax206 hb); have NB420_421 := uN hg BK420; have NB421_420 := uM hg BK420; replace BK420 := ub BK420 hb; clear hb hbox hg; have hnb8 := NB420_421.out; have hnc8 := NB421_420.out; have hcz9_0 := bc (.string a0_0) BK420 0; have hcz9_1 := bc (.string a0_1) BK420 1; have hcz9_2 := bc (.int .i64 a0_2) BK420 2; have hfz9_0 := blk_frozen BK420.out 0; have hfz9_1 := blk_frozen BK420.out 1; have hfz9_2 := blk_frozen BK420.out 2) | (refine gd 5 22 ?_; refine gc 5 Tryd.func22 #[.agg #[.string a0_0, .string a0_1, .int .i64 a0_2]] (impl_IsValidLog.calls k a0_0 a0_1 a0_2 true _ (GL.below HG.out ax207) A2.out) ?_; rintro e w10 ⟨rfl, hb⟩; refine ⟨_, rfl, ?_⟩; replace BK420 := ub BK420 hb; replace BK421 := ub BK421 hb; replace HB := Aside0.mk (below_step ax207 hb); (try clear hb); (try clear hb2); (try clear hk); (try clear hi); have hcz11_0 := bc (.string a0_0) BK420 0; have hcz11_1 := bc (.string a0_1) BK420 1; have hcz11_2 := bc (.int .i64 a0_2) BK420 2; have hfz11_0 := blk_frozen BK420.out 0; have hfz11_1 := blk_frozen BK420.out 1; have hfz11_2 := blk_frozen BK420.out 2; have hcz12_0 := bc (.string (⟨#[]⟩ : ByteArray)) BK421 0; have hcz12_1 := bc (.string (⟨#[]⟩ : ByteArray)) BK421 1; have hcz12_2 := bc (.int .i64 0) BK421 2; have hfz12_0 := blk_frozen BK421.out 0; have hfz12_1 := blk_frozen BK421.out 1; have hfz12_2 := blk_frozen BK421.out 2))
   refine bodyPost_ret (results_ct rfl _ _ gb421 27 #[.string js5, .string (⟨#[]⟩ : ByteArray), .int .i64 a0_2] (0, 0) _ rfl (by (with_reducible repeat (first | refine blk_drewN ?_ _ | refine blk_drew ?_ | refine blk_alloc ?_ _)); refine blk_put (cs := #[.string js5, .string (⟨#[]⟩ : ByteArray), .int .i64 0]) ?_ 2 _ rfl; (with_reducible repeat (first | refine blk_drewN ?_ _ | refine blk_drew ?_ | refine blk_alloc ?_ _)); refine blk_put (cs := #[.string js5, .string (⟨#[]⟩ : ByteArray), .int .i64 0]) ?_ 1 _ rfl; (with_reducible repeat (first | refine blk_drewN ?_ _ | refine blk_drew ?_ | refine blk_alloc ?_ _)); refine blk_put (cs := #[.string (⟨#[]⟩ : ByteArray), .string (⟨#[]⟩ : ByteArray), .int .i64 0]) ?_ 0 _ rfl; (with_reducible repeat (first | refine blk_drewN ?_ _ | refine blk_drew ?_ | refine blk_alloc ?_ _)); exact BK421.out) Tryd.underlying27 rfl (by kernel_rfl)) rfl ?_
   exact ⟨ax26, by repeat (first | (with_reducible first | exact HB.out | apply below_alloc | apply pw_below_drewN | apply below_drew1 | refine below_set ?_ GE420.out | refine below_set ?_ GE421.out) | exact HB.out)⟩
  ·exact ax3
 ·replace c3 := Bool.eq_false_iff.mpr c3
  subst c3
  rw [if_neg (show ¬ (false = true) by decide)] at H
  simp only [Option.some.injEq, Prod.mk.injEq] at H
  obtain ⟨rfl, rfl, rfl, rfl⟩ := H
  go_enter Tryd.func24, Tryd.ntmps24
  go_wp2_with (first | ((with_reducible refine gate_dst (N := 1) rfl ?_); refine box_event ?hg (N := 1) ?hd (cs := #[.string a0_0, .string a0_1, .int .i64 a0_2]) (t := 27) ?hr ?_; (case hd => rfl); (case hg => rfl); (case hr => exact ax9); intro gb420 hg w13 hbox hb; have BK420 := Aside0.mk (hbox); have GW420 := uG hg HB; have GE420 := uG hg HB; replace HB := uB HB hb; clear hb hbox hg) | ((with_reducible refine gate_dst (N := 2) rfl ?_); refine box_event ?hg (N := 2) ?hd (cs := #[.string (⟨#[]⟩ : ByteArray), .string (⟨#[]⟩ : ByteArray), .int .i64 0]) (t := 27) ?hr ?_; (case hd => rfl); (case hg => rfl); (case hr => exact ax9); intro gb421 hg w14 hbox hb; have BK421 := Aside0.mk (hbox); have GW421 := Aside0.mk ((ax205 : w.heap.size ≤ gb421)); have GE421 := Aside0.mk ((ax205 : w.heap.size ≤ gb421)); replace HB := Aside0.mk (below_step ax206 hb); have NB420_421 := uN hg BK420; have NB421_420 := uM hg BK420; replace BK420 := ub BK420 hb; clear hb hbox hg; have hnb15 := NB420_421.out; have hnc15 := NB421_420.out; have hcz16_0 := bc (.string a0_0) BK420 0; have hcz16_1 := bc (.string a0_1) BK420 1; have hcz16_2 := bc (.int .i64 a0_2) BK420 2; have hfz16_0 := blk_frozen BK420.out 0; have hfz16_1 := blk_frozen BK420.out 1; have hfz16_2 := blk_frozen BK420.out 2) | (refine gd 5 22 ?_; refine gc 5 Tryd.func22 #[.agg #[.string a0_0, .string a0_1, .int .i64 a0_2]] (impl_IsValidLog.calls k a0_0 a0_1 a0_2 false _ (GL.below HG.out ax207) A2.out) ?_; rintro e w17 ⟨rfl, hb⟩; refine ⟨_, rfl, ?_⟩; replace BK420 := ub BK420 hb; replace BK421 := ub BK421 hb; replace HB := Aside0.mk (below_step ax207 hb); (try clear hb); (try clear hb2); (try clear hk); (try clear hi); have hcz18_0 := bc (.string (⟨#[]⟩ : ByteArray)) BK421 0; have hcz18_1 := bc (.string (⟨#[]⟩ : ByteArray)) BK421 1; have hcz18_2 := bc (.int .i64 0) BK421 2; have hfz18_0 := blk_frozen BK421.out 0; have hfz18_1 := blk_frozen BK421.out 1; have hfz18_2 := blk_frozen BK421.out 2))
  refine bodyPost_ret (results_ct rfl _ _ gb421 27 #[.string (⟨#[]⟩ : ByteArray), .string (⟨#[]⟩ : ByteArray), .int .i64 0] (0, 0) _ rfl (by (with_reducible repeat (first | refine blk_drewN ?_ _ | refine blk_drew ?_ | refine blk_alloc ?_ _)); refine blk_put (cs := #[.string (⟨#[]⟩ : ByteArray), .string (⟨#[]⟩ : ByteArray), .int .i64 0]) ?_ 2 _ rfl; (with_reducible repeat (first | refine blk_drewN ?_ _ | refine blk_drew ?_ | refine blk_alloc ?_ _)); refine blk_put (cs := #[.string (⟨#[]⟩ : ByteArray), .string (⟨#[]⟩ : ByteArray), .int .i64 0]) ?_ 1 _ rfl; (with_reducible repeat (first | refine blk_drewN ?_ _ | refine blk_drew ?_ | refine blk_alloc ?_ _)); refine blk_put (cs := #[.string (⟨#[]⟩ : ByteArray), .string (⟨#[]⟩ : ByteArray), .int .i64 0]) ?_ 0 _ rfl; (with_reducible repeat (first | refine blk_drewN ?_ _ | refine blk_drew ?_ | refine blk_alloc ?_ _)); exact BK421.out) Tryd.underlying27 rfl (by kernel_rfl)) rfl ?_
  exact ⟨ax18, by repeat (first | (with_reducible first | exact HB.out | apply below_alloc | apply pw_below_drewN | apply below_drew1 | refine below_set ?_ GE420.out | refine below_set ?_ GE421.out) | exact HB.out)⟩

/-! ### spec_LogRecords: function 27 -/
def spec_LogRecords.f (k : Nat) (a0_0 : ByteArray) (a0_1 : ByteArray) (a0_2 : Int) : Option ((List (S33)) × Bool) := (spec_l12Valid.f k a0_0 a0_1 a0_2).bind fun t429 => (if t429 = true then (if a0_0.size + a0_1.size ≤ 9223372036854775807 then ((spec_l12Open.f k (a0_0 ++ a0_1)).bind fun bt430 => (some (bt430.1, true))) else (none)) else (some ((([] : List (S33))), false)))
theorem spec_LogRecords.mono : ∀ a0 a1 a2 k, LeO (spec_LogRecords.f k a0 a1 a2) (spec_LogRecords.f (k + 1) a0 a1 a2) := by
 intro a0 a1 a2 k
 unfold spec_LogRecords.f
 repeat' first | (with_reducible first | exact spec_l12Open.mono .. | exact spec_l12Valid.mono .. | exact LeO.refl _ | exact LeO.none _ | refine LeO.ite ?_ ?_ | refine LeO.bind ?_ (fun _ => ?_)) | exact spec_l12Open.mono .. | exact spec_l12Valid.mono .. | exact LeO.none _ | refine LeO.ite ?_ ?_ | refine LeO.bind ?_ (fun _ => ?_)
set_option maxHeartbeats 8000000 in
set_option maxRecDepth 100000 in
theorem spec_LogRecords.calls (k : Nat) (a0_0 : ByteArray) (a0_1 : ByteArray) (a0_2 : Int) (r1 : List (S33)) (r2 : Bool) (w : World) (h : spec_LogRecords.f k a0_0 a0_1 a0_2 = some (r1, r2)) :
  Calls Tryd.prog 27 #[.agg #[.string a0_0, .string a0_1, .int .i64 a0_2]] w fun e w' => ∃ v0_ : Value, e = .returned (.tuple #[v0_, .bool r2]) ∧ Kd.R k33 33 w' w.heap.size (fun _ => True) v0_ r1 ∧ Below w.heap.size w w' := by
 have hu27 := Tryd.underlying27; have HB := Aside0.mk (Below.refl w.heap.size w)
 have H : ((spec_l12Valid.f k a0_0 a0_1 a0_2).bind fun t429 => (if t429 = true then (if a0_0.size + a0_1.size ≤ 9223372036854775807 then ((spec_l12Open.f k (a0_0 ++ a0_1)).bind fun bt430 => (some (bt430.1, true))) else (none)) else (some ((([] : List (S33))), false)))) = some (r1, r2) := h
 clear h
 obtain ⟨t429, A2, H⟩ := bs H
 by_cases c3 : t429 = true
 ·subst c3
  rw [if_pos rfl] at H
  by_cases c4 : a0_0.size + a0_1.size ≤ 9223372036854775807
  ·rw [if_pos c4] at H
   have c4b0 := eq_true c4
   have c4b1 : decide (a0_0.size + a0_1.size ≤ 9223372036854775807) = true := decide_eq_true c4
   try have c4b2 : (9223372036854775807 < a0_0.size + a0_1.size) = False := eq_false (Nat.not_lt.2 c4)
   clear c4
   obtain ⟨js5, hjs5⟩ : ∃ j_ : ByteArray, (a0_0 ++ a0_1) = j_ := ⟨_, rfl⟩
   replace H : ((spec_l12Open.f k js5).bind fun bt430 => (some (bt430.1, true))) = some (r1, r2) := by first | (rw [hjs5] at H; exact H) | (simp only [hjs5] at H ⊢; exact H)
   obtain ⟨⟨t430, t431⟩, A6, H⟩ := bs H
   simp only [Option.some.injEq, Prod.mk.injEq] at H
   obtain ⟨rfl, rfl⟩ := H
   go_enter Tryd.func27, Tryd.ntmps27
   go_wp2_with (first | ((with_reducible refine gate_dst (N := 1) rfl ?_); refine box_event ?hg (N := 1) ?hd (cs := #[.string a0_0, .string a0_1, .int .i64 a0_2]) (t := 27) ?hr ?_; (case hd => rfl); (case hg => rfl); (case hr => exact ax9); intro gb428 hg w7 hbox hb; have BK428 := Aside0.mk (hbox); have GW428 := uG hg HB; have GE428 := uG hg HB; replace HB := uB HB hb; clear hb hbox hg; have hcz8_0 := bc (.string a0_0) BK428 0; have hcz8_1 := bc (.string a0_1) BK428 1; have hcz8_2 := bc (.int .i64 a0_2) BK428 2; have hfz8_0 := blk_frozen BK428.out 0; have hfz8_1 := blk_frozen BK428.out 1; have hfz8_2 := blk_frozen BK428.out 2) | (refine gd 7 33 ?_; refine gc 7 Tryd.func33 #[.agg #[.string a0_0, .string a0_1, .int .i64 a0_2]] (spec_l12Valid.calls k a0_0 a0_1 a0_2 true _ A2.out) ?_; rintro e w9 ⟨rfl, hb⟩; refine ⟨_, rfl, ?_⟩; replace BK428 := ub BK428 hb; replace HB := Aside0.mk (below_step ax208 hb); (try clear hb); (try clear hb2); (try clear hk); (try clear hi); have hcz10_0 := bc (.string a0_0) BK428 0; have hcz10_1 := bc (.string a0_1) BK428 1; have hcz10_2 := bc (.int .i64 a0_2) BK428 2; have hfz10_0 := blk_frozen BK428.out 0; have hfz10_1 := blk_frozen BK428.out 1; have hfz10_2 := blk_frozen BK428.out 2) | (refine gd 16 47 ?_; refine gc 16 Tryd.func47 #[.string js5] (spec_l12Open.calls k js5 t430 t431 _ A6.out) ?_; rintro e w11 ⟨v432, rfl, ho0, hb⟩; refine ⟨_, rfl, ?_⟩; have HO433 := Aside0.mk (Kd.R_lower ho0 (below_size ax208)); replace BK428 := ub BK428 hb; replace HB := Aside0.mk (below_step ax208 hb); (try clear hb); (try clear hb2); (try clear hk); (try clear hi); (try clear ho0)))
   go_ret2
   exact ⟨_, by first | rfl | (simp [errW_none, errW_some] <;> rfl) | (simp only [← hjs5]; first | rfl | (simp [errW_none, errW_some] <;> rfl)) | (simp [*, errW_none, errW_some] <;> rfl), by (with_reducible repeat (first | apply Kd.R_alloc | apply Kd.R_drewN | apply Kd.R_drew)); exact HO433.out, by repeat (first | (with_reducible first | exact HB.out | apply below_alloc | apply pw_below_drewN | apply below_drew1 | refine below_set ?_ GE428.out) | exact HB.out)⟩
  ·exact ax3
 ·replace c3 := Bool.eq_false_iff.mpr c3
  subst c3
  rw [if_neg (show ¬ (false = true) by decide)] at H
  obtain ⟨y434, hy434⟩ : ∃ y_ : List (S33), y_ = (([] : List (S33))) := ⟨_, rfl⟩
  replace H : (some (y434, false)) = some (r1, r2) := by first | (rw [hy434]; with_reducible exact H) | (have H2_ := (Option.bind_some _ _).symm.trans H; rw [hy434]; with_reducible exact H2_) | (have H2_ := (Option.bind_some _ _).symm.trans H; with_reducible exact H2_) | with_reducible exact H | (rw [hy434]; exact H) | exact H
  have Ny434 := Aside0.mk hy434; clear hy434
  simp only [Option.some.injEq, Prod.mk.injEq] at H
  obtain ⟨rfl, rfl⟩ := H
  go_enter Tryd.func27, Tryd.ntmps27
  go_wp2_with (first | ((with_reducible refine gate_dst (N := 1) rfl ?_); refine box_event ?hg (N := 1) ?hd (cs := #[.string a0_0, .string a0_1, .int .i64 a0_2]) (t := 27) ?hr ?_; (case hd => rfl); (case hg => rfl); (case hr => exact ax9); intro gb428 hg w12 hbox hb; have BK428 := Aside0.mk (hbox); have GW428 := uG hg HB; have GE428 := uG hg HB; replace HB := uB HB hb; clear hb hbox hg; have hcz13_0 := bc (.string a0_0) BK428 0; have hcz13_1 := bc (.string a0_1) BK428 1; have hcz13_2 := bc (.int .i64 a0_2) BK428 2; have hfz13_0 := blk_frozen BK428.out 0; have hfz13_1 := blk_frozen BK428.out 1; have hfz13_2 := blk_frozen BK428.out 2) | (refine gd 7 33 ?_; refine gc 7 Tryd.func33 #[.agg #[.string a0_0, .string a0_1, .int .i64 a0_2]] (spec_l12Valid.calls k a0_0 a0_1 a0_2 false _ A2.out) ?_; rintro e w14 ⟨rfl, hb⟩; refine ⟨_, rfl, ?_⟩; replace BK428 := ub BK428 hb; replace HB := Aside0.mk (below_step ax208 hb); (try clear hb); (try clear hb2); (try clear hk); (try clear hi)) | ((with_reducible refine gate_dst (N := 9) rfl ?_); refine Kd.R_lit k33 _ 33 ?hg (N := 9) ?hd (xs := ([] : List (S33))) (inner := []) (ok := fun _ => True) (okp := fun _ => True) ?hr ?hp (fun _ hk => hk) trivial (Below.refl _ _) (Nat.le_refl _) (by simp) ?_; (case hd => rfl); (case hg => rfl); (case hr => exact ax9); (case hp => exact (Reps.none _ _)); intro v435 w15 ho16 hb hg_ hnew_; clear hg_ hnew_; (first | rw [← Ny434.out] at ho16 | (simp only [Int.reduceToNat] at ho16; rw [← Ny434.out] at ho16)); have HO436 := Aside0.mk (Kd.R_lower ho16 (below_size ax208)); replace BK428 := ub BK428 hb; replace HB := Aside0.mk (below_step ax208 hb); clear hb ho16))
  go_ret2
  exact ⟨_, by first | rfl | (simp [errW_none, errW_some] <;> rfl) | (simp [*, errW_none, errW_some] <;> rfl), by (with_reducible repeat (first | apply Kd.R_alloc | apply Kd.R_drewN | apply Kd.R_drew)); exact HO436.out, by repeat (first | (with_reducible first | exact HB.out | apply below_alloc | apply pw_below_drewN | apply below_drew1 | refine below_set ?_ GE428.out) | exact HB.out)⟩

end Go.Proofs.YtnjjchbhbicmoaaDoor.X

-- By gen.py (the session's own program over the kit's printer): functions of the program, each with its contract. Lean checks it.
import Derived.Test.YtnjjchbhbicmoaaDoorX0
import Derived.Test.YtnjjchbhbicmoaaDoorX3
import Derived.Test.YtnjjchbhbicmoaaDoorX4
import Derived.Test.YtnjjchbhbicmoaaDoorX6
import Derived.Test.YtnjjchbhbicmoaaDoorX10
namespace Go.Proofs.YtnjjchbhbicmoaaDoor.X
open Go.RowKit Go.Proofs.YtnjjchbhbicmoaaDoorW.PrintWords Go.Proofs.YtnjjchbhbicmoaaDoorW.PrintLast Go.Proofs.YtnjjchbhbicmoaaDoorW.PrintMore
attribute [local go_sem] max2_int min2_int max_two min_two max_three min_three max_four min_four   -- for this text's walks alone
set_option linter.unusedVariables false
set_option linter.unusedSimpArgs false

/-! ### spec_AppendRecord: function 19 -/
def spec_AppendRecord.j0 : Nat → Bool → ByteArray → ByteArray → Int → ByteArray → ByteArray → Option (ByteArray × ByteArray × Int × Int)
 | 0, _, _, _, _, _, _ => none
 | k + 1, x13, x322000, x322001, x322002, x323000, x323001 => if x13 = true then (some (x322000, x322001, x322002, 1)) else (if x322002 = 40 then (some (x322000, x322001, x322002, 2)) else ((spec_l12Line.f k x322002 x323000 x323001).bind fun t326 => (if x322001.size + t326.size ≤ 9223372036854775807 then (some (x322000, x322001 ++ t326, wrap64 (x322002 + 1), 0)) else (none))))
def spec_AppendRecord.f (k : Nat) (a0_0 : ByteArray) (a0_1 : ByteArray) (a0_2 : Int) (a1_0 : ByteArray) (a1_1 : ByteArray) : Option (ByteArray × ByteArray × Int × Int) := (spec_l12Valid.f k a0_0 a0_1 a0_2).bind fun t324 => (if t324 = true then ((spec_l12Record.f k a1_0 a1_1).bind fun t325 => (spec_AppendRecord.j0 k (!t325) a0_0 a0_1 a0_2 a1_0 a1_1)) else (spec_AppendRecord.j0 k true a0_0 a0_1 a0_2 a1_0 a1_1))
theorem spec_AppendRecord.mono_l : ∀ k, (∀ y0 y1 y2 y3 y4 y5, LeO (spec_AppendRecord.j0 k y0 y1 y2 y3 y4 y5) (spec_AppendRecord.j0 (k + 1) y0 y1 y2 y3 y4 y5))
 | 0 => fun _ _ _ _ _ _ r h => by simp [spec_AppendRecord.j0] at h
 | k + 1 => by
  have ih0 := spec_AppendRecord.mono_l k
  ·intro y0 y1 y2 y3 y4 y5
   unfold spec_AppendRecord.j0
   repeat' first | (with_reducible first | exact ih0 .. | exact spec_l12Line.mono .. | exact spec_l12Record.mono .. | exact spec_l12Valid.mono .. | exact LeO.refl _ | exact LeO.none _ | refine LeO.ite ?_ ?_ | refine LeO.bind ?_ (fun _ => ?_)) | exact ih0 .. | exact spec_l12Line.mono .. | exact spec_l12Record.mono .. | exact spec_l12Valid.mono .. | exact LeO.none _ | refine LeO.ite ?_ ?_ | refine LeO.bind ?_ (fun _ => ?_)
theorem spec_AppendRecord.mono : ∀ a0 a1 a2 a3 a4 k, LeO (spec_AppendRecord.f k a0 a1 a2 a3 a4) (spec_AppendRecord.f (k + 1) a0 a1 a2 a3 a4) := by
 intro a0 a1 a2 a3 a4 k
 have ih0 := spec_AppendRecord.mono_l k
 unfold spec_AppendRecord.f
 repeat' first | (with_reducible first | exact ih0 .. | exact spec_l12Line.mono .. | exact spec_l12Record.mono .. | exact spec_l12Valid.mono .. | exact LeO.refl _ | exact LeO.none _ | refine LeO.ite ?_ ?_ | refine LeO.bind ?_ (fun _ => ?_)) | exact ih0 .. | exact spec_l12Line.mono .. | exact spec_l12Record.mono .. | exact spec_l12Valid.mono .. | exact LeO.none _ | refine LeO.ite ?_ ?_ | refine LeO.bind ?_ (fun _ => ?_)
def spec_AppendRecord.T5 : Bool × List (List Nat × List Nat) := (true, [([], []), ([0], [0]), ([], []), ([2], [2]), ([], []), ([3, 4], [3, 4]), ([1, 5], [1, 5]), ([0, 1, 2, 3, 4, 5, 6], []), ([7, 6, 5, 0, 1, 2, 3, 4, 5, 6], [6, 7])])
def spec_AppendRecord.B5 : List Nat := [0, 1, 0, 4, 0, 28, 63, 127, 255]
theorem spec_AppendRecord.tab5 : rtab .any (opsOf Tryd.f19 5) = spec_AppendRecord.T5 := by kernel_rfl
theorem spec_AppendRecord.bits5 : waitsOk spec_AppendRecord.T5.2 spec_AppendRecord.B5 = true := by kernel_rfl
set_option maxHeartbeats 8000000 in
set_option maxRecDepth 100000 in
theorem spec_AppendRecord.calls (k : Nat) (a0_0 : ByteArray) (a0_1 : ByteArray) (a0_2 : Int) (a1_0 : ByteArray) (a1_1 : ByteArray) (r1 : ByteArray) (r2 : ByteArray) (r3 : Int) (r4 : Int) (w : World) (h : spec_AppendRecord.f k a0_0 a0_1 a0_2 a1_0 a1_1 = some (r1, r2, r3, r4)) :
  Calls Tryd.prog 19 #[.agg #[.string a0_0, .string a0_1, .int .i64 a0_2], .agg #[.string a1_0, .string a1_1]] w fun e w' => e = .returned (.tuple #[.agg #[.string r1, .string r2, .int .i64 r3], .int .i64 r4]) ∧ Below w.heap.size w w' := by
 have hu27 := Tryd.underlying27; have hu33 := Tryd.underlying33; have HB := Aside0.mk (Below.refl w.heap.size w)
 have H : ((spec_l12Valid.f k a0_0 a0_1 a0_2).bind fun t324 => (if t324 = true then ((spec_l12Record.f k a1_0 a1_1).bind fun t325 => (spec_AppendRecord.j0 k (!t325) a0_0 a0_1 a0_2 a1_0 a1_1)) else (spec_AppendRecord.j0 k true a0_0 a0_1 a0_2 a1_0 a1_1))) = some (r1, r2, r3, r4) := h
 clear h; have HC3 := Aside0.mk H; clear H
 go_enter Tryd.func19, Tryd.ntmps19
 go_upto_region 1 with (first | ((with_reducible refine gate_dst (N := 2) rfl ?_); refine box_event ?hg (N := 2) ?hd (cs := #[.string a0_0, .string a0_1, .int .i64 a0_2]) (t := 27) ?hr ?_; (case hd => rfl); (case hg => rfl); (case hr => exact ax9); intro gb321 hg w4 hbox hb; have BK321 := Aside0.mk (hbox); have GW321 := uG hg HB; have GE321 := uG hg HB; replace HB := uB HB hb; clear hb hbox hg) | ((with_reducible refine gate_dst (N := 3) rfl ?_); refine box_event ?hg (N := 3) ?hd (cs := #[.string a1_0, .string a1_1]) (t := 33) ?hr ?_; (case hd => rfl); (case hg => rfl); (case hr => exact ax9); intro gb322 hg w5 hbox hb; have BK322 := Aside0.mk (hbox); have GW322 := Aside0.mk ((ax85 : w.heap.size ≤ gb322)); have GE322 := Aside0.mk ((ax85 : w.heap.size ≤ gb322)); replace HB := Aside0.mk (below_step ax86 hb); have NB321_322 := uN hg BK321; have NB322_321 := uM hg BK321; replace BK321 := ub BK321 hb; clear hb hbox hg) | ((with_reducible refine gate_dst (N := 4) rfl ?_); refine box_event ?hg (N := 4) ?hd (cs := #[.string (⟨#[]⟩ : ByteArray), .string (⟨#[]⟩ : ByteArray), .int .i64 0]) (t := 27) ?hr ?_; (case hd => rfl); (case hg => rfl); (case hr => exact ax9); intro gb323 hg w6 hbox hb; have BK323 := Aside0.mk (hbox); have GW323 := Aside0.mk ((ax87 : w.heap.size ≤ gb323)); have GE323 := Aside0.mk ((ax87 : w.heap.size ≤ gb323)); replace HB := Aside0.mk (below_step ax88 hb); have NB321_323 := uN hg BK321; have NB323_321 := uM hg BK321; replace BK321 := ub BK321 hb; have NB322_323 := uN hg BK322; have NB323_322 := uM hg BK322; replace BK322 := ub BK322 hb; clear hb hbox hg))
 (try simp only [Act.put, List.setIfInBounds_toArray, List.set_cons_zero, List.set_cons_succ])
 go_cut [13] (fun v13 wc => ∃ (kq : Nat) (x13_2 : Bool), v13 = .bool x13_2 ∧ Aside0 (spec_AppendRecord.j0 kq x13_2 a0_0 a0_1 a0_2 a1_0 a1_1 = some (r1, r2, r3, r4)) ∧ Aside0 (kq ≤ k) ∧ Aside0 (wc.heap[gb321]? = some (.cells #[.string a0_0, .string a0_1, .int .i64 a0_2] 27 (0, 0))) ∧ Aside0 (wc.heap[gb322]? = some (.cells #[.string a1_0, .string a1_1] 33 (0, 0))) ∧ Aside0 (wc.heap[gb323]? = some (.cells #[.string (⟨#[]⟩ : ByteArray), .string (⟨#[]⟩ : ByteArray), .int .i64 0] 27 (0, 0))) ∧ Aside0 (Below w.heap.size w wc))
 case first =>
  have H := HC3.out; clear HC3
  obtain ⟨t324, A7, H⟩ := bs H
  by_cases c8 : t324 = true
  ·subst c8
   rw [if_pos rfl] at H
   obtain ⟨t325, A9, H⟩ := bs H
   have H' := Aside0.mk H
   clear H; have hnb10 := NB321_322.out; have hnc10 := NB322_321.out; have hnb11 := NB321_323.out; have hnc11 := NB323_321.out; have hcz12_0 := bc (.string a0_0) BK321 0; have hcz12_1 := bc (.string a0_1) BK321 1; have hcz12_2 := bc (.int .i64 a0_2) BK321 2; have hfz12_0 := blk_frozen BK321.out 0; have hfz12_1 := blk_frozen BK321.out 1; have hfz12_2 := blk_frozen BK321.out 2
   go_wp2_with (first | (refine gd 7 33 ?_; refine gc 7 Tryd.func33 #[.agg #[.string a0_0, .string a0_1, .int .i64 a0_2]] (spec_l12Valid.calls k a0_0 a0_1 a0_2 true _ A7.out) ?_; rintro e w13 ⟨rfl, hb⟩; refine ⟨_, rfl, ?_⟩; replace BK321 := ub BK321 hb; replace BK322 := ub BK322 hb; replace BK323 := ub BK323 hb; replace HB := Aside0.mk (below_step ax89 hb); (try clear hb); (try clear hb2); (try clear hk); (try clear hi); have hnb14 := NB322_323.out; have hnc14 := NB323_322.out; have hcz15_0 := bc (.string a1_0) BK322 0; have hcz15_1 := bc (.string a1_1) BK322 1; have hfz15_0 := blk_frozen BK322.out 0; have hfz15_1 := blk_frozen BK322.out 1) | (go_at_call 40; (with_reducible refine (spec_l12Record.calls k a1_0 a1_1 t325 _ A9.out).mono ?_); rintro e w16 ⟨rfl, hb⟩; replace BK321 := ub BK321 hb; replace BK322 := ub BK322 hb; replace BK323 := ub BK323 hb; replace HB := Aside0.mk (below_step ax89 hb); (try clear hb); (try clear hb2); (try clear hk); (try clear hi)))
   go_meet
   case rel => exact ⟨_, (!t325), ax10, H', ⟨by first | omega | exact Nat.le_refl _⟩, ⟨ax90⟩, ⟨ax91⟩, ⟨ax92⟩, ⟨ax89⟩⟩
  ·replace c8 := Bool.eq_false_iff.mpr c8
   subst c8
   rw [if_neg (show ¬ (false = true) by decide)] at H
   have H' := Aside0.mk H
   clear H; have hnb17 := NB321_322.out; have hnc17 := NB322_321.out; have hnb18 := NB321_323.out; have hnc18 := NB323_321.out; have hcz19_0 := bc (.string a0_0) BK321 0; have hcz19_1 := bc (.string a0_1) BK321 1; have hcz19_2 := bc (.int .i64 a0_2) BK321 2; have hfz19_0 := blk_frozen BK321.out 0; have hfz19_1 := blk_frozen BK321.out 1; have hfz19_2 := blk_frozen BK321.out 2
   go_wp2_with (first | (refine gd 7 33 ?_; refine gc 7 Tryd.func33 #[.agg #[.string a0_0, .string a0_1, .int .i64 a0_2]] (spec_l12Valid.calls k a0_0 a0_1 a0_2 false _ A7.out) ?_; rintro e w20 ⟨rfl, hb⟩; refine ⟨_, rfl, ?_⟩; replace BK321 := ub BK321 hb; replace BK322 := ub BK322 hb; replace BK323 := ub BK323 hb; replace HB := Aside0.mk (below_step ax89 hb); (try clear hb); (try clear hb2); (try clear hk); (try clear hi)))
   go_meet
   case rel => exact ⟨_, (true), ax10, H', ⟨by first | omega | exact Nat.le_refl _⟩, ⟨ax90⟩, ⟨ax91⟩, ⟨ax92⟩, ⟨ax89⟩⟩
 case rest =>
  clear HC3
  try clear c1
  try clear p2
  try clear c3
  try clear c8
  try clear c10
  try clear c11
  try clear c14
  try clear c17
  try clear c18
  try clear c19
  try clear hcz12_0
  try clear hcz12_1
  try clear hcz12_2
  try clear hcz15_0
  try clear hcz15_1
  try clear hcz19_0
  try clear hcz19_1
  try clear hcz19_2
  try clear hfz12_0
  try clear hfz12_1
  try clear hfz12_2
  try clear hfz15_0
  try clear hfz15_1
  try clear hfz19_0
  try clear hfz19_1
  try clear hfz19_2
  obtain ⟨kq, x13_2, rfl, HA, HJ2, BK321, BK322, BK323, HB⟩ := hcut
  cases kq with
  | zero => exact absurd HA.out (by simp [spec_AppendRecord.j0])
  | succ kj2 =>
   have H := HA.out; clear HA
   simp only [spec_AppendRecord.j0] at H
   by_cases c21 : x13_2 = true
   ·subst c21
    rw [if_pos rfl] at H
    simp only [Option.some.injEq, Prod.mk.injEq] at H
    obtain ⟨rfl, rfl, rfl, rfl⟩ := H
    have hnb22 := NB321_322.out; have hnc22 := NB322_321.out; have hnb23 := NB321_323.out; have hnc23 := NB323_321.out; have hcz24_0 := bc (.string a0_0) BK321 0; have hcz24_1 := bc (.string a0_1) BK321 1; have hcz24_2 := bc (.int .i64 a0_2) BK321 2; have hfz24_0 := blk_frozen BK321.out 0; have hfz24_1 := blk_frozen BK321.out 1; have hfz24_2 := blk_frozen BK321.out 2; have hnb25 := NB323_322.out; have hnc25 := NB322_323.out; have hcz26_0 := bc (.string (⟨#[]⟩ : ByteArray)) BK323 0; have hcz26_1 := bc (.string (⟨#[]⟩ : ByteArray)) BK323 1; have hcz26_2 := bc (.int .i64 0) BK323 2; have hfz26_0 := blk_frozen BK323.out 0; have hfz26_1 := blk_frozen BK323.out 1; have hfz26_2 := blk_frozen BK323.out 2
    go_wp2
    refine bodyPost_ret (results_ct rfl _ _ gb323 27 #[.string a0_0, .string a0_1, .int .i64 a0_2] (0, 0) _ rfl ax93 Tryd.underlying27 rfl (by kernel_rfl)) rfl ?_
    exact ⟨ax18, by repeat (first | (with_reducible first | exact HB.out | apply below_alloc | apply pw_below_drewN | apply below_drew1 | refine below_set ?_ GE321.out | refine below_set ?_ GE322.out | refine below_set ?_ GE323.out) | exact HB.out)⟩
   ·replace c21 := Bool.eq_false_iff.mpr c21
    subst c21
    rw [if_neg (show ¬ (false = true) by decide)] at H
    by_cases c27 : a0_2 = 40
    ·rw [if_pos c27] at H
     have c27b0 : (a0_2 == 40) = true := beq_iff_eq.mpr c27
     have c27b1 : (a0_2 != 40) = false := bne_eq_false_iff_eq.mpr c27
     clear c27
     simp only [Option.some.injEq, Prod.mk.injEq] at H
     obtain ⟨rfl, rfl, rfl, rfl⟩ := H
     have hnb28 := NB321_322.out; have hnc28 := NB322_321.out; have hnb29 := NB321_323.out; have hnc29 := NB323_321.out; have hcz30_0 := bc (.string a0_0) BK321 0; have hcz30_1 := bc (.string a0_1) BK321 1; have hcz30_2 := bc (.int .i64 a0_2) BK321 2; have hfz30_0 := blk_frozen BK321.out 0; have hfz30_1 := blk_frozen BK321.out 1; have hfz30_2 := blk_frozen BK321.out 2; have hnb31 := NB323_322.out; have hnc31 := NB322_323.out; have hcz32_0 := bc (.string (⟨#[]⟩ : ByteArray)) BK323 0; have hcz32_1 := bc (.string (⟨#[]⟩ : ByteArray)) BK323 1; have hcz32_2 := bc (.int .i64 0) BK323 2; have hfz32_0 := blk_frozen BK323.out 0; have hfz32_1 := blk_frozen BK323.out 1; have hfz32_2 := blk_frozen BK323.out 2
     go_wp2
     refine bodyPost_ret (results_ct rfl _ _ gb323 27 #[.string a0_0, .string a0_1, .int .i64 a0_2] (0, 0) _ rfl ax93 Tryd.underlying27 rfl (by kernel_rfl)) rfl ?_
     exact ⟨ax18, by repeat (first | (with_reducible first | exact HB.out | apply below_alloc | apply pw_below_drewN | apply below_drew1 | refine below_set ?_ GE321.out | refine below_set ?_ GE322.out | refine below_set ?_ GE323.out) | exact HB.out)⟩
    ·rw [if_neg c27] at H
     have c27b0 : (a0_2 == 40) = false := beq_eq_false_iff_ne.mpr c27
     have c27b1 : (a0_2 != 40) = true := bne_iff_ne.mpr c27
     obtain ⟨t326, A33, H⟩ := bs H
     by_cases c34 : a0_1.size + t326.size ≤ 9223372036854775807
     ·rw [if_pos c34] at H
      have c34b0 := eq_true c34
      have c34b1 : decide (a0_1.size + t326.size ≤ 9223372036854775807) = true := decide_eq_true c34
      try have c34b2 : (9223372036854775807 < a0_1.size + t326.size) = False := eq_false (Nat.not_lt.2 c34)
      clear c34
      obtain ⟨js35, hjs35⟩ : ∃ j_ : ByteArray, (a0_1 ++ t326) = j_ := ⟨_, rfl⟩
      replace H : (some (a0_0, js35, wrap64 (a0_2 + 1), 0)) = some (r1, r2, r3, r4) := by first | (rw [hjs35] at H; exact H) | (simp only [hjs35] at H ⊢; exact H)
      simp only [Option.some.injEq, Prod.mk.injEq] at H
      obtain ⟨rfl, rfl, rfl, rfl⟩ := H
      have hnb36 := NB321_322.out; have hnc36 := NB322_321.out; have hnb37 := NB321_323.out; have hnc37 := NB323_321.out; have hcz38_0 := bc (.string a0_0) BK321 0; have hcz38_1 := bc (.string a0_1) BK321 1; have hcz38_2 := bc (.int .i64 a0_2) BK321 2; have hfz38_0 := blk_frozen BK321.out 0; have hfz38_1 := blk_frozen BK321.out 1; have hfz38_2 := blk_frozen BK321.out 2
      try go_wp2
      replace BK321 := Aside0.mk (blk_drew BK321.out); replace BK322 := Aside0.mk (blk_drew BK322.out); replace BK323 := Aside0.mk (blk_drew BK323.out); replace HB := Aside0.mk (below_drew1 HB.out)
      refine start_ (n := 9) (S := fun w' => w'.cell? ⟨gb321, 0, none⟩ = some (.string a0_0) ∧ w'.cell? ⟨gb321, 1, none⟩ = some (.string a0_1) ∧ w'.cell? ⟨gb321, 2, none⟩ = some (.int .i64 a0_2) ∧ w'.cell? ⟨gb322, 0, none⟩ = some (.string a1_0) ∧ w'.cell? ⟨gb322, 1, none⟩ = some (.string a1_1)) (ds := [8]) (ob 9 0) (by kernel_rfl) rfl rfl ⟨(blk_cell BK321.out 0).trans rfl, (blk_cell BK321.out 1).trans rfl, (blk_cell BK321.out 2).trans rfl, (blk_cell BK322.out 0).trans rfl, (blk_cell BK322.out 1).trans rfl⟩ (fun hHeld => ?_); refine with_tabW spec_AppendRecord.tab5 spec_AppendRecord.bits5 (fun HT_ HW_ => ?_)
      generalize wc.drew = w39 at BK321 BK322 BK323 HB hHeld ⊢
      refine pu 0 19 ?_; refine pu 2 21 ?_; refine tk 1 20 ?_; refine tk 3 22 ?_; refine tk 4 23 ?_
      refine one_ (i := 5) (N := some 24) (ob 9 63) rfl rfl (one_of HT_.out (by kernel_rfl)) (by decide) (fun K hK => ?_)
      refine goes_ Tryd.func41 (by kernel_rfl) rfl #[.int .i64 a0_2, .agg #[.string a1_0, .string a1_1]] (by rfl) rfl rfl ax20 ?_
      with_reducible refine (spec_l12Line.calls kj2 a0_2 a1_0 a1_1 t326 _ A33.out).mono ?_
      rintro e w40 ⟨rfl, hb⟩
      refine ⟨_, rfl, ?_⟩
      replace BK321 := ub BK321 hb; replace BK322 := ub BK322 hb; replace BK323 := ub BK323 hb; replace HB := Aside0.mk (below_step ax89 hb); (try clear hb); (try clear hb2); (try clear hk); (try clear hi)
      refine hK.out _ _ ⟨(blk_cell BK321.out 0).trans rfl, (blk_cell BK321.out 1).trans rfl, (blk_cell BK321.out 2).trans rfl, (blk_cell BK322.out 0).trans rfl, (blk_cell BK322.out 1).trans rfl⟩ (fun hHeld => ?_)
      clear hK K
      refine nm 24 ?_
      refine pu 6 25 ?_; refine pu 7 26 ?_
      refine last_ (i := 8) (N := none) (ob 9 511) rfl rfl (one_of HT_.out (by kernel_rfl)) (by decide) (fun K hK => ?_)
      have hs41 : w40.cell? ⟨gb321, 1, none⟩ = some (.string a0_1) := (blk_cell BK321.out 1).trans rfl
      have hfs41 := blk_frozen BK321.out 1; have hns41_1 := NB322_321.out; have hns41_2 := NB323_321.out; have hms41_1 := NB321_322.out; have hms41_2 := NB321_323.out
      refine skip_ (w1 := ?_) (by rfl) rfl ?_ ?_
      rotate_left
      ·go_simp
       rfl
      refine hK.out _ _ ?_
      clear hK K
      refine dn ?_
      have hcz42_0 := bc (.string a0_0) BK321 0; have hcz42_1 := bc (.string a0_1) BK321 1; have hcz42_2 := bc (.int .i64 a0_2) BK321 2; have hfz42_0 := blk_frozen BK321.out 0; have hfz42_1 := blk_frozen BK321.out 1; have hfz42_2 := blk_frozen BK321.out 2; have hnb43 := NB323_322.out; have hnc43 := NB322_323.out; have hcz44_0 := bc (.string (⟨#[]⟩ : ByteArray)) BK323 0; have hcz44_1 := bc (.string (⟨#[]⟩ : ByteArray)) BK323 1; have hcz44_2 := bc (.int .i64 0) BK323 2; have hfz44_0 := blk_frozen BK323.out 0; have hfz44_1 := blk_frozen BK323.out 1; have hfz44_2 := blk_frozen BK323.out 2
      try go_wp2
      refine bodyPost_ret (results_ct rfl _ _ gb323 27 #[.string a0_0, .string js35, .int .i64 (wrap64 (a0_2 + 1))] (0, 0) _ rfl (by (with_reducible repeat (first | refine blk_drewN ?_ _ | refine blk_drew ?_ | refine blk_alloc ?_ _)); refine blk_put (cs := #[.string a0_0, .string js35, .int .i64 0]) ?_ 2 _ rfl; (with_reducible repeat (first | refine blk_drewN ?_ _ | refine blk_drew ?_ | refine blk_alloc ?_ _)); refine blk_put (cs := #[.string a0_0, .string (⟨#[]⟩ : ByteArray), .int .i64 0]) ?_ 1 _ rfl; (with_reducible repeat (first | refine blk_drewN ?_ _ | refine blk_drew ?_ | refine blk_alloc ?_ _)); refine blk_put (cs := #[.string (⟨#[]⟩ : ByteArray), .string (⟨#[]⟩ : ByteArray), .int .i64 0]) ?_ 0 _ rfl; (with_reducible repeat (first | refine blk_drewN ?_ _ | refine blk_drew ?_ | refine blk_alloc ?_ _)); refine blk_far ?_ NB323_321.out _; (with_reducible repeat (first | refine blk_drewN ?_ _ | refine blk_drew ?_ | refine blk_alloc ?_ _)); refine blk_far ?_ NB323_321.out _; (with_reducible repeat (first | refine blk_drewN ?_ _ | refine blk_drew ?_ | refine blk_alloc ?_ _)); exact BK323.out) Tryd.underlying27 rfl (by kernel_rfl)) rfl ?_
      exact ⟨ax94, by repeat (first | (with_reducible first | exact HB.out | apply below_alloc | apply pw_below_drewN | apply below_drew1 | refine below_set ?_ GE321.out | refine below_set ?_ GE322.out | refine below_set ?_ GE323.out) | exact HB.out)⟩
     ·rw [if_neg c34] at H
      exact absurd H (by simp)

/-! ### spec_SyncLog: function 25 -/
def spec_SyncLog.f (k : Nat) (a0_0 : ByteArray) (a0_1 : ByteArray) (a0_2 : Int) : Option (ByteArray × ByteArray × Int × Bool) := (spec_l12Valid.f k a0_0 a0_1 a0_2).bind fun t329 => (if t329 = true then (if a0_0.size + a0_1.size ≤ 9223372036854775807 then (some (a0_0 ++ a0_1, (⟨#[]⟩ : ByteArray), a0_2, true)) else (none)) else (some ((⟨#[]⟩ : ByteArray), (⟨#[]⟩ : ByteArray), 0, false)))
theorem spec_SyncLog.mono : ∀ a0 a1 a2 k, LeO (spec_SyncLog.f k a0 a1 a2) (spec_SyncLog.f (k + 1) a0 a1 a2) := by
 intro a0 a1 a2 k
 unfold spec_SyncLog.f
 repeat' first | (with_reducible first | exact spec_l12Valid.mono .. | exact LeO.refl _ | exact LeO.none _ | refine LeO.ite ?_ ?_ | refine LeO.bind ?_ (fun _ => ?_)) | exact spec_l12Valid.mono .. | exact LeO.none _ | refine LeO.ite ?_ ?_ | refine LeO.bind ?_ (fun _ => ?_)
set_option maxHeartbeats 8000000 in
set_option maxRecDepth 100000 in
theorem spec_SyncLog.calls (k : Nat) (a0_0 : ByteArray) (a0_1 : ByteArray) (a0_2 : Int) (r1 : ByteArray) (r2 : ByteArray) (r3 : Int) (r4 : Bool) (w : World) (h : spec_SyncLog.f k a0_0 a0_1 a0_2 = some (r1, r2, r3, r4)) :
  Calls Tryd.prog 25 #[.agg #[.string a0_0, .string a0_1, .int .i64 a0_2]] w fun e w' => e = .returned (.tuple #[.agg #[.string r1, .string r2, .int .i64 r3], .bool r4]) ∧ Below w.heap.size w w' := by
 have hu27 := Tryd.underlying27; have HB := Aside0.mk (Below.refl w.heap.size w)
 have H : ((spec_l12Valid.f k a0_0 a0_1 a0_2).bind fun t329 => (if t329 = true then (if a0_0.size + a0_1.size ≤ 9223372036854775807 then (some (a0_0 ++ a0_1, (⟨#[]⟩ : ByteArray), a0_2, true)) else (none)) else (some ((⟨#[]⟩ : ByteArray), (⟨#[]⟩ : ByteArray), 0, false)))) = some (r1, r2, r3, r4) := h
 clear h
 obtain ⟨t329, A2, H⟩ := bs H
 by_cases c3 : t329 = true
 ·subst c3
  rw [if_pos rfl] at H
  by_cases c4 : a0_0.size + a0_1.size ≤ 9223372036854775807
  ·rw [if_pos c4] at H
   have c4b0 := eq_true c4
   have c4b1 : decide (a0_0.size + a0_1.size ≤ 9223372036854775807) = true := decide_eq_true c4
   try have c4b2 : (9223372036854775807 < a0_0.size + a0_1.size) = False := eq_false (Nat.not_lt.2 c4)
   clear c4
   obtain ⟨js5, hjs5⟩ : ∃ j_ : ByteArray, (a0_0 ++ a0_1) = j_ := ⟨_, rfl⟩
   replace H : (some (js5, (⟨#[]⟩ : ByteArray), a0_2, true)) = some (r1, r2, r3, r4) := by first | (rw [hjs5] at H; exact H) | (simp only [hjs5] at H ⊢; exact H)
   simp only [Option.some.injEq, Prod.mk.injEq] at H
   obtain ⟨rfl, rfl, rfl, rfl⟩ := H
   go_enter Tryd.func25, Tryd.ntmps25
   go_wp2_with (first | ((with_reducible refine gate_dst (N := 1) rfl ?_); refine box_event ?hg (N := 1) ?hd (cs := #[.string a0_0, .string a0_1, .int .i64 a0_2]) (t := 27) ?hr ?_; (case hd => rfl); (case hg => rfl); (case hr => exact ax9); intro gb327 hg w6 hbox hb; have BK327 := Aside0.mk (hbox); have GW327 := uG hg HB; have GE327 := uG hg HB; replace HB := uB HB hb; clear hb hbox hg) | ((with_reducible refine gate_dst (N := 2) rfl ?_); refine box_event ?hg (N := 2) ?hd (cs := #[.string (⟨#[]⟩ : ByteArray), .string (⟨#[]⟩ : ByteArray), .int .i64 0]) (t := 27) ?hr ?_; (case hd => rfl); (case hg => rfl); (case hr => exact ax9); intro gb328 hg w7 hbox hb; have BK328 := Aside0.mk (hbox); have GW328 := Aside0.mk ((ax95 : w.heap.size ≤ gb328)); have GE328 := Aside0.mk ((ax95 : w.heap.size ≤ gb328)); replace HB := Aside0.mk (below_step ax96 hb); have NB327_328 := uN hg BK327; have NB328_327 := uM hg BK327; replace BK327 := ub BK327 hb; clear hb hbox hg; have hnb8 := NB327_328.out; have hnc8 := NB328_327.out; have hcz9_0 := bc (.string a0_0) BK327 0; have hcz9_1 := bc (.string a0_1) BK327 1; have hcz9_2 := bc (.int .i64 a0_2) BK327 2; have hfz9_0 := blk_frozen BK327.out 0; have hfz9_1 := blk_frozen BK327.out 1; have hfz9_2 := blk_frozen BK327.out 2) | (refine gd 5 33 ?_; refine gc 5 Tryd.func33 #[.agg #[.string a0_0, .string a0_1, .int .i64 a0_2]] (spec_l12Valid.calls k a0_0 a0_1 a0_2 true _ A2.out) ?_; rintro e w10 ⟨rfl, hb⟩; refine ⟨_, rfl, ?_⟩; replace BK327 := ub BK327 hb; replace BK328 := ub BK328 hb; replace HB := Aside0.mk (below_step ax97 hb); (try clear hb); (try clear hb2); (try clear hk); (try clear hi); have hcz11_0 := bc (.string a0_0) BK327 0; have hcz11_1 := bc (.string a0_1) BK327 1; have hcz11_2 := bc (.int .i64 a0_2) BK327 2; have hfz11_0 := blk_frozen BK327.out 0; have hfz11_1 := blk_frozen BK327.out 1; have hfz11_2 := blk_frozen BK327.out 2; have hcz12_0 := bc (.string (⟨#[]⟩ : ByteArray)) BK328 0; have hcz12_1 := bc (.string (⟨#[]⟩ : ByteArray)) BK328 1; have hcz12_2 := bc (.int .i64 0) BK328 2; have hfz12_0 := blk_frozen BK328.out 0; have hfz12_1 := blk_frozen BK328.out 1; have hfz12_2 := blk_frozen BK328.out 2))
   refine bodyPost_ret (results_ct rfl _ _ gb328 27 #[.string js5, .string (⟨#[]⟩ : ByteArray), .int .i64 a0_2] (0, 0) _ rfl (by (with_reducible repeat (first | refine blk_drewN ?_ _ | refine blk_drew ?_ | refine blk_alloc ?_ _)); refine blk_put (cs := #[.string js5, .string (⟨#[]⟩ : ByteArray), .int .i64 0]) ?_ 2 _ rfl; (with_reducible repeat (first | refine blk_drewN ?_ _ | refine blk_drew ?_ | refine blk_alloc ?_ _)); refine blk_put (cs := #[.string js5, .string (⟨#[]⟩ : ByteArray), .int .i64 0]) ?_ 1 _ rfl; (with_reducible repeat (first | refine blk_drewN ?_ _ | refine blk_drew ?_ | refine blk_alloc ?_ _)); refine blk_put (cs := #[.string (⟨#[]⟩ : ByteArray), .string (⟨#[]⟩ : ByteArray), .int .i64 0]) ?_ 0 _ rfl; (with_reducible repeat (first | refine blk_drewN ?_ _ | refine blk_drew ?_ | refine blk_alloc ?_ _)); exact BK328.out) Tryd.underlying27 rfl (by kernel_rfl)) rfl ?_
   exact ⟨ax26, by repeat (first | (with_reducible first | exact HB.out | apply below_alloc | apply pw_below_drewN | apply below_drew1 | refine below_set ?_ GE327.out | refine below_set ?_ GE328.out) | exact HB.out)⟩
  ·exact ax3
 ·replace c3 := Bool.eq_false_iff.mpr c3
  subst c3
  rw [if_neg (show ¬ (false = true) by decide)] at H
  simp only [Option.some.injEq, Prod.mk.injEq] at H
  obtain ⟨rfl, rfl, rfl, rfl⟩ := H
  go_enter Tryd.func25, Tryd.ntmps25
  go_wp2_with (first | ((with_reducible refine gate_dst (N := 1) rfl ?_); refine box_event ?hg (N := 1) ?hd (cs := #[.string a0_0, .string a0_1, .int .i64 a0_2]) (t := 27) ?hr ?_; (case hd => rfl); (case hg => rfl); (case hr => exact ax9); intro gb327 hg w13 hbox hb; have BK327 := Aside0.mk (hbox); have GW327 := uG hg HB; have GE327 := uG hg HB; replace HB := uB HB hb; clear hb hbox hg) | ((with_reducible refine gate_dst (N := 2) rfl ?_); refine box_event ?hg (N := 2) ?hd (cs := #[.string (⟨#[]⟩ : ByteArray), .string (⟨#[]⟩ : ByteArray), .int .i64 0]) (t := 27) ?hr ?_; (case hd => rfl); (case hg => rfl); (case hr => exact ax9); intro gb328 hg w14 hbox hb; have BK328 := Aside0.mk (hbox); have GW328 := Aside0.mk ((ax95 : w.heap.size ≤ gb328)); have GE328 := Aside0.mk ((ax95 : w.heap.size ≤ gb328)); replace HB := Aside0.mk (below_step ax96 hb); have NB327_328 := uN hg BK327; have NB328_327 := uM hg BK327; replace BK327 := ub BK327 hb; clear hb hbox hg; have hnb15 := NB327_328.out; have hnc15 := NB328_327.out; have hcz16_0 := bc (.string a0_0) BK327 0; have hcz16_1 := bc (.string a0_1) BK327 1; have hcz16_2 := bc (.int .i64 a0_2) BK327 2; have hfz16_0 := blk_frozen BK327.out 0; have hfz16_1 := blk_frozen BK327.out 1; have hfz16_2 := blk_frozen BK327.out 2) | (refine gd 5 33 ?_; refine gc 5 Tryd.func33 #[.agg #[.string a0_0, .string a0_1, .int .i64 a0_2]] (spec_l12Valid.calls k a0_0 a0_1 a0_2 false _ A2.out) ?_; rintro e w17 ⟨rfl, hb⟩; refine ⟨_, rfl, ?_⟩; replace BK327 := ub BK327 hb; replace BK328 := ub BK328 hb; replace HB := Aside0.mk (below_step ax97 hb); (try clear hb); (try clear hb2); (try clear hk); (try clear hi); have hcz18_0 := bc (.string (⟨#[]⟩ : ByteArray)) BK328 0; have hcz18_1 := bc (.string (⟨#[]⟩ : ByteArray)) BK328 1; have hcz18_2 := bc (.int .i64 0) BK328 2; have hfz18_0 := blk_frozen BK328.out 0; have hfz18_1 := blk_frozen BK328.out 1; have hfz18_2 := blk_frozen BK328.out 2))
  refine bodyPost_ret (results_ct rfl _ _ gb328 27 #[.string (⟨#[]⟩ : ByteArray), .string (⟨#[]⟩ : ByteArray), .int .i64 0] (0, 0) _ rfl (by (with_reducible repeat (first | refine blk_drewN ?_ _ | refine blk_drew ?_ | refine blk_alloc ?_ _)); refine blk_put (cs := #[.string (⟨#[]⟩ : ByteArray), .string (⟨#[]⟩ : ByteArray), .int .i64 0]) ?_ 2 _ rfl; (with_reducible repeat (first | refine blk_drewN ?_ _ | refine blk_drew ?_ | refine blk_alloc ?_ _)); refine blk_put (cs := #[.string (⟨#[]⟩ : ByteArray), .string (⟨#[]⟩ : ByteArray), .int .i64 0]) ?_ 1 _ rfl; (with_reducible repeat (first | refine blk_drewN ?_ _ | refine blk_drew ?_ | refine blk_alloc ?_ _)); refine blk_put (cs := #[.string (⟨#[]⟩ : ByteArray), .string (⟨#[]⟩ : ByteArray), .int .i64 0]) ?_ 0 _ rfl; (with_reducible repeat (first | refine blk_drewN ?_ _ | refine blk_drew ?_ | refine blk_alloc ?_ _)); exact BK328.out) Tryd.underlying27 rfl (by kernel_rfl)) rfl ?_
  exact ⟨ax18, by repeat (first | (with_reducible first | exact HB.out | apply below_alloc | apply pw_below_drewN | apply below_drew1 | refine below_set ?_ GE327.out | refine below_set ?_ GE328.out) | exact HB.out)⟩

/-! ### spec_l1Cur_one: function 43 -/
def spec_l1Cur_one.f (s0_0 : List Int) (s0_1 : Int) (s0_2 : Int) (a1 : Int) : Option (Bool × Int × Int) := (spec_l1Cur_pick.f s0_0 s0_1 s0_2 a1).bind fun bt330 => (some ((bt330.1 == 0), bt330.2.1, bt330.2.2))
set_option maxHeartbeats 8000000 in
set_option maxRecDepth 100000 in
theorem spec_l1Cur_one.calls (g : Nat) (s0_0 : List Int) (s0_1 : Int) (s0_2 : Int) (a1 : Int) (r1 : Bool) (r2 : Int) (r3 : Int) (w0 w : World) (hI : IsS60 w0 w g s0_0 s0_1 s0_2) (hB : Below w0.heap.size w0 w) (h : spec_l1Cur_one.f s0_0 s0_1 s0_2 a1 = some (r1, r2, r3)) :
  Calls Tryd.prog 43 #[.pointer (some ⟨g, 0, none⟩), .int .i64 a1] w fun e w' => e = .returned (.bool r1) ∧ IsS60 w0 w' g s0_0 r2 r3 ∧ Below w0.heap.size w0 w' ∧ KeepBut w w' g none := by
 have HI0 := Aside0.mk hI; have HK := Aside0.mk (KeepBut.refl w g none); have HL := Aside0.mk hB.size; clear hI; have HW0 := Aside0.mk hB.size; have HB := Aside0.mk hB; clear hB
 have H : ((spec_l1Cur_pick.f s0_0 s0_1 s0_2 a1).bind fun bt330 => (some ((bt330.1 == 0), bt330.2.1, bt330.2.2))) = some (r1, r2, r3) := h
 clear h
 obtain ⟨⟨t330, t331, t332⟩, A3, H⟩ := bs H
 simp only [Option.some.injEq, Prod.mk.injEq] at H
 obtain ⟨rfl, rfl, rfl⟩ := H
 go_enter Tryd.func43, Tryd.ntmps43
 go_wp2_with (first | (refine gd 7 44 ?_; refine gc 7 Tryd.func44 #[.pointer (some ⟨g, 0, none⟩), .int .i64 a1] (spec_l1Cur_pick.calls g s0_0 s0_1 s0_2 a1 t330 t331 t332 w0 _ ax58 ax59 A3.out) ?_; rintro e w4 ⟨rfl, hi, hb, hk⟩; refine ⟨_, rfl, ?_⟩; replace HK := Aside0.mk (KeepBut.trans ax60 hk (.inl rfl)); replace HB := Aside0.mk (hb); replace HI0 := Aside0.mk (hi); (try clear hb); (try clear hb2); (try clear hk); (try clear hi)))
 go_ret
 exact ⟨ax18, by repeat (first | (with_reducible first | exact HI0.out | apply IsS60.alloc | apply IsS60.drewN | apply IsS60.drew | apply IsS60.set_1 | apply IsS60.set_2) | exact HI0.out), by repeat (first | (with_reducible first | exact HB.out | apply below_alloc | apply pw_below_drewN | apply below_drew1 | refine below_set ?_ (IsS60.ge HI0.out)) | exact HB.out), by repeat (first | (with_reducible first | exact HK.out | apply KeepBut.set_ | apply keep_drewN | apply keep_drew | apply keep_alloc) | exact HK.out)⟩

end Go.Proofs.YtnjjchbhbicmoaaDoor.X

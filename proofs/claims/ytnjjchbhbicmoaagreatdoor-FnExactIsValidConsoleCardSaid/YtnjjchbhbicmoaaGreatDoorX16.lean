-- By gen.py (the session's own program over the kit's printer): functions of the program, each with its contract. Lean checks it.
import Derived.Test.YtnjjchbhbicmoaaGreatDoorX0
import Derived.Test.YtnjjchbhbicmoaaGreatDoorX14
import Derived.Test.YtnjjchbhbicmoaaGreatDoorX15
namespace Go.Proofs.YtnjjchbhbicmoaaGreatDoor.X
open Go.RowKit Go.Proofs.YtnjjchbhbicmoaaGreatDoorW.PrintWords Go.Proofs.YtnjjchbhbicmoaaGreatDoorW.PrintLast Go.Proofs.YtnjjchbhbicmoaaGreatDoorW.PrintMore
attribute [local go_sem] max2_int min2_int max_two min_two max_three min_three max_four min_four   -- for this text's walks alone
set_option linter.unusedVariables false
set_option linter.unusedSimpArgs false

/-! ### impl_AppendChecksum: function 71 -/
def impl_AppendChecksum.f (k : Nat) (a0 : ByteArray) : Option (ByteArray × Bool) := if a0.size + 1 ≤ 9223372036854775807 then ((impl_checksum.f k a0).bind fun t399 => ((strconv_Itoa.f t399).bind fun t400 => (if (a0 ++ (⟨#[35]⟩ : ByteArray)).size + t400.size ≤ 9223372036854775807 then ((strings_Contains.f a0 (⟨#[35]⟩ : ByteArray)).bind fun t401 => (if t401 = true then (some ((⟨#[]⟩ : ByteArray), false)) else (if (((a0 ++ (⟨#[35]⟩ : ByteArray)) ++ t400).size : Int) > 4000 then (some ((⟨#[]⟩ : ByteArray), false)) else (some ((a0 ++ (⟨#[35]⟩ : ByteArray)) ++ t400, true))))) else (none)))) else (none)
theorem impl_AppendChecksum.mono : ∀ a0 k, LeO (impl_AppendChecksum.f k a0) (impl_AppendChecksum.f (k + 1) a0) := by
 intro a0 k
 unfold impl_AppendChecksum.f
 repeat' first | (with_reducible first | exact impl_checksum.mono .. | exact LeO.refl _ | exact LeO.none _ | refine LeO.ite ?_ ?_ | refine LeO.bind ?_ (fun _ => ?_)) | exact impl_checksum.mono .. | exact LeO.none _ | refine LeO.ite ?_ ?_ | refine LeO.bind ?_ (fun _ => ?_)
set_option maxHeartbeats 8000000 in
set_option maxRecDepth 100000 in
theorem impl_AppendChecksum.calls (k : Nat) (a0 : ByteArray) (r1 : ByteArray) (r2 : Bool) (w : World) (hG : GL w) (h : impl_AppendChecksum.f k a0 = some (r1, r2)) :
  Calls Tryz.prog 71 #[.string a0] w fun e w' => e = .returned (.tuple #[.string r1, .bool r2]) ∧ Below w.heap.size w w' := by
 have HB := Aside0.mk (Below.refl w.heap.size w); have HG := Aside0.mk hG; clear hG
 have H : (if a0.size + 1 ≤ 9223372036854775807 then ((impl_checksum.f k a0).bind fun t399 => ((strconv_Itoa.f t399).bind fun t400 => (if (a0 ++ (⟨#[35]⟩ : ByteArray)).size + t400.size ≤ 9223372036854775807 then ((strings_Contains.f a0 (⟨#[35]⟩ : ByteArray)).bind fun t401 => (if t401 = true then (some ((⟨#[]⟩ : ByteArray), false)) else (if (((a0 ++ (⟨#[35]⟩ : ByteArray)) ++ t400).size : Int) > 4000 then (some ((⟨#[]⟩ : ByteArray), false)) else (some ((a0 ++ (⟨#[35]⟩ : ByteArray)) ++ t400, true))))) else (none)))) else (none)) = some (r1, r2) := h
 clear h
 by_cases c2 : a0.size + 1 ≤ 9223372036854775807
 ·rw [if_pos c2] at H
  have c2b0 := eq_true c2
  have c2b1 : decide (a0.size + 1 ≤ 9223372036854775807) = true := decide_eq_true c2
  try have c2b2 : (9223372036854775807 < a0.size + 1) = False := eq_false (Nat.not_lt.2 c2)
  clear c2
  obtain ⟨js3, hjs3⟩ : ∃ j_ : ByteArray, (a0 ++ (⟨#[35]⟩ : ByteArray)) = j_ := ⟨_, rfl⟩
  replace H : ((impl_checksum.f k a0).bind fun t399 => ((strconv_Itoa.f t399).bind fun t400 => (if js3.size + t400.size ≤ 9223372036854775807 then ((strings_Contains.f a0 (⟨#[35]⟩ : ByteArray)).bind fun t401 => (if t401 = true then (some ((⟨#[]⟩ : ByteArray), false)) else (if ((js3 ++ t400).size : Int) > 4000 then (some ((⟨#[]⟩ : ByteArray), false)) else (some (js3 ++ t400, true))))) else (none)))) = some (r1, r2) := by first | (rw [hjs3] at H; exact H) | (simp only [hjs3] at H ⊢; exact H)
  obtain ⟨t399, A4, H⟩ := bs H
  obtain ⟨t400, A5, H⟩ := bs H
  by_cases c6 : js3.size + t400.size ≤ 9223372036854775807
  ·rw [if_pos c6] at H
   have c6b0 := eq_true c6
   have c6b1 : decide (js3.size + t400.size ≤ 9223372036854775807) = true := decide_eq_true c6
   try have c6b2 : (9223372036854775807 < js3.size + t400.size) = False := eq_false (Nat.not_lt.2 c6)
   clear c6
   obtain ⟨js7, hjs7⟩ : ∃ j_ : ByteArray, (js3 ++ t400) = j_ := ⟨_, rfl⟩
   replace H : ((strings_Contains.f a0 (⟨#[35]⟩ : ByteArray)).bind fun t401 => (if t401 = true then (some ((⟨#[]⟩ : ByteArray), false)) else (if (js7.size : Int) > 4000 then (some ((⟨#[]⟩ : ByteArray), false)) else (some (js7, true))))) = some (r1, r2) := by first | (rw [hjs7] at H; exact H) | (simp only [hjs7] at H ⊢; exact H)
   obtain ⟨t401, A8, H⟩ := bs H
   by_cases c9 : t401 = true
   ·subst c9
    rw [if_pos rfl] at H
    simp only [Option.some.injEq, Prod.mk.injEq] at H
    obtain ⟨rfl, rfl⟩ := H
    go_enter Tryz.func71, Tryz.ntmps71
    go_wp2_with (first | ((with_reducible refine gate_callee (f := 90) rfl ?_); refine goesL_ (some 8) rfl rfl Tryz.func90 (by kernel_rfl) rfl #[.string a0] rfl ax12 ?_; (with_reducible refine (impl_checksum.calls k a0 t399 _ A4.out).mono ?_); rintro e w' ⟨rfl, ⟨nd, rfl⟩⟩; refine ⟨_, rfl, ?_⟩) | ((with_reducible refine gate_callee (f := 72) rfl ?_); refine goesL_ (some 9) rfl rfl Tryz.func72 (by kernel_rfl) rfl #[.int .i64 t399] rfl ax12 ?_; (with_reducible refine (strconv_Itoa.calls t399 t400 _ ?side1 A5.out).mono ?_); (case side1 => exact ax220); rintro e w10 ⟨rfl, hb⟩; refine ⟨_, rfl, ?_⟩; have n0_ := Aside0.mk (below_step ax9 hb); clear HB; have HB := n0_; clear n0_; (try clear hb); (try clear hb2); (try clear hk); (try clear hi)) | ((with_reducible refine gate_callee (f := 91) rfl ?_); refine goesL_ (some 12) rfl rfl Tryz.func91 (by kernel_rfl) rfl #[.string a0, .string (⟨#[35]⟩ : ByteArray)] rfl ax12 ?_; (with_reducible refine (strings_Contains.calls a0 (⟨#[35]⟩ : ByteArray) true _ A8.out).mono ?_); rintro e w' ⟨rfl, ⟨nd, rfl⟩⟩; refine ⟨_, rfl, ?_⟩))
    go_ret2
    exact ⟨ax95, by repeat (first | (with_reducible first | exact HB.out | apply below_alloc | apply pw_below_drewN | apply below_drew1) | exact HB.out)⟩
   ·replace c9 := Bool.eq_false_iff.mpr c9
    subst c9
    rw [if_neg (show ¬ (false = true) by decide)] at H
    by_cases c11 : (js7.size : Int) > 4000
    ·rw [if_pos c11] at H
     have c11b0 : decide (4000 < (js7.size : Int)) = true := decide_eq_true c11
     have c11b1 : decide (4000 < js7.size) = true := decide_eq_true (by omega)
     clear c11
     simp only [Option.some.injEq, Prod.mk.injEq] at H
     obtain ⟨rfl, rfl⟩ := H
     go_enter Tryz.func71, Tryz.ntmps71
     go_wp2_with (first | ((with_reducible refine gate_callee (f := 90) rfl ?_); refine goesL_ (some 8) rfl rfl Tryz.func90 (by kernel_rfl) rfl #[.string a0] rfl ax12 ?_; (with_reducible refine (impl_checksum.calls k a0 t399 _ A4.out).mono ?_); rintro e w' ⟨rfl, ⟨nd, rfl⟩⟩; refine ⟨_, rfl, ?_⟩) | ((with_reducible refine gate_callee (f := 72) rfl ?_); refine goesL_ (some 9) rfl rfl Tryz.func72 (by kernel_rfl) rfl #[.int .i64 t399] rfl ax12 ?_; (with_reducible refine (strconv_Itoa.calls t399 t400 _ ?side1 A5.out).mono ?_); (case side1 => exact ax220); rintro e w12 ⟨rfl, hb⟩; refine ⟨_, rfl, ?_⟩; have n0_ := Aside0.mk (below_step ax9 hb); clear HB; have HB := n0_; clear n0_; (try clear hb); (try clear hb2); (try clear hk); (try clear hi)) | ((with_reducible refine gate_callee (f := 91) rfl ?_); refine goesL_ (some 12) rfl rfl Tryz.func91 (by kernel_rfl) rfl #[.string a0, .string (⟨#[35]⟩ : ByteArray)] rfl ax12 ?_; (with_reducible refine (strings_Contains.calls a0 (⟨#[35]⟩ : ByteArray) false _ A8.out).mono ?_); rintro e w' ⟨rfl, ⟨nd, rfl⟩⟩; refine ⟨_, rfl, ?_⟩))
     go_ret2
     exact ⟨ax95, by repeat (first | (with_reducible first | exact HB.out | apply below_alloc | apply pw_below_drewN | apply below_drew1) | exact HB.out)⟩
    ·rw [if_neg c11] at H
     have c11b0 : decide (4000 < (js7.size : Int)) = false := decide_eq_false c11
     have c11b1 : decide (4000 < js7.size) = false := decide_eq_false (by omega)
     clear c11
     simp only [Option.some.injEq, Prod.mk.injEq] at H
     obtain ⟨rfl, rfl⟩ := H
     go_enter Tryz.func71, Tryz.ntmps71
     go_wp2_with (first | ((with_reducible refine gate_callee (f := 90) rfl ?_); refine goesL_ (some 8) rfl rfl Tryz.func90 (by kernel_rfl) rfl #[.string a0] rfl ax12 ?_; (with_reducible refine (impl_checksum.calls k a0 t399 _ A4.out).mono ?_); rintro e w' ⟨rfl, ⟨nd, rfl⟩⟩; refine ⟨_, rfl, ?_⟩) | ((with_reducible refine gate_callee (f := 72) rfl ?_); refine goesL_ (some 9) rfl rfl Tryz.func72 (by kernel_rfl) rfl #[.int .i64 t399] rfl ax12 ?_; (with_reducible refine (strconv_Itoa.calls t399 t400 _ ?side1 A5.out).mono ?_); (case side1 => exact ax220); rintro e w13 ⟨rfl, hb⟩; refine ⟨_, rfl, ?_⟩; have n0_ := Aside0.mk (below_step ax9 hb); clear HB; have HB := n0_; clear n0_; (try clear hb); (try clear hb2); (try clear hk); (try clear hi)) | ((with_reducible refine gate_callee (f := 91) rfl ?_); refine goesL_ (some 12) rfl rfl Tryz.func91 (by kernel_rfl) rfl #[.string a0, .string (⟨#[35]⟩ : ByteArray)] rfl ax12 ?_; (with_reducible refine (strings_Contains.calls a0 (⟨#[35]⟩ : ByteArray) false _ A8.out).mono ?_); rintro e w' ⟨rfl, ⟨nd, rfl⟩⟩; refine ⟨_, rfl, ?_⟩))
     go_ret2
     exact ⟨ax95, by repeat (first | (with_reducible first | exact HB.out | apply below_alloc | apply pw_below_drewN | apply below_drew1) | exact HB.out)⟩
  ·exact ax1
 ·rw [if_neg c2] at H
  exact absurd H (by simp)

/-! ### impl_EncodeRecord: function 58 -/
def impl_EncodeRecord.j0 : Nat → Int → Bool → ByteArray → ByteArray → Option (ByteArray × Bool)
 | 0, _, _, _, _ => none
 | k + 1, x0, x15, x403000, x403001 => if x15 = true then (some ((⟨#[]⟩ : ByteArray), false)) else ((strconv_Itoa.f x0).bind fun t405 => (if t405.size + 1 ≤ 9223372036854775807 then (if (t405 ++ (⟨#[32]⟩ : ByteArray)).size + x403000.size ≤ 9223372036854775807 then (if ((t405 ++ (⟨#[32]⟩ : ByteArray)) ++ x403000).size + 1 ≤ 9223372036854775807 then (if (((t405 ++ (⟨#[32]⟩ : ByteArray)) ++ x403000) ++ (⟨#[64]⟩ : ByteArray)).size + x403001.size ≤ 9223372036854775807 then ((impl_AppendChecksum.f k ((((t405 ++ (⟨#[32]⟩ : ByteArray)) ++ x403000) ++ (⟨#[64]⟩ : ByteArray)) ++ x403001)).bind fun bt406 => (if bt406.1.size + 1 ≤ 9223372036854775807 then (some (bt406.1 ++ (⟨#[10]⟩ : ByteArray), bt406.2)) else (none))) else (none)) else (none)) else (none)) else (none)))
def impl_EncodeRecord.f (k : Nat) (a0 : Int) (a1_0 : ByteArray) (a1_1 : ByteArray) : Option (ByteArray × Bool) := (impl_in.f a0 0 39).bind fun t403 => (if t403 = true then ((impl_IsValidRecord.f k a1_0 a1_1).bind fun t404 => (impl_EncodeRecord.j0 k a0 (!t404) a1_0 a1_1)) else (impl_EncodeRecord.j0 k a0 true a1_0 a1_1))
theorem impl_EncodeRecord.mono_l : ∀ k, (∀ y0 y1 y2 y3, LeO (impl_EncodeRecord.j0 k y0 y1 y2 y3) (impl_EncodeRecord.j0 (k + 1) y0 y1 y2 y3))
 | 0 => fun _ _ _ _ r h => by simp [impl_EncodeRecord.j0] at h
 | k + 1 => by
  have ih0 := impl_EncodeRecord.mono_l k
  ·intro y0 y1 y2 y3
   unfold impl_EncodeRecord.j0
   repeat' first | (with_reducible first | exact ih0 .. | exact impl_AppendChecksum.mono .. | exact impl_IsValidRecord.mono .. | exact LeO.refl _ | exact LeO.none _ | refine LeO.ite ?_ ?_ | refine LeO.bind ?_ (fun _ => ?_)) | exact ih0 .. | exact impl_AppendChecksum.mono .. | exact impl_IsValidRecord.mono .. | exact LeO.none _ | refine LeO.ite ?_ ?_ | refine LeO.bind ?_ (fun _ => ?_)
theorem impl_EncodeRecord.mono : ∀ a0 a1 a2 k, LeO (impl_EncodeRecord.f k a0 a1 a2) (impl_EncodeRecord.f (k + 1) a0 a1 a2) := by
 intro a0 a1 a2 k
 have ih0 := impl_EncodeRecord.mono_l k
 unfold impl_EncodeRecord.f
 repeat' first | (with_reducible first | exact ih0 .. | exact impl_AppendChecksum.mono .. | exact impl_IsValidRecord.mono .. | exact LeO.refl _ | exact LeO.none _ | refine LeO.ite ?_ ?_ | refine LeO.bind ?_ (fun _ => ?_)) | exact ih0 .. | exact impl_AppendChecksum.mono .. | exact impl_IsValidRecord.mono .. | exact LeO.none _ | refine LeO.ite ?_ ?_ | refine LeO.bind ?_ (fun _ => ?_)
def impl_EncodeRecord.T3 : Bool × List (List Nat × List Nat) := (true, [([], []), ([0], [0]), ([1], [1]), ([], []), ([3], [3]), ([2, 4], [2, 4]), ([5], [5]), ([], []), ([7], [7]), ([6, 8], [6, 8]), ([9, 1], [9]), ([10], [10]), ([11], [11]), ([11], [11]), ([12, 10, 0, 1, 2, 3, 4, 5, 6, 7, 8, 9, 10, 11, 12], [12]), ([13, 14, 0, 1, 2, 3, 4, 5, 6, 7, 8, 9, 10, 11, 12, 13, 14], [13])])
def impl_EncodeRecord.B3 : List Nat := [0, 1, 3, 0, 8, 31, 63, 0, 128, 511, 1023, 2047, 4095, 4095, 8191, 32767]
theorem impl_EncodeRecord.tab3 : rtab .any (opsOf Tryz.f58 3) = impl_EncodeRecord.T3 := by kernel_rfl
theorem impl_EncodeRecord.bits3 : waitsOk impl_EncodeRecord.T3.2 impl_EncodeRecord.B3 = true := by kernel_rfl
set_option maxHeartbeats 8000000 in
set_option maxRecDepth 100000 in
theorem impl_EncodeRecord.calls (k : Nat) (a0 : Int) (a1_0 : ByteArray) (a1_1 : ByteArray) (r1 : ByteArray) (r2 : Bool) (w : World) (hG : GL w) (h : impl_EncodeRecord.f k a0 a1_0 a1_1 = some (r1, r2)) :
  Calls Tryz.prog 58 #[.int .i64 a0, .agg #[.string a1_0, .string a1_1]] w fun e w' => e = .returned (.tuple #[.string r1, .bool r2]) ∧ Below w.heap.size w w' := by
 have hu71 := Tryz.underlying71; have HB := Aside0.mk (Below.refl w.heap.size w); have HG := Aside0.mk hG; clear hG
 have H : ((impl_in.f a0 0 39).bind fun t403 => (if t403 = true then ((impl_IsValidRecord.f k a1_0 a1_1).bind fun t404 => (impl_EncodeRecord.j0 k a0 (!t404) a1_0 a1_1)) else (impl_EncodeRecord.j0 k a0 true a1_0 a1_1))) = some (r1, r2) := h
 clear h; have HC3 := Aside0.mk H; clear H
 go_enter Tryz.func58, Tryz.ntmps58
 go_upto_region 1 with (first | ((with_reducible refine gate_dst (N := 3) rfl ?_); refine box_event ?hg (N := 3) ?hd (cs := #[.string a1_0, .string a1_1]) (t := 71) ?hr ?_; (case hd => rfl); (case hg => rfl); (case hr => exact ax8); intro gb402 hg w4 hbox hb; have n0_ := Aside0.mk (below_step ax9 hb); have n1_ := Aside0.mk (hbox); have n2_ := Aside0.mk ((ax10 : w.heap.size ≤ gb402)); have n3_ := Aside0.mk ((ax10 : w.heap.size ≤ gb402)); clear HB; have HB := n0_; have BK402 := n1_; have GW402 := n2_; have GE402 := n3_; clear n0_ n1_ n2_ n3_; clear hb hbox hg))
 (try simp only [Act.put, List.setIfInBounds_toArray, List.set_cons_zero, List.set_cons_succ])
 go_cut [15] (fun v15 wc => ∃ (kq : Nat) (x15_2 : Bool), v15 = .bool x15_2 ∧ Aside0 (impl_EncodeRecord.j0 kq a0 x15_2 a1_0 a1_1 = some (r1, r2)) ∧ Aside0 (kq ≤ k) ∧ Aside0 (wc.heap[gb402]? = some (.cells #[.string a1_0, .string a1_1] 71 (0, 0))) ∧ Aside0 (Below w.heap.size w wc))
 case first =>
  have H := HC3.out; clear HC3
  obtain ⟨t403, A5, H⟩ := bs H
  by_cases c6 : t403 = true
  ·subst c6
   rw [if_pos rfl] at H
   obtain ⟨t404, A7, H⟩ := bs H
   have H' := Aside0.mk H
   clear H
   go_wp2_with (first | ((with_reducible refine gate_callee (f := 23) rfl ?_); refine goesL_ (some 9) rfl rfl Tryz.func23 (by kernel_rfl) rfl #[.int .i64 a0, .int .i64 0, .int .i64 39] rfl ax12 ?_; (with_reducible refine (impl_in.calls a0 0 39 true _ A5.out).mono ?_); rintro e w' ⟨rfl, ⟨nd, rfl⟩⟩; refine ⟨_, rfl, ?_⟩; have hcz8_0 : w4.cell? ⟨gb402, 0, none⟩ = some (.string a1_0) := (blk_cell BK402.out 0).trans rfl; have hcz8_1 : w4.cell? ⟨gb402, 1, none⟩ = some (.string a1_1) := (blk_cell BK402.out 1).trans rfl; have hfz8_0 := blk_frozen BK402.out 0; have hfz8_1 := blk_frozen BK402.out 1) | (go_at_call 70; (with_reducible refine (impl_IsValidRecord.calls k a1_0 a1_1 t404 _ A7.out).mono ?_); rintro e w9 ⟨rfl, hb⟩; have n0_ := Aside0.mk (blk_below (g := gb402) (o := .cells #[.string a1_0, .string a1_1] 71 (0, 0)) ax221 hb); have n1_ := Aside0.mk (below_step ax222 hb); clear BK402; clear HB; have BK402 := n0_; have HB := n1_; clear n0_ n1_; (try clear hb); (try clear hb2); (try clear hk); (try clear hi)))
   go_meet
   case rel => exact ⟨_, (!t404), ax15, H', ⟨by first | omega | exact Nat.le_refl _⟩, ⟨ax221⟩, ⟨ax222⟩⟩
  ·replace c6 := Bool.eq_false_iff.mpr c6
   subst c6
   rw [if_neg (show ¬ (false = true) by decide)] at H
   have H' := Aside0.mk H
   clear H
   go_wp2_with (first | ((with_reducible refine gate_callee (f := 23) rfl ?_); refine goesL_ (some 9) rfl rfl Tryz.func23 (by kernel_rfl) rfl #[.int .i64 a0, .int .i64 0, .int .i64 39] rfl ax12 ?_; (with_reducible refine (impl_in.calls a0 0 39 false _ A5.out).mono ?_); rintro e w' ⟨rfl, ⟨nd, rfl⟩⟩; refine ⟨_, rfl, ?_⟩))
   go_meet
   case rel => exact ⟨_, (true), ax15, H', ⟨by first | omega | exact Nat.le_refl _⟩, ⟨ax221⟩, ⟨ax222⟩⟩
 case rest =>
  clear HC3
  try clear c2
  try clear p2
  try clear c5
  try clear c6
  try clear hcz8_0
  try clear hcz8_1
  try clear hfz8_0
  try clear hfz8_1
  obtain ⟨kq, x15_2, rfl, HA, HJ2, BK402, HB⟩ := hcut
  cases kq with
  | zero => exact absurd HA.out (by simp [impl_EncodeRecord.j0])
  | succ kj2 =>
   have H := HA.out; clear HA
   simp only [impl_EncodeRecord.j0] at H
   by_cases c10 : x15_2 = true
   ·subst c10
    rw [if_pos rfl] at H
    simp only [Option.some.injEq, Prod.mk.injEq] at H
    obtain ⟨rfl, rfl⟩ := H
    go_wp2
    go_ret2
    exact ⟨ax11, by repeat (first | (with_reducible first | exact HB.out | apply below_alloc | apply pw_below_drewN | apply below_drew1 | refine below_set ?_ GE402.out) | exact HB.out)⟩
   ·replace c10 := Bool.eq_false_iff.mpr c10
    subst c10
    rw [if_neg (show ¬ (false = true) by decide)] at H
    obtain ⟨t405, A11, H⟩ := bs H
    by_cases c12 : t405.size + 1 ≤ 9223372036854775807
    ·rw [if_pos c12] at H
     have c12b0 := eq_true c12
     have c12b1 : decide (t405.size + 1 ≤ 9223372036854775807) = true := decide_eq_true c12
     try have c12b2 : (9223372036854775807 < t405.size + 1) = False := eq_false (Nat.not_lt.2 c12)
     clear c12
     obtain ⟨js13, hjs13⟩ : ∃ j_ : ByteArray, (t405 ++ (⟨#[32]⟩ : ByteArray)) = j_ := ⟨_, rfl⟩
     replace H : (if js13.size + a1_0.size ≤ 9223372036854775807 then (if (js13 ++ a1_0).size + 1 ≤ 9223372036854775807 then (if ((js13 ++ a1_0) ++ (⟨#[64]⟩ : ByteArray)).size + a1_1.size ≤ 9223372036854775807 then ((impl_AppendChecksum.f kj2 (((js13 ++ a1_0) ++ (⟨#[64]⟩ : ByteArray)) ++ a1_1)).bind fun bt406 => (if bt406.1.size + 1 ≤ 9223372036854775807 then (some (bt406.1 ++ (⟨#[10]⟩ : ByteArray), bt406.2)) else (none))) else (none)) else (none)) else (none)) = some (r1, r2) := by first | (rw [hjs13] at H; exact H) | (simp only [hjs13] at H ⊢; exact H)
     by_cases c14 : js13.size + a1_0.size ≤ 9223372036854775807
     ·rw [if_pos c14] at H
      have c14b0 := eq_true c14
      have c14b1 : decide (js13.size + a1_0.size ≤ 9223372036854775807) = true := decide_eq_true c14
      try have c14b2 : (9223372036854775807 < js13.size + a1_0.size) = False := eq_false (Nat.not_lt.2 c14)
      clear c14
      obtain ⟨js15, hjs15⟩ : ∃ j_ : ByteArray, (js13 ++ a1_0) = j_ := ⟨_, rfl⟩
      replace H : (if js15.size + 1 ≤ 9223372036854775807 then (if (js15 ++ (⟨#[64]⟩ : ByteArray)).size + a1_1.size ≤ 9223372036854775807 then ((impl_AppendChecksum.f kj2 ((js15 ++ (⟨#[64]⟩ : ByteArray)) ++ a1_1)).bind fun bt406 => (if bt406.1.size + 1 ≤ 9223372036854775807 then (some (bt406.1 ++ (⟨#[10]⟩ : ByteArray), bt406.2)) else (none))) else (none)) else (none)) = some (r1, r2) := by first | (rw [hjs15] at H; exact H) | (simp only [hjs15] at H ⊢; exact H)
      by_cases c16 : js15.size + 1 ≤ 9223372036854775807
      ·rw [if_pos c16] at H
       have c16b0 := eq_true c16
       have c16b1 : decide (js15.size + 1 ≤ 9223372036854775807) = true := decide_eq_true c16
       try have c16b2 : (9223372036854775807 < js15.size + 1) = False := eq_false (Nat.not_lt.2 c16)
       clear c16
       obtain ⟨js17, hjs17⟩ : ∃ j_ : ByteArray, (js15 ++ (⟨#[64]⟩ : ByteArray)) = j_ := ⟨_, rfl⟩
       replace H : (if js17.size + a1_1.size ≤ 9223372036854775807 then ((impl_AppendChecksum.f kj2 (js17 ++ a1_1)).bind fun bt406 => (if bt406.1.size + 1 ≤ 9223372036854775807 then (some (bt406.1 ++ (⟨#[10]⟩ : ByteArray), bt406.2)) else (none))) else (none)) = some (r1, r2) := by first | (rw [hjs17] at H; exact H) | (simp only [hjs17] at H ⊢; exact H)
       by_cases c18 : js17.size + a1_1.size ≤ 9223372036854775807
       ·rw [if_pos c18] at H
        have c18b0 := eq_true c18
        have c18b1 : decide (js17.size + a1_1.size ≤ 9223372036854775807) = true := decide_eq_true c18
        try have c18b2 : (9223372036854775807 < js17.size + a1_1.size) = False := eq_false (Nat.not_lt.2 c18)
        clear c18
        obtain ⟨js19, hjs19⟩ : ∃ j_ : ByteArray, (js17 ++ a1_1) = j_ := ⟨_, rfl⟩
        replace H : ((impl_AppendChecksum.f kj2 js19).bind fun bt406 => (if bt406.1.size + 1 ≤ 9223372036854775807 then (some (bt406.1 ++ (⟨#[10]⟩ : ByteArray), bt406.2)) else (none))) = some (r1, r2) := by first | (rw [hjs19] at H; exact H) | (simp only [hjs19] at H ⊢; exact H)
        obtain ⟨⟨t406, t407⟩, A20, H⟩ := bs H
        by_cases c21 : t406.size + 1 ≤ 9223372036854775807
        ·rw [if_pos c21] at H
         have c21b0 := eq_true c21
         have c21b1 : decide (t406.size + 1 ≤ 9223372036854775807) = true := decide_eq_true c21
         try have c21b2 : (9223372036854775807 < t406.size + 1) = False := eq_false (Nat.not_lt.2 c21)
         clear c21
         obtain ⟨js22, hjs22⟩ : ∃ j_ : ByteArray, (t406 ++ (⟨#[10]⟩ : ByteArray)) = j_ := ⟨_, rfl⟩
         replace H : (some (js22, t407)) = some (r1, r2) := by first | (rw [hjs22] at H; exact H) | (simp only [hjs22] at H ⊢; exact H)
         simp only [Option.some.injEq, Prod.mk.injEq] at H
         obtain ⟨rfl, rfl⟩ := H
         try go_wp2
         have n0_ := Aside0.mk (blk_drew BK402.out); have n1_ := Aside0.mk (below_drew1 HB.out); clear BK402; clear HB; have BK402 := n0_; have HB := n1_; clear n0_ n1_
         refine start_ (n := 16) (S := fun w' => w'.cell? ⟨gb402, 0, none⟩ = some (.string a1_0) ∧ w'.cell? ⟨gb402, 1, none⟩ = some (.string a1_1)) (ds := []) (ob 16 0) (by kernel_rfl) rfl rfl ⟨(blk_cell BK402.out 0).trans rfl, (blk_cell BK402.out 1).trans rfl⟩ (fun hHeld => ?_); refine with_tabW impl_EncodeRecord.tab3 impl_EncodeRecord.bits3 (fun HT_ HW_ => ?_)
         generalize wc.drew = w23 at BK402 HB hHeld ⊢
         refine pu 0 17 ?_; refine pu 3 20 ?_; refine pu 7 24 ?_; refine tk 4 21 ?_; refine tk 8 25 ?_
         refine one_ (i := 1) (N := some 18) (ob 16 411) rfl rfl (one_of HT_.out (by kernel_rfl)) (by decide) (fun K hK => ?_)
         refine goes_ Tryz.func72 (by kernel_rfl) rfl #[.int .i64 a0] (by rfl) rfl rfl ax12 ?_
         with_reducible refine (strconv_Itoa.calls a0 t405 _ ?side1 A11.out).mono ?_
         (case side1 => exact ax223)
         rintro e w24 ⟨rfl, hb⟩
         refine ⟨_, rfl, ?_⟩
         have n0_ := Aside0.mk (blk_below (g := gb402) (o := .cells #[.string a1_0, .string a1_1] 71 (0, 0)) ax221 hb)
         have n1_ := Aside0.mk (below_step ax222 hb); clear BK402; clear HB; have BK402 := n0_; have HB := n1_; clear n0_ n1_; (try clear hb); (try clear hb2); (try clear hk); (try clear hi)
         refine hK.out _ _ ⟨(blk_cell BK402.out 0).trans rfl, (blk_cell BK402.out 1).trans rfl⟩ (fun hHeld => ?_)
         clear hK K
         refine nm 18 ?_
         refine pu 2 19 ?_; refine pu 5 22 ?_; refine pu 6 23 ?_; refine pu 9 26 ?_
         refine one_ (i := 10) (N := some 27) (ob 16 2047) rfl rfl (one_of HT_.out (by kernel_rfl)) (by decide) (fun K hK => ?_)
         refine goes_ Tryz.func71 (by kernel_rfl) rfl #[.string js19] (by rfl) rfl rfl ax12 ?_
         with_reducible refine (impl_AppendChecksum.calls kj2 js19 t406 t407 _ ?side1 A20.out).mono ?_
         (case side1 => exact ax223)
         rintro e w25 ⟨rfl, hb⟩
         refine ⟨_, rfl, ?_⟩
         have n0_ := Aside0.mk (blk_below (g := gb402) (o := .cells #[.string a1_0, .string a1_1] 71 (0, 0)) ax221 hb)
         have n1_ := Aside0.mk (below_step ax222 hb); clear BK402; clear HB; have BK402 := n0_; have HB := n1_; clear n0_ n1_; (try clear hb); (try clear hb2); (try clear hk); (try clear hi)
         refine hK.out _ _ ⟨(blk_cell BK402.out 0).trans rfl, (blk_cell BK402.out 1).trans rfl⟩ (fun hHeld => ?_)
         clear hK K
         refine nm 27 ?_
         refine pu 11 16 ?_; refine pu 12 28 ?_; refine pu 13 29 ?_; refine pu 14 6 ?_; refine pu 15 7 ?_
         refine dn ?_
         try go_wp2
         go_ret2
         exact ⟨(by first | rfl | (simp [errW_none, errW_some] <;> rfl) | (simp only [← hjs13, ← hjs15, ← hjs17, ← hjs19, ← hjs22]; first | rfl | (simp [errW_none, errW_some] <;> rfl)) | (simp [*, errW_none, errW_some] <;> rfl)), by repeat (first | (with_reducible first | exact HB.out | apply below_alloc | apply pw_below_drewN | apply below_drew1 | refine below_set ?_ GE402.out) | exact HB.out)⟩
        ·rw [if_neg c21] at H
         exact absurd H (by simp)
       ·rw [if_neg c18] at H
        exact absurd H (by simp)
      ·rw [if_neg c16] at H
       exact absurd H (by simp)
     ·rw [if_neg c14] at H
      exact absurd H (by simp)
    ·rw [if_neg c12] at H
     exact absurd H (by simp)

/-! ### impl_readRecords: function 44 -/
def impl_readRecords.l0 : Nat → ByteArray → List (S71) → List Int → Int → Option ((List (S71)) × List Int)
 | 0, _, _, _, _ => none
 | k + 1, x0, x4, x5, x6 => if (x4.length : Int) < 40 then (if 0 ≤ x6 then (if x6 ≤ (x0.size : Int) then ((strings_Cut.f (x0.extract (x6 : Int).toNat x0.size) (⟨#[10]⟩ : ByteArray)).bind fun bt414 => (if bt414.2.2 = true then ((strings_Cut.f bt414.1 (⟨#[35]⟩ : ByteArray)).bind fun bt417 => ((strings_Cut.f bt417.1 (⟨#[32]⟩ : ByteArray)).bind fun bt420 => ((strings_Cut.f bt420.2.1 (⟨#[64]⟩ : ByteArray)).bind fun bt423 => ((impl_EncodeRecord.f k (x4.length : Int) bt423.1 bt423.2.1).bind fun bt427 => (if bt427.2 = true then (if bt414.1.size + 1 ≤ 9223372036854775807 then (if bt427.1.toList = (bt414.1 ++ (⟨#[10]⟩ : ByteArray)).toList then (if x4.length < 4398046511104 then (if x5.length < 17592186044416 then (impl_readRecords.l0 k x0 (x4 ++ [(⟨bt423.1, bt423.2.1⟩ : S71)]) (x5 ++ [wrap64 (x6 + (wrap64 ((bt414.1.size : Int) + 1)))]) (wrap64 (x6 + (wrap64 ((bt414.1.size : Int) + 1))))) else (none)) else (none)) else (some (x4, x5))) else (none)) else (some (x4, x5))))))) else (some (x4, x5)))) else (none)) else (none)) else (some (x4, x5))
def impl_readRecords.f (k : Nat) (a0 : ByteArray) : Option ((List (S71)) × List Int) := impl_readRecords.l0 k a0 (([] : List (S71))) (([0] : List Int)) 0
theorem impl_readRecords.mono_l : ∀ k, (∀ y0 y1 y2 y3, LeO (impl_readRecords.l0 k y0 y1 y2 y3) (impl_readRecords.l0 (k + 1) y0 y1 y2 y3))
 | 0 => fun _ _ _ _ r h => by simp [impl_readRecords.l0] at h
 | k + 1 => by
  have ih0 := impl_readRecords.mono_l k
  ·intro y0 y1 y2 y3
   unfold impl_readRecords.l0
   repeat' first | (with_reducible first | exact ih0 .. | exact impl_EncodeRecord.mono .. | exact LeO.refl _ | exact LeO.none _ | refine LeO.ite ?_ ?_ | refine LeO.bind ?_ (fun _ => ?_)) | exact ih0 .. | exact impl_EncodeRecord.mono .. | exact LeO.none _ | refine LeO.ite ?_ ?_ | refine LeO.bind ?_ (fun _ => ?_)
theorem impl_readRecords.mono : ∀ a0 k, LeO (impl_readRecords.f k a0) (impl_readRecords.f (k + 1) a0) := by
 intro a0 k
 have ih0 := impl_readRecords.mono_l k
 unfold impl_readRecords.f
 repeat' first | (with_reducible first | exact ih0 .. | exact impl_EncodeRecord.mono .. | exact LeO.refl _ | exact LeO.none _ | refine LeO.ite ?_ ?_ | refine LeO.bind ?_ (fun _ => ?_)) | exact ih0 .. | exact impl_EncodeRecord.mono .. | exact LeO.none _ | refine LeO.ite ?_ ?_ | refine LeO.bind ?_ (fun _ => ?_)
set_option maxHeartbeats 8000000 in
set_option maxRecDepth 100000 in
theorem impl_readRecords.calls (k : Nat) (a0 : ByteArray) (r1 : List (S71)) (r2 : List Int) (w : World) (hG : GL w) (h : impl_readRecords.f k a0 = some (r1, r2)) :
  Calls Tryz.prog 44 #[.string a0] w fun e w' => ∃ v0_ v1_ : Value, e = .returned (.tuple #[v0_, v1_]) ∧ Kd.R k71 71 w' w.heap.size (fun _ => True) v0_ r1 ∧ Kd.R (Kd.int .i64) 3 w' w.heap.size (fun _ => True) v1_ r2 ∧ Below w.heap.size w w' := by
 have hu71 := Tryz.underlying71; have HB := Aside0.mk (Below.refl w.heap.size w); have HG := Aside0.mk hG; clear hG
 have H : (impl_readRecords.l0 k a0 (([] : List (S71))) (([0] : List Int)) 0) = some (r1, r2) := h
 clear h
 obtain ⟨y408, hy408⟩ : ∃ y_ : List (S71), y_ = (([] : List (S71))) := ⟨_, rfl⟩
 replace H : (impl_readRecords.l0 k a0 y408 (([0] : List Int)) 0) = some (r1, r2) := by first | (rw [hy408]; with_reducible exact H) | (have H2_ := (Option.bind_some _ _).symm.trans H; rw [hy408]; with_reducible exact H2_) | (have H2_ := (Option.bind_some _ _).symm.trans H; with_reducible exact H2_) | with_reducible exact H | (rw [hy408]; exact H) | exact H
 have Ny408 := Aside0.mk hy408; clear hy408
 obtain ⟨y411, hy411⟩ : ∃ y_ : List Int, y_ = (([0] : List Int)) := ⟨_, rfl⟩
 replace H : (impl_readRecords.l0 k a0 y408 y411 0) = some (r1, r2) := by first | (rw [hy411]; with_reducible exact H) | (have H2_ := (Option.bind_some _ _).symm.trans H; rw [hy411]; with_reducible exact H2_) | (have H2_ := (Option.bind_some _ _).symm.trans H; with_reducible exact H2_) | with_reducible exact H | (rw [hy411]; exact H) | exact H
 have Ny411 := Aside0.mk hy411; clear hy411
 have H' := Aside0.mk H
 clear H
 go_enter Tryz.func44, Tryz.ntmps44
 go_wp2_with (first | ((with_reducible refine gate_dst (N := 22) rfl ?_); refine Kd.R_lit k71 _ 71 ?hg (N := 22) ?hd (xs := ([] : List (S71))) (inner := []) (ok := fun _ => True) (okp := fun _ => True) ?hr ?hp (fun _ hk => hk) trivial (Below.refl _ _) (Nat.le_refl _) (by simp) ?_; (case hd => rfl); (case hg => rfl); (case hr => exact ax8); (case hp => exact ax18); intro v409 w2 ho3 hb hg_ hnew_; clear hg_ hnew_; (first | rw [← Ny408.out] at ho3 | (simp only [Int.reduceToNat] at ho3; rw [← Ny408.out] at ho3)); have n0_ := Aside0.mk (Kd.R_lower ho3 (below_size ax9)); have n1_ := Aside0.mk (below_step ax9 hb); clear HB; have HO410 := n0_; have HB := n1_; clear n0_ n1_; clear hb ho3) | ((with_reducible refine gate_dst (N := 23) rfl ?_); refine Kd.R_lit (Kd.int .i64) _ 3 ?hg (N := 23) ?hd (xs := ([0] : List Int)) (inner := [.int .i64 0]) (ok := fun _ => True) (okp := fun _ => True) ?hr ?hp (fun _ hk => hk) trivial (Below.refl _ _) (Nat.le_refl _) (by simp) ?_; (case hd => rfl); (case hg => rfl); (case hr => exact ax8); (case hp => exact (Reps.one (show Kd.M (Kd.int .i64) _ _ _ 0 [.int .i64 0] from rfl) (Reps.none _ _))); intro v412 w4 ho5 hb hg_ hnew_; clear hg_ hnew_; (first | rw [← Ny411.out] at ho5 | (simp only [Int.reduceToNat] at ho5; rw [← Ny411.out] at ho5)); have n0_ := Aside0.mk (Kd.R_below ax224 hb); have n1_ := Aside0.mk (Kd.R_lower ho5 (below_size ax9)); have n2_ := Aside0.mk (below_step ax9 hb); clear HO410; clear HB; have HO410 := n0_; have HO413 := n1_; have HB := n2_; clear n0_ n1_ n2_; clear hb ho5))
 go_loopg [4, 5, 6] k (fun kq v4 v5 v6 w' => ∃ (x4_1 : List (S71)) (x5_1 : List Int) (x6_1 : Int), v6 = .int .i64 x6_1 ∧ Aside0 (impl_readRecords.l0 kq a0 x4_1 x5_1 x6_1 = some (r1, r2)) ∧ Aside0 (kq ≤ k) ∧ Aside0 (Kd.R k71 71 w' w.heap.size (fun _ => True) v4 x4_1) ∧ Aside0 (Kd.R (Kd.int .i64) 3 w' w.heap.size (fun _ => True) v5 x5_1) ∧ Aside0 (Below w.heap.size w w'))
 case atStart => exact ⟨(y408), (y411), (0), ax15, H', ⟨Nat.le_refl _⟩, ⟨ax224⟩, ⟨(by (with_reducible repeat (first | apply Kd.R_alloc | apply Kd.R_drewN | apply Kd.R_drew)); exact HO413.out)⟩, ⟨ax9⟩⟩
 case round =>
  clear H'
  try clear p2
  try clear c4
  obtain ⟨x4_1, x5_1, x6_1, rfl, HA, HK1, HO_4, HO_5, HB⟩ := hrel
  cases gk with
  | zero => exact absurd HA.out (by simp [impl_readRecords.l0])
  | succ k1 =>
   have H := HA.out; clear HA
   simp only [impl_readRecords.l0] at H
   by_cases c6 : (x4_1.length : Int) < 40
   ·rw [if_pos c6] at H
    have c6b0 : decide ((x4_1.length : Int) < 40) = true := decide_eq_true c6
    have c6b1 : decide (x4_1.length < 40) = true := decide_eq_true (by omega)
    clear c6
    by_cases c7 : 0 ≤ x6_1
    ·rw [if_pos c7] at H
     have c7b0 := eq_true c7
     have c7b1 : decide (0 ≤ x6_1) = true := decide_eq_true c7
     clear c7
     by_cases c8 : x6_1 ≤ (a0.size : Int)
     ·rw [if_pos c8] at H
      have c8b0 := eq_true c8
      have c8b1 : decide (x6_1 ≤ (a0.size : Int)) = true := decide_eq_true c8
      clear c8
      obtain ⟨js9, hjs9⟩ : ∃ j_ : ByteArray, (a0.extract (x6_1 : Int).toNat a0.size) = j_ := ⟨_, rfl⟩
      replace H : ((strings_Cut.f js9 (⟨#[10]⟩ : ByteArray)).bind fun bt414 => (if bt414.2.2 = true then ((strings_Cut.f bt414.1 (⟨#[35]⟩ : ByteArray)).bind fun bt417 => ((strings_Cut.f bt417.1 (⟨#[32]⟩ : ByteArray)).bind fun bt420 => ((strings_Cut.f bt420.2.1 (⟨#[64]⟩ : ByteArray)).bind fun bt423 => ((impl_EncodeRecord.f k1 (x4_1.length : Int) bt423.1 bt423.2.1).bind fun bt427 => (if bt427.2 = true then (if bt414.1.size + 1 ≤ 9223372036854775807 then (if bt427.1.toList = (bt414.1 ++ (⟨#[10]⟩ : ByteArray)).toList then (if x4_1.length < 4398046511104 then (if x5_1.length < 17592186044416 then (impl_readRecords.l0 k1 a0 (x4_1 ++ [(⟨bt423.1, bt423.2.1⟩ : S71)]) (x5_1 ++ [wrap64 (x6_1 + (wrap64 ((bt414.1.size : Int) + 1)))]) (wrap64 (x6_1 + (wrap64 ((bt414.1.size : Int) + 1))))) else (none)) else (none)) else (some (x4_1, x5_1))) else (none)) else (some (x4_1, x5_1))))))) else (some (x4_1, x5_1)))) = some (r1, r2) := by first | (rw [hjs9] at H; exact H) | (simp only [hjs9] at H ⊢; exact H)
      obtain ⟨⟨t414, t415, t416⟩, A10, H⟩ := bs H
      by_cases c11 : t416 = true
      ·subst c11
       rw [if_pos rfl] at H
       obtain ⟨⟨t417, t418, t419⟩, A12, H⟩ := bs H
       obtain ⟨⟨t420, t421, t422⟩, A13, H⟩ := bs H
       obtain ⟨⟨t423, t424, t425⟩, A14, H⟩ := bs H
       obtain ⟨⟨t427, t428⟩, A15, H⟩ := bs H
       by_cases c16 : t428 = true
       ·subst c16
        rw [if_pos rfl] at H
        by_cases c17 : t414.size + 1 ≤ 9223372036854775807
        ·rw [if_pos c17] at H
         have c17b0 := eq_true c17
         have c17b1 : decide (t414.size + 1 ≤ 9223372036854775807) = true := decide_eq_true c17
         try have c17b2 : (9223372036854775807 < t414.size + 1) = False := eq_false (Nat.not_lt.2 c17)
         clear c17
         obtain ⟨js18, hjs18⟩ : ∃ j_ : ByteArray, (t414 ++ (⟨#[10]⟩ : ByteArray)) = j_ := ⟨_, rfl⟩
         replace H : (if t427.toList = js18.toList then (if x4_1.length < 4398046511104 then (if x5_1.length < 17592186044416 then (impl_readRecords.l0 k1 a0 (x4_1 ++ [(⟨t423, t424⟩ : S71)]) (x5_1 ++ [wrap64 (x6_1 + (wrap64 ((t414.size : Int) + 1)))]) (wrap64 (x6_1 + (wrap64 ((t414.size : Int) + 1))))) else (none)) else (none)) else (some (x4_1, x5_1))) = some (r1, r2) := by first | (rw [hjs18] at H; exact H) | (simp only [hjs18] at H ⊢; exact H)
         by_cases c19 : t427.toList = js18.toList
         ·rw [if_pos c19] at H
          have c19b0 : (t427.toList == js18.toList) = true := beq_iff_eq.mpr c19
          have c19b1 : (t427.toList != js18.toList) = false := bne_eq_false_iff_eq.mpr c19
          clear c19
          by_cases c20 : x4_1.length < 4398046511104
          ·rw [if_pos c20] at H
           have LMc20 := Aside0.mk c20; clear c20
           obtain ⟨y429, hy429⟩ : ∃ y_ : List (S71), y_ = (x4_1 ++ [(⟨t423, t424⟩ : S71)]) := ⟨_, rfl⟩
           replace H : (if x5_1.length < 17592186044416 then (impl_readRecords.l0 k1 a0 y429 (x5_1 ++ [wrap64 (x6_1 + (wrap64 ((t414.size : Int) + 1)))]) (wrap64 (x6_1 + (wrap64 ((t414.size : Int) + 1))))) else (none)) = some (r1, r2) := by first | (rw [hy429]; with_reducible exact H) | (have H2_ := (Option.bind_some _ _).symm.trans H; rw [hy429]; with_reducible exact H2_) | (have H2_ := (Option.bind_some _ _).symm.trans H; with_reducible exact H2_) | with_reducible exact H | (rw [hy429]; exact H) | exact H
           have Ny429 := Aside0.mk hy429; clear hy429
           by_cases c21 : x5_1.length < 17592186044416
           ·rw [if_pos c21] at H
            have LMc21 := Aside0.mk c21; clear c21
            obtain ⟨y432, hy432⟩ : ∃ y_ : List Int, y_ = (x5_1 ++ [wrap64 (x6_1 + (wrap64 ((t414.size : Int) + 1)))]) := ⟨_, rfl⟩
            replace H : (impl_readRecords.l0 k1 a0 y429 y432 (wrap64 (x6_1 + (wrap64 ((t414.size : Int) + 1))))) = some (r1, r2) := by first | (rw [hy432]; with_reducible exact H) | (have H2_ := (Option.bind_some _ _).symm.trans H; rw [hy432]; with_reducible exact H2_) | (have H2_ := (Option.bind_some _ _).symm.trans H; with_reducible exact H2_) | with_reducible exact H | (rw [hy432]; exact H) | exact H
            have Ny432 := Aside0.mk hy432; clear hy432
            have H' := Aside0.mk H
            clear H
            obtain ⟨Ao22, co22, eo22⟩ := Kd.R_slice HO_4.out
            subst eo22
            go_wp2_with (first | ((with_reducible refine gate_callee (f := 57) rfl ?_); refine goesL_ (some 31) rfl rfl Tryz.func57 (by kernel_rfl) rfl #[.string js9, .string (⟨#[10]⟩ : ByteArray)] rfl ax12 ?_; (with_reducible refine (strings_Cut.calls js9 (⟨#[10]⟩ : ByteArray) t414 t415 true _ ?side1 A10.out).mono ?_); (case side1 => exact ax220); rintro e w' ⟨rfl, ⟨nd, rfl⟩⟩; refine ⟨_, rfl, ?_⟩; (try (rw [drewN_self wr]; generalize hq_ : World.drewN wr _ = wr; have n0_ : Aside0 (Kd.R k71 71 wr w.heap.size (fun _ => True) (.slice Ao22 x4_1.length co22) x4_1) := ⟨ax210⟩; have n1_ : Aside0 (Kd.R (Kd.int .i64) 3 wr w.heap.size (fun _ => True) u5 x5_1) := ⟨ax225⟩; have n2_ : Aside0 (Below w.heap.size w wr) := ⟨ax26⟩; clear HO_4 HO_5 HB hq_; have HO_4 := n0_; have HO_5 := n1_; have HB := n2_; clear n0_ n1_ n2_))) | ((with_reducible refine gate_callee (f := 57) rfl ?_); refine goesL_ (some 39) rfl rfl Tryz.func57 (by kernel_rfl) rfl #[.string t414, .string (⟨#[35]⟩ : ByteArray)] rfl ax12 ?_; (with_reducible refine (strings_Cut.calls t414 (⟨#[35]⟩ : ByteArray) t417 t418 t419 _ ?side1 A12.out).mono ?_); (case side1 => exact ax220); rintro e w' ⟨rfl, ⟨nd, rfl⟩⟩; refine ⟨_, rfl, ?_⟩; (try (rw [drewN_self wr]; generalize hq_ : World.drewN wr _ = wr; have n0_ : Aside0 (Kd.R k71 71 wr w.heap.size (fun _ => True) (.slice Ao22 x4_1.length co22) x4_1) := ⟨ax210⟩; have n1_ : Aside0 (Kd.R (Kd.int .i64) 3 wr w.heap.size (fun _ => True) u5 x5_1) := ⟨ax225⟩; have n2_ : Aside0 (Below w.heap.size w wr) := ⟨ax26⟩; clear HO_4 HO_5 HB hq_; have HO_4 := n0_; have HO_5 := n1_; have HB := n2_; clear n0_ n1_ n2_))) | ((with_reducible refine gate_callee (f := 57) rfl ?_); refine goesL_ (some 45) rfl rfl Tryz.func57 (by kernel_rfl) rfl #[.string t417, .string (⟨#[32]⟩ : ByteArray)] rfl ax12 ?_; (with_reducible refine (strings_Cut.calls t417 (⟨#[32]⟩ : ByteArray) t420 t421 t422 _ ?side1 A13.out).mono ?_); (case side1 => exact ax220); rintro e w' ⟨rfl, ⟨nd, rfl⟩⟩; refine ⟨_, rfl, ?_⟩; (try (rw [drewN_self wr]; generalize hq_ : World.drewN wr _ = wr; have n0_ : Aside0 (Kd.R k71 71 wr w.heap.size (fun _ => True) (.slice Ao22 x4_1.length co22) x4_1) := ⟨ax210⟩; have n1_ : Aside0 (Kd.R (Kd.int .i64) 3 wr w.heap.size (fun _ => True) u5 x5_1) := ⟨ax225⟩; have n2_ : Aside0 (Below w.heap.size w wr) := ⟨ax26⟩; clear HO_4 HO_5 HB hq_; have HO_4 := n0_; have HO_5 := n1_; have HB := n2_; clear n0_ n1_ n2_))) | ((with_reducible refine gate_callee (f := 57) rfl ?_); refine goesL_ (some 51) rfl rfl Tryz.func57 (by kernel_rfl) rfl #[.string t421, .string (⟨#[64]⟩ : ByteArray)] rfl ax12 ?_; (with_reducible refine (strings_Cut.calls t421 (⟨#[64]⟩ : ByteArray) t423 t424 t425 _ ?side1 A14.out).mono ?_); (case side1 => exact ax220); rintro e w' ⟨rfl, ⟨nd, rfl⟩⟩; refine ⟨_, rfl, ?_⟩; (try (rw [drewN_self wr]; generalize hq_ : World.drewN wr _ = wr; have n0_ : Aside0 (Kd.R k71 71 wr w.heap.size (fun _ => True) (.slice Ao22 x4_1.length co22) x4_1) := ⟨ax210⟩; have n1_ : Aside0 (Kd.R (Kd.int .i64) 3 wr w.heap.size (fun _ => True) u5 x5_1) := ⟨ax225⟩; have n2_ : Aside0 (Below w.heap.size w wr) := ⟨ax26⟩; clear HO_4 HO_5 HB hq_; have HO_4 := n0_; have HO_5 := n1_; have HB := n2_; clear n0_ n1_ n2_))) | ((with_reducible refine gate_dst (N := 19) rfl ?_); refine box_event ?hg (N := 19) ?hd (cs := #[.string (⟨#[]⟩ : ByteArray), .string (⟨#[]⟩ : ByteArray)]) (t := 71) ?hr ?_; (case hd => rfl); (case hg => rfl); (case hr => exact ax8); intro gb426 hg w23 hbox hb; have n0_ := Aside0.mk (Kd.R_below (Kd.R_elderB ax111 gb426 (Nat.le_of_eq hg.symm)) hb); have n1_ := Aside0.mk (Kd.R_below ax23 hb); have n2_ := Aside0.mk (below_step ax9 hb); have n3_ := Aside0.mk (hbox); have n4_ := Aside0.mk ((ax10 : w.heap.size ≤ gb426)); have n5_ := Aside0.mk ((ax10 : w.heap.size ≤ gb426)); clear HO_4; clear HO_5; clear HB; have HO_4 := n0_; have HO_5 := n1_; have HB := n2_; have BK426 := n3_; have GW426 := n4_; have GE426 := n5_; clear n0_ n1_ n2_ n3_ n4_ n5_; clear hb hbox hg; have hcz24_0 : w23.cell? ⟨gb426, 0, none⟩ = some (.string (⟨#[]⟩ : ByteArray)) := (blk_cell BK426.out 0).trans rfl; have hcz24_1 : w23.cell? ⟨gb426, 1, none⟩ = some (.string (⟨#[]⟩ : ByteArray)) := (blk_cell BK426.out 1).trans rfl; have hfz24_0 := blk_frozen BK426.out 0; have hfz24_1 := blk_frozen BK426.out 1) | ((with_reducible refine gate_callee (f := 58) rfl ?_); refine goesL_ (some 62) rfl rfl Tryz.func58 (by kernel_rfl) rfl #[.int .i64 (x4_1.length : Int), .agg #[.string t423, .string t424]] rfl ax12 ?_; (with_reducible refine (impl_EncodeRecord.calls k1 (x4_1.length : Int) t423 t424 t427 true _ ?side1 A15.out).mono ?_); (case side1 => exact ax226); rintro e w25 ⟨rfl, hb⟩; refine ⟨_, rfl, ?_⟩; have n0_ := Aside0.mk (Kd.R_below ax227 hb); have n1_ := Aside0.mk (Kd.R_below ax228 hb); have n2_ := Aside0.mk (blk_below (g := gb426) (o := .cells #[.string t423, .string t424] 71 (0, 0)) ax229 hb); have n3_ := Aside0.mk (below_step ax230 hb); clear HO_4; clear HO_5; clear BK426; clear HB; have HO_4 := n0_; have HO_5 := n1_; have BK426 := n2_; have HB := n3_; clear n0_ n1_ n2_ n3_; (try clear hb); (try clear hb2); (try clear hk); (try clear hi); have hcz26_0 : w25.cell? ⟨gb426, 0, none⟩ = some (.string t423) := (blk_cell BK426.out 0).trans rfl; have hcz26_1 : w25.cell? ⟨gb426, 1, none⟩ = some (.string t424) := (blk_cell BK426.out 1).trans rfl; have hfz26_0 := blk_frozen BK426.out 0; have hfz26_1 := blk_frozen BK426.out 1) | ((with_reducible refine gate_builtin (b := .append) (xs := #[.tmp 78, .tmp 80]) rfl ?_); at_builtin; refine Kd.R_append k71 (w0 := w) w.heap.size rfl (.tmp 78) (.tmp 80) 53 71 (.agg #[(.string ⟨#[]⟩), (.string ⟨#[]⟩)]) 32 rfl Tryz.underlying53 info71 rfl (by decide) (by omega) (.slice Ao22 x4_1.length co22) x4_1 (⟨t423, t424⟩ : S71) [.string t423, .string t424] (fun k_ => k_ ≠ gb426) (fun _ => False) rfl rfl ?aP (fun _ hk => hk.elim) ?aF ?aO ?aB ?aS ?aL ?_; (case aP => exact k71_mkM _ _ _ (⟨t423, t424⟩ : S71)); (case aB => exact ax231); (case aF => exact (fun k_ hk => Kd.freshB (g := gb426) (o := .cells #[.string t423, .string t424] 71 (0, 0)) ax232 k_ hk)); (case aO => exact (by (with_reducible repeat (first | apply Kd.R_alloc | apply Kd.R_drewN | apply Kd.R_drew)); exact Kd.R_mono HO_4.out (fun _ hk => hk.2))); (case aS => exact ax233); (case aL => have := LMc20.out; omega); intro v430 w27 ho hb hg hat; rw [← Ny429.out] at ho; have n0_ := Aside0.mk (Kd.R_over' ax23 (Kd.R_typed ax111) (by decide) hg); have n1_ := Aside0.mk (blk_grown (g := gb426) (o := .cells #[.string t423, .string t424] 71 (0, 0)) ax232 hg (Kd.R_away HO_4.out (fun _ hk => hk.2))); have n2_ := Aside0.mk (hb); have n3_ := Aside0.mk (ho); clear HO_5; clear BK426; clear HB; clear HO_4; have HO_5 := n0_; have BK426 := n1_; have HB := n2_; have HO431 := n3_; clear n0_ n1_ n2_ n3_; clear ho hb hg hat) | ((with_reducible refine gate_builtin (b := .append) (xs := #[.tmp 82, .tmp 84]) rfl ?_); at_builtin; refine Kd.R_append (Kd.int .i64) (w0 := w) w.heap.size rfl (.tmp 82) (.tmp 84) 79 3 (.int .i64 0) 8 rfl Tryz.underlying79 info3 rfl (by decide) (by omega) u5 x5_1 (wrap64 (x6_1 + (wrap64 ((t414.size : Int) + 1)))) [.int .i64 (wrap64 (x6_1 + (wrap64 ((t414.size : Int) + 1))))] (fun _ => True) (fun _ => False) rfl rfl ?aP (fun _ hk => hk.elim) ?aF ?aO ?aB ?aS ?aL ?_; (case aP => exact rfl); (case aB => exact ax231); (case aF => exact ax20); (case aO => exact ax21); (case aS => exact ax233); (case aL => have := LMc21.out; omega); intro v433 w28 ho hb hg hat; rw [← Ny432.out] at ho; have n0_ := Aside0.mk (blk_grown (g := gb426) (o := .cells #[.string t423, .string t424] 71 (0, 0)) ax232 hg (Kd.R_ne HO_5.out BK426.out (by decide))); have n1_ := Aside0.mk (Kd.R_over' (by (with_reducible repeat (first | apply Kd.R_alloc | apply Kd.R_drewN | apply Kd.R_drew)); exact HO431.out) (Kd.R_typed ax23) (by decide) hg); have n2_ := Aside0.mk (hb); have n3_ := Aside0.mk (ho); clear BK426; clear HO431; clear HB; clear HO_5; have BK426 := n0_; have HO431 := n1_; have HB := n2_; have HO434 := n3_; clear n0_ n1_ n2_ n3_; clear ho hb hg hat))
            go_roundg k1
            case measure => have := HK1.out; omega
            case rel => exact ⟨(y429), (y432), (wrap64 (x6_1 + (wrap64 ((t414.size : Int) + 1)))), ax15, H', ⟨by have := HK1.out; omega⟩, ⟨(by (with_reducible repeat (first | apply Kd.R_alloc | apply Kd.R_drewN | apply Kd.R_drew)); exact Kd.R_mono HO431.out (fun _ hk => trivial))⟩, ⟨(by (with_reducible repeat (first | apply Kd.R_alloc | apply Kd.R_drewN | apply Kd.R_drew)); exact HO434.out)⟩, ⟨ax230⟩⟩
           ·rw [if_neg c21] at H
            exact absurd H (by simp)
          ·rw [if_neg c20] at H
           exact absurd H (by simp)
         ·rw [if_neg c19] at H
          have c19b0 : (t427.toList == js18.toList) = false := beq_eq_false_iff_ne.mpr c19
          have c19b1 : (t427.toList != js18.toList) = true := bne_iff_ne.mpr c19
          simp only [Option.some.injEq, Prod.mk.injEq] at H
          obtain ⟨rfl, rfl⟩ := H
          obtain ⟨Ao29, co29, eo29⟩ := Kd.R_slice HO_4.out
          subst eo29
          go_wp2_with (first | ((with_reducible refine gate_callee (f := 57) rfl ?_); refine goesL_ (some 31) rfl rfl Tryz.func57 (by kernel_rfl) rfl #[.string js9, .string (⟨#[10]⟩ : ByteArray)] rfl ax12 ?_; (with_reducible refine (strings_Cut.calls js9 (⟨#[10]⟩ : ByteArray) t414 t415 true _ ?side1 A10.out).mono ?_); (case side1 => exact ax220); rintro e w' ⟨rfl, ⟨nd, rfl⟩⟩; refine ⟨_, rfl, ?_⟩; (try (rw [drewN_self wr]; generalize hq_ : World.drewN wr _ = wr; have n0_ : Aside0 (Kd.R k71 71 wr w.heap.size (fun _ => True) (.slice Ao29 x4_1.length co29) x4_1) := ⟨ax210⟩; have n1_ : Aside0 (Kd.R (Kd.int .i64) 3 wr w.heap.size (fun _ => True) u5 x5_1) := ⟨ax225⟩; have n2_ : Aside0 (Below w.heap.size w wr) := ⟨ax26⟩; clear HO_4 HO_5 HB hq_; have HO_4 := n0_; have HO_5 := n1_; have HB := n2_; clear n0_ n1_ n2_))) | ((with_reducible refine gate_callee (f := 57) rfl ?_); refine goesL_ (some 39) rfl rfl Tryz.func57 (by kernel_rfl) rfl #[.string t414, .string (⟨#[35]⟩ : ByteArray)] rfl ax12 ?_; (with_reducible refine (strings_Cut.calls t414 (⟨#[35]⟩ : ByteArray) t417 t418 t419 _ ?side1 A12.out).mono ?_); (case side1 => exact ax220); rintro e w' ⟨rfl, ⟨nd, rfl⟩⟩; refine ⟨_, rfl, ?_⟩; (try (rw [drewN_self wr]; generalize hq_ : World.drewN wr _ = wr; have n0_ : Aside0 (Kd.R k71 71 wr w.heap.size (fun _ => True) (.slice Ao29 x4_1.length co29) x4_1) := ⟨ax210⟩; have n1_ : Aside0 (Kd.R (Kd.int .i64) 3 wr w.heap.size (fun _ => True) u5 x5_1) := ⟨ax225⟩; have n2_ : Aside0 (Below w.heap.size w wr) := ⟨ax26⟩; clear HO_4 HO_5 HB hq_; have HO_4 := n0_; have HO_5 := n1_; have HB := n2_; clear n0_ n1_ n2_))) | ((with_reducible refine gate_callee (f := 57) rfl ?_); refine goesL_ (some 45) rfl rfl Tryz.func57 (by kernel_rfl) rfl #[.string t417, .string (⟨#[32]⟩ : ByteArray)] rfl ax12 ?_; (with_reducible refine (strings_Cut.calls t417 (⟨#[32]⟩ : ByteArray) t420 t421 t422 _ ?side1 A13.out).mono ?_); (case side1 => exact ax220); rintro e w' ⟨rfl, ⟨nd, rfl⟩⟩; refine ⟨_, rfl, ?_⟩; (try (rw [drewN_self wr]; generalize hq_ : World.drewN wr _ = wr; have n0_ : Aside0 (Kd.R k71 71 wr w.heap.size (fun _ => True) (.slice Ao29 x4_1.length co29) x4_1) := ⟨ax210⟩; have n1_ : Aside0 (Kd.R (Kd.int .i64) 3 wr w.heap.size (fun _ => True) u5 x5_1) := ⟨ax225⟩; have n2_ : Aside0 (Below w.heap.size w wr) := ⟨ax26⟩; clear HO_4 HO_5 HB hq_; have HO_4 := n0_; have HO_5 := n1_; have HB := n2_; clear n0_ n1_ n2_))) | ((with_reducible refine gate_callee (f := 57) rfl ?_); refine goesL_ (some 51) rfl rfl Tryz.func57 (by kernel_rfl) rfl #[.string t421, .string (⟨#[64]⟩ : ByteArray)] rfl ax12 ?_; (with_reducible refine (strings_Cut.calls t421 (⟨#[64]⟩ : ByteArray) t423 t424 t425 _ ?side1 A14.out).mono ?_); (case side1 => exact ax220); rintro e w' ⟨rfl, ⟨nd, rfl⟩⟩; refine ⟨_, rfl, ?_⟩; (try (rw [drewN_self wr]; generalize hq_ : World.drewN wr _ = wr; have n0_ : Aside0 (Kd.R k71 71 wr w.heap.size (fun _ => True) (.slice Ao29 x4_1.length co29) x4_1) := ⟨ax210⟩; have n1_ : Aside0 (Kd.R (Kd.int .i64) 3 wr w.heap.size (fun _ => True) u5 x5_1) := ⟨ax225⟩; have n2_ : Aside0 (Below w.heap.size w wr) := ⟨ax26⟩; clear HO_4 HO_5 HB hq_; have HO_4 := n0_; have HO_5 := n1_; have HB := n2_; clear n0_ n1_ n2_))) | ((with_reducible refine gate_dst (N := 19) rfl ?_); refine box_event ?hg (N := 19) ?hd (cs := #[.string (⟨#[]⟩ : ByteArray), .string (⟨#[]⟩ : ByteArray)]) (t := 71) ?hr ?_; (case hd => rfl); (case hg => rfl); (case hr => exact ax8); intro gb426 hg w30 hbox hb; have n0_ := Aside0.mk (Kd.R_below (Kd.R_elderB ax111 gb426 (Nat.le_of_eq hg.symm)) hb); have n1_ := Aside0.mk (Kd.R_below ax23 hb); have n2_ := Aside0.mk (below_step ax9 hb); have n3_ := Aside0.mk (hbox); have n4_ := Aside0.mk ((ax10 : w.heap.size ≤ gb426)); have n5_ := Aside0.mk ((ax10 : w.heap.size ≤ gb426)); clear HO_4; clear HO_5; clear HB; have HO_4 := n0_; have HO_5 := n1_; have HB := n2_; have BK426 := n3_; have GW426 := n4_; have GE426 := n5_; clear n0_ n1_ n2_ n3_ n4_ n5_; clear hb hbox hg; have hcz31_0 : w30.cell? ⟨gb426, 0, none⟩ = some (.string (⟨#[]⟩ : ByteArray)) := (blk_cell BK426.out 0).trans rfl; have hcz31_1 : w30.cell? ⟨gb426, 1, none⟩ = some (.string (⟨#[]⟩ : ByteArray)) := (blk_cell BK426.out 1).trans rfl; have hfz31_0 := blk_frozen BK426.out 0; have hfz31_1 := blk_frozen BK426.out 1) | ((with_reducible refine gate_callee (f := 58) rfl ?_); refine goesL_ (some 62) rfl rfl Tryz.func58 (by kernel_rfl) rfl #[.int .i64 (x4_1.length : Int), .agg #[.string t423, .string t424]] rfl ax12 ?_; (with_reducible refine (impl_EncodeRecord.calls k1 (x4_1.length : Int) t423 t424 t427 true _ ?side1 A15.out).mono ?_); (case side1 => exact ax226); rintro e w32 ⟨rfl, hb⟩; refine ⟨_, rfl, ?_⟩; have n0_ := Aside0.mk (Kd.R_below ax227 hb); have n1_ := Aside0.mk (Kd.R_below ax228 hb); have n2_ := Aside0.mk (blk_below (g := gb426) (o := .cells #[.string t423, .string t424] 71 (0, 0)) ax229 hb); have n3_ := Aside0.mk (below_step ax230 hb); clear HO_4; clear HO_5; clear BK426; clear HB; have HO_4 := n0_; have HO_5 := n1_; have BK426 := n2_; have HB := n3_; clear n0_ n1_ n2_ n3_; (try clear hb); (try clear hb2); (try clear hk); (try clear hi)))
          go_ret2
          exact ⟨_, _, by first | rfl | (simp [errW_none, errW_some] <;> rfl) | (simp only [← hjs9, ← hjs18]; first | rfl | (simp [errW_none, errW_some] <;> rfl)) | (simp [*, errW_none, errW_some] <;> rfl), by (with_reducible repeat (first | apply Kd.R_alloc | apply Kd.R_drewN | apply Kd.R_drew)); exact Kd.R_mono HO_4.out (fun _ hk => trivial), by (with_reducible repeat (first | apply Kd.R_alloc | apply Kd.R_drewN | apply Kd.R_drew)); exact HO_5.out, by repeat (first | (with_reducible first | exact HB.out | apply below_alloc | apply pw_below_drewN | apply below_drew1 | refine below_set ?_ GE426.out) | exact HB.out)⟩
        ·rw [if_neg c17] at H
         exact absurd H (by simp)
       ·replace c16 := Bool.eq_false_iff.mpr c16
        subst c16
        rw [if_neg (show ¬ (false = true) by decide)] at H
        simp only [Option.some.injEq, Prod.mk.injEq] at H
        obtain ⟨rfl, rfl⟩ := H
        obtain ⟨Ao33, co33, eo33⟩ := Kd.R_slice HO_4.out
        subst eo33
        go_wp2_with (first | ((with_reducible refine gate_callee (f := 57) rfl ?_); refine goesL_ (some 31) rfl rfl Tryz.func57 (by kernel_rfl) rfl #[.string js9, .string (⟨#[10]⟩ : ByteArray)] rfl ax12 ?_; (with_reducible refine (strings_Cut.calls js9 (⟨#[10]⟩ : ByteArray) t414 t415 true _ ?side1 A10.out).mono ?_); (case side1 => exact ax220); rintro e w' ⟨rfl, ⟨nd, rfl⟩⟩; refine ⟨_, rfl, ?_⟩; (try (rw [drewN_self wr]; generalize hq_ : World.drewN wr _ = wr; have n0_ : Aside0 (Kd.R k71 71 wr w.heap.size (fun _ => True) (.slice Ao33 x4_1.length co33) x4_1) := ⟨ax210⟩; have n1_ : Aside0 (Kd.R (Kd.int .i64) 3 wr w.heap.size (fun _ => True) u5 x5_1) := ⟨ax225⟩; have n2_ : Aside0 (Below w.heap.size w wr) := ⟨ax26⟩; clear HO_4 HO_5 HB hq_; have HO_4 := n0_; have HO_5 := n1_; have HB := n2_; clear n0_ n1_ n2_))) | ((with_reducible refine gate_callee (f := 57) rfl ?_); refine goesL_ (some 39) rfl rfl Tryz.func57 (by kernel_rfl) rfl #[.string t414, .string (⟨#[35]⟩ : ByteArray)] rfl ax12 ?_; (with_reducible refine (strings_Cut.calls t414 (⟨#[35]⟩ : ByteArray) t417 t418 t419 _ ?side1 A12.out).mono ?_); (case side1 => exact ax220); rintro e w' ⟨rfl, ⟨nd, rfl⟩⟩; refine ⟨_, rfl, ?_⟩; (try (rw [drewN_self wr]; generalize hq_ : World.drewN wr _ = wr; have n0_ : Aside0 (Kd.R k71 71 wr w.heap.size (fun _ => True) (.slice Ao33 x4_1.length co33) x4_1) := ⟨ax210⟩; have n1_ : Aside0 (Kd.R (Kd.int .i64) 3 wr w.heap.size (fun _ => True) u5 x5_1) := ⟨ax225⟩; have n2_ : Aside0 (Below w.heap.size w wr) := ⟨ax26⟩; clear HO_4 HO_5 HB hq_; have HO_4 := n0_; have HO_5 := n1_; have HB := n2_; clear n0_ n1_ n2_))) | ((with_reducible refine gate_callee (f := 57) rfl ?_); refine goesL_ (some 45) rfl rfl Tryz.func57 (by kernel_rfl) rfl #[.string t417, .string (⟨#[32]⟩ : ByteArray)] rfl ax12 ?_; (with_reducible refine (strings_Cut.calls t417 (⟨#[32]⟩ : ByteArray) t420 t421 t422 _ ?side1 A13.out).mono ?_); (case side1 => exact ax220); rintro e w' ⟨rfl, ⟨nd, rfl⟩⟩; refine ⟨_, rfl, ?_⟩; (try (rw [drewN_self wr]; generalize hq_ : World.drewN wr _ = wr; have n0_ : Aside0 (Kd.R k71 71 wr w.heap.size (fun _ => True) (.slice Ao33 x4_1.length co33) x4_1) := ⟨ax210⟩; have n1_ : Aside0 (Kd.R (Kd.int .i64) 3 wr w.heap.size (fun _ => True) u5 x5_1) := ⟨ax225⟩; have n2_ : Aside0 (Below w.heap.size w wr) := ⟨ax26⟩; clear HO_4 HO_5 HB hq_; have HO_4 := n0_; have HO_5 := n1_; have HB := n2_; clear n0_ n1_ n2_))) | ((with_reducible refine gate_callee (f := 57) rfl ?_); refine goesL_ (some 51) rfl rfl Tryz.func57 (by kernel_rfl) rfl #[.string t421, .string (⟨#[64]⟩ : ByteArray)] rfl ax12 ?_; (with_reducible refine (strings_Cut.calls t421 (⟨#[64]⟩ : ByteArray) t423 t424 t425 _ ?side1 A14.out).mono ?_); (case side1 => exact ax220); rintro e w' ⟨rfl, ⟨nd, rfl⟩⟩; refine ⟨_, rfl, ?_⟩; (try (rw [drewN_self wr]; generalize hq_ : World.drewN wr _ = wr; have n0_ : Aside0 (Kd.R k71 71 wr w.heap.size (fun _ => True) (.slice Ao33 x4_1.length co33) x4_1) := ⟨ax210⟩; have n1_ : Aside0 (Kd.R (Kd.int .i64) 3 wr w.heap.size (fun _ => True) u5 x5_1) := ⟨ax225⟩; have n2_ : Aside0 (Below w.heap.size w wr) := ⟨ax26⟩; clear HO_4 HO_5 HB hq_; have HO_4 := n0_; have HO_5 := n1_; have HB := n2_; clear n0_ n1_ n2_))) | ((with_reducible refine gate_dst (N := 19) rfl ?_); refine box_event ?hg (N := 19) ?hd (cs := #[.string (⟨#[]⟩ : ByteArray), .string (⟨#[]⟩ : ByteArray)]) (t := 71) ?hr ?_; (case hd => rfl); (case hg => rfl); (case hr => exact ax8); intro gb426 hg w34 hbox hb; have n0_ := Aside0.mk (Kd.R_below (Kd.R_elderB ax111 gb426 (Nat.le_of_eq hg.symm)) hb); have n1_ := Aside0.mk (Kd.R_below ax23 hb); have n2_ := Aside0.mk (below_step ax9 hb); have n3_ := Aside0.mk (hbox); have n4_ := Aside0.mk ((ax10 : w.heap.size ≤ gb426)); have n5_ := Aside0.mk ((ax10 : w.heap.size ≤ gb426)); clear HO_4; clear HO_5; clear HB; have HO_4 := n0_; have HO_5 := n1_; have HB := n2_; have BK426 := n3_; have GW426 := n4_; have GE426 := n5_; clear n0_ n1_ n2_ n3_ n4_ n5_; clear hb hbox hg; have hcz35_0 : w34.cell? ⟨gb426, 0, none⟩ = some (.string (⟨#[]⟩ : ByteArray)) := (blk_cell BK426.out 0).trans rfl; have hcz35_1 : w34.cell? ⟨gb426, 1, none⟩ = some (.string (⟨#[]⟩ : ByteArray)) := (blk_cell BK426.out 1).trans rfl; have hfz35_0 := blk_frozen BK426.out 0; have hfz35_1 := blk_frozen BK426.out 1) | ((with_reducible refine gate_callee (f := 58) rfl ?_); refine goesL_ (some 62) rfl rfl Tryz.func58 (by kernel_rfl) rfl #[.int .i64 (x4_1.length : Int), .agg #[.string t423, .string t424]] rfl ax12 ?_; (with_reducible refine (impl_EncodeRecord.calls k1 (x4_1.length : Int) t423 t424 t427 false _ ?side1 A15.out).mono ?_); (case side1 => exact ax226); rintro e w36 ⟨rfl, hb⟩; refine ⟨_, rfl, ?_⟩; have n0_ := Aside0.mk (Kd.R_below ax227 hb); have n1_ := Aside0.mk (Kd.R_below ax228 hb); have n2_ := Aside0.mk (blk_below (g := gb426) (o := .cells #[.string t423, .string t424] 71 (0, 0)) ax229 hb); have n3_ := Aside0.mk (below_step ax230 hb); clear HO_4; clear HO_5; clear BK426; clear HB; have HO_4 := n0_; have HO_5 := n1_; have BK426 := n2_; have HB := n3_; clear n0_ n1_ n2_ n3_; (try clear hb); (try clear hb2); (try clear hk); (try clear hi)))
        go_ret2
        exact ⟨_, _, by first | rfl | (simp [errW_none, errW_some] <;> rfl) | (simp only [← hjs9]; first | rfl | (simp [errW_none, errW_some] <;> rfl)) | (simp [*, errW_none, errW_some] <;> rfl), by (with_reducible repeat (first | apply Kd.R_alloc | apply Kd.R_drewN | apply Kd.R_drew)); exact Kd.R_mono HO_4.out (fun _ hk => trivial), by (with_reducible repeat (first | apply Kd.R_alloc | apply Kd.R_drewN | apply Kd.R_drew)); exact HO_5.out, by repeat (first | (with_reducible first | exact HB.out | apply below_alloc | apply pw_below_drewN | apply below_drew1 | refine below_set ?_ GE426.out) | exact HB.out)⟩
      ·replace c11 := Bool.eq_false_iff.mpr c11
       subst c11
       rw [if_neg (show ¬ (false = true) by decide)] at H
       simp only [Option.some.injEq, Prod.mk.injEq] at H
       obtain ⟨rfl, rfl⟩ := H
       obtain ⟨Ao37, co37, eo37⟩ := Kd.R_slice HO_4.out
       subst eo37
       go_wp2_with (first | ((with_reducible refine gate_callee (f := 57) rfl ?_); refine goesL_ (some 31) rfl rfl Tryz.func57 (by kernel_rfl) rfl #[.string js9, .string (⟨#[10]⟩ : ByteArray)] rfl ax12 ?_; (with_reducible refine (strings_Cut.calls js9 (⟨#[10]⟩ : ByteArray) t414 t415 false _ ?side1 A10.out).mono ?_); (case side1 => exact ax220); rintro e w' ⟨rfl, ⟨nd, rfl⟩⟩; refine ⟨_, rfl, ?_⟩))
       go_ret2
       exact ⟨_, _, by first | rfl | (simp [errW_none, errW_some] <;> rfl) | (simp only [← hjs9]; first | rfl | (simp [errW_none, errW_some] <;> rfl)) | (simp [*, errW_none, errW_some] <;> rfl), by (with_reducible repeat (first | apply Kd.R_alloc | apply Kd.R_drewN | apply Kd.R_drew)); exact HO_4.out, by (with_reducible repeat (first | apply Kd.R_alloc | apply Kd.R_drewN | apply Kd.R_drew)); exact HO_5.out, by repeat (first | (with_reducible first | exact HB.out | apply below_alloc | apply pw_below_drewN | apply below_drew1) | exact HB.out)⟩
     ·rw [if_neg c8] at H
      exact absurd H (by simp)
    ·exact ax6
   ·rw [if_neg c6] at H
    have c6b0 : decide ((x4_1.length : Int) < 40) = false := decide_eq_false c6
    have c6b1 : decide (x4_1.length < 40) = false := decide_eq_false (by omega)
    clear c6
    simp only [Option.some.injEq, Prod.mk.injEq] at H
    obtain ⟨rfl, rfl⟩ := H
    obtain ⟨Ao38, co38, eo38⟩ := Kd.R_slice HO_4.out
    subst eo38
    go_wp2
    go_ret2
    exact ⟨_, _, by first | rfl | (simp [errW_none, errW_some] <;> rfl) | (simp [*, errW_none, errW_some] <;> rfl), by (with_reducible repeat (first | apply Kd.R_alloc | apply Kd.R_drewN | apply Kd.R_drew)); exact HO_4.out, by (with_reducible repeat (first | apply Kd.R_alloc | apply Kd.R_drewN | apply Kd.R_drew)); exact HO_5.out, by repeat (first | (with_reducible first | exact HB.out | apply below_alloc | apply pw_below_drewN | apply below_drew1) | exact HB.out)⟩

end Go.Proofs.YtnjjchbhbicmoaaGreatDoor.X

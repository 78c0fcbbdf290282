-- By gen.py (the session's own program over the kit's printer): functions of the program, each with its contract. Lean checks it.
import Derived.Test.YtnjjchbhbicmoaaDoorX0
import Derived.Test.YtnjjchbhbicmoaaDoorX6
namespace Go.Proofs.YtnjjchbhbicmoaaDoor.X
open Go.RowKit Go.Proofs.YtnjjchbhbicmoaaDoorW.PrintWords Go.Proofs.YtnjjchbhbicmoaaDoorW.PrintLast Go.Proofs.YtnjjchbhbicmoaaDoorW.PrintMore
attribute [local go_sem] max2_int min2_int max_two min_two max_three min_three max_four min_four   -- for this text's walks alone
set_option linter.unusedVariables false
set_option linter.unusedSimpArgs false

/-! ### strings_Contains: function 53: a contract of our own -/
def strings_Contains.f (a0 a1 : ByteArray) : Option Bool := if a1.size = 1 then some (decide (0 ≤ Lib.indexByte a0.data.toList (a1.data.toList.headD 0))) else none
theorem strings_Contains.calls (a0 a1 : ByteArray) (r : Bool) (w : World) (h : strings_Contains.f a0 a1 = some r) :
  Calls Tryd.prog 53 #[.string a0, .string a1] w fun e w' => e = .returned (.bool r) ∧ Drawn0 w w' := by
 unfold strings_Contains.f at h
 by_cases hc : a1.size = 1
 ·rw [if_pos hc] at h
  obtain rfl := Option.some.inj h
  obtain ⟨c, rfl⟩ : ∃ c, a1 = ⟨#[c]⟩ := by
   obtain ⟨⟨l⟩⟩ := a1
   match l, hc with
   | [c], _ => exact ⟨c, rfl⟩
  refine (Tryd.strings_Contains_one a0 c w).mono ?_
  rintro e w' ⟨rfl, rfl⟩
  exact ⟨rfl, Drawn0.refl _⟩
 ·rw [if_neg hc] at h; cases h

/-! ### impl_AppendChecksum: function 38 -/
def impl_AppendChecksum.f (k : Nat) (a0 : ByteArray) : Option (ByteArray × Bool) := if a0.size + 1 ≤ 9223372036854775807 then ((impl_checksum.f k a0).bind fun t170 => ((strconv_Itoa.f t170).bind fun t171 => (if (a0 ++ (⟨#[35]⟩ : ByteArray)).size + t171.size ≤ 9223372036854775807 then ((strings_Contains.f a0 (⟨#[35]⟩ : ByteArray)).bind fun t172 => (if t172 = true then (some ((⟨#[]⟩ : ByteArray), false)) else (if (((a0 ++ (⟨#[35]⟩ : ByteArray)) ++ t171).size : Int) > 4000 then (some ((⟨#[]⟩ : ByteArray), false)) else (some ((a0 ++ (⟨#[35]⟩ : ByteArray)) ++ t171, true))))) else (none)))) else (none)
theorem impl_AppendChecksum.mono : ∀ a0 k, LeO (impl_AppendChecksum.f k a0) (impl_AppendChecksum.f (k + 1) a0) := by
 intro a0 k
 unfold impl_AppendChecksum.f
 repeat' first | (with_reducible first | exact impl_checksum.mono .. | exact LeO.refl _ | exact LeO.none _ | refine LeO.ite ?_ ?_ | refine LeO.bind ?_ (fun _ => ?_)) | exact impl_checksum.mono .. | exact LeO.none _ | refine LeO.ite ?_ ?_ | refine LeO.bind ?_ (fun _ => ?_)
set_option maxHeartbeats 8000000 in
set_option maxRecDepth 100000 in
theorem impl_AppendChecksum.calls (k : Nat) (a0 : ByteArray) (r1 : ByteArray) (r2 : Bool) (w : World) (hG : GL w) (h : impl_AppendChecksum.f k a0 = some (r1, r2)) :
  Calls Tryd.prog 38 #[.string a0] w fun e w' => e = .returned (.tuple #[.string r1, .bool r2]) ∧ Below w.heap.size w w' := by
 have HB := Aside0.mk (Below.refl w.heap.size w); have HG := Aside0.mk hG; clear hG
 have H : (if a0.size + 1 ≤ 9223372036854775807 then ((impl_checksum.f k a0).bind fun t170 => ((strconv_Itoa.f t170).bind fun t171 => (if (a0 ++ (⟨#[35]⟩ : ByteArray)).size + t171.size ≤ 9223372036854775807 then ((strings_Contains.f a0 (⟨#[35]⟩ : ByteArray)).bind fun t172 => (if t172 = true then (some ((⟨#[]⟩ : ByteArray), false)) else (if (((a0 ++ (⟨#[35]⟩ : ByteArray)) ++ t171).size : Int) > 4000 then (some ((⟨#[]⟩ : ByteArray), false)) else (some ((a0 ++ (⟨#[35]⟩ : ByteArray)) ++ t171, true))))) else (none)))) else (none)) = some (r1, r2) := h
 clear h
 by_cases c2 : a0.size + 1 ≤ 9223372036854775807
 ·rw [if_pos c2] at H
  have c2b0 := eq_true c2
  have c2b1 : decide (a0.size + 1 ≤ 9223372036854775807) = true := decide_eq_true c2
  try have c2b2 : (9223372036854775807 < a0.size + 1) = False := eq_false (Nat.not_lt.2 c2)
  clear c2
  obtain ⟨js3, hjs3⟩ : ∃ j_ : ByteArray, (a0 ++ (⟨#[35]⟩ : ByteArray)) = j_ := ⟨_, rfl⟩
  replace H : ((impl_checksum.f k a0).bind fun t170 => ((strconv_Itoa.f t170).bind fun t171 => (if js3.size + t171.size ≤ 9223372036854775807 then ((strings_Contains.f a0 (⟨#[35]⟩ : ByteArray)).bind fun t172 => (if t172 = true then (some ((⟨#[]⟩ : ByteArray), false)) else (if ((js3 ++ t171).size : Int) > 4000 then (some ((⟨#[]⟩ : ByteArray), false)) else (some (js3 ++ t171, true))))) else (none)))) = some (r1, r2) := by first | (rw [hjs3] at H; exact H) | (simp only [hjs3] at H ⊢; exact H)
  obtain ⟨t170, A4, H⟩ := bs H
  obtain ⟨t171, A5, H⟩ := bs H
  by_cases c6 : js3.size + t171.size ≤ 9223372036854775807
  ·rw [if_pos c6] at H
   have c6b0 := eq_true c6
   have c6b1 : decide (js3.size + t171.size ≤ 9223372036854775807) = true := decide_eq_true c6
   try have c6b2 : (9223372036854775807 < js3.size + t171.size) = False := eq_false (Nat.not_lt.2 c6)
   clear c6
   obtain ⟨js7, hjs7⟩ : ∃ j_ : ByteArray, (js3 ++ t171) = j_ := ⟨_, rfl⟩
   replace H : ((strings_Contains.f a0 (⟨#[35]⟩ : ByteArray)).bind fun t172 => (if t172 = true then (some ((⟨#[]⟩ : ByteArray), false)) else (if (js7.size : Int) > 4000 then (some ((⟨#[]⟩ : ByteArray), false)) else (some (js7, true))))) = some (r1, r2) := by first | (rw [hjs7] at H; exact H) | (simp only [hjs7] at H ⊢; exact H)
   obtain ⟨t172, A8, H⟩ := bs H
   by_cases c9 : t172 = true
   ·subst c9
    rw [if_pos rfl] at H
    simp only [Option.some.injEq, Prod.mk.injEq] at H
    obtain ⟨rfl, rfl⟩ := H
    go_enter Tryd.func38, Tryd.ntmps38
    go_wp2_with (first | (refine gd 8 52 ?_; refine gc 8 Tryd.func52 #[.string a0] (impl_checksum.calls k a0 t170 _ A4.out) ?_; rintro e w' ⟨rfl, ⟨nd, rfl⟩⟩; refine ⟨_, rfl, ?_⟩) | (refine gd 9 39 ?_; refine gc 9 Tryd.func39 #[.int .i64 t170] (strconv_Itoa.calls t170 t171 _ (GL.below HG.out ax11) A5.out) ?_; rintro e w10 ⟨rfl, hb⟩; refine ⟨_, rfl, ?_⟩; replace HB := uB HB hb; (try clear hb); (try clear hb2); (try clear hk); (try clear hi)) | (refine gd 12 53 ?_; refine gc 12 Tryd.func53 #[.string a0, .string (⟨#[35]⟩ : ByteArray)] (strings_Contains.calls a0 (⟨#[35]⟩ : ByteArray) true _ A8.out) ?_; rintro e w' ⟨rfl, ⟨nd, rfl⟩⟩; refine ⟨_, rfl, ?_⟩))
    go_ret2
    exact ⟨ax21, by repeat (first | (with_reducible first | exact HB.out | apply below_alloc | apply pw_below_drewN | apply below_drew1) | exact HB.out)⟩
   ·replace c9 := Bool.eq_false_iff.mpr c9
    subst c9
    rw [if_neg (show ¬ (false = true) by decide)] at H
    by_cases c11 : (js7.size : Int) > 4000
    ·rw [if_pos c11] at H
     have c11b0 : decide (4000 < (js7.size : Int)) = true := decide_eq_true c11
     have c11b1 : decide (4000 < js7.size) = true := decide_eq_true (by omega)
     clear c11
     simp only [Option.some.injEq, Prod.mk.injEq] at H
     obtain ⟨rfl, rfl⟩ := H
     go_enter Tryd.func38, Tryd.ntmps38
     go_wp2_with (first | (refine gd 8 52 ?_; refine gc 8 Tryd.func52 #[.string a0] (impl_checksum.calls k a0 t170 _ A4.out) ?_; rintro e w' ⟨rfl, ⟨nd, rfl⟩⟩; refine ⟨_, rfl, ?_⟩) | (refine gd 9 39 ?_; refine gc 9 Tryd.func39 #[.int .i64 t170] (strconv_Itoa.calls t170 t171 _ (GL.below HG.out ax11) A5.out) ?_; rintro e w12 ⟨rfl, hb⟩; refine ⟨_, rfl, ?_⟩; replace HB := uB HB hb; (try clear hb); (try clear hb2); (try clear hk); (try clear hi)) | (refine gd 12 53 ?_; refine gc 12 Tryd.func53 #[.string a0, .string (⟨#[35]⟩ : ByteArray)] (strings_Contains.calls a0 (⟨#[35]⟩ : ByteArray) false _ A8.out) ?_; rintro e w' ⟨rfl, ⟨nd, rfl⟩⟩; refine ⟨_, rfl, ?_⟩))
     go_ret2
     exact ⟨ax21, by repeat (first | (with_reducible first | exact HB.out | apply below_alloc | apply pw_below_drewN | apply below_drew1) | exact HB.out)⟩
    ·rw [if_neg c11] at H
     have c11b0 : decide (4000 < (js7.size : Int)) = false := decide_eq_false c11
     have c11b1 : decide (4000 < js7.size) = false := decide_eq_false (by omega)
     clear c11
     simp only [Option.some.injEq, Prod.mk.injEq] at H
     obtain ⟨rfl, rfl⟩ := H
     go_enter Tryd.func38, Tryd.ntmps38
     go_wp2_with (first | (refine gd 8 52 ?_; refine gc 8 Tryd.func52 #[.string a0] (impl_checksum.calls k a0 t170 _ A4.out) ?_; rintro e w' ⟨rfl, ⟨nd, rfl⟩⟩; refine ⟨_, rfl, ?_⟩) | (refine gd 9 39 ?_; refine gc 9 Tryd.func39 #[.int .i64 t170] (strconv_Itoa.calls t170 t171 _ (GL.below HG.out ax11) A5.out) ?_; rintro e w13 ⟨rfl, hb⟩; refine ⟨_, rfl, ?_⟩; replace HB := uB HB hb; (try clear hb); (try clear hb2); (try clear hk); (try clear hi)) | (refine gd 12 53 ?_; refine gc 12 Tryd.func53 #[.string a0, .string (⟨#[35]⟩ : ByteArray)] (strings_Contains.calls a0 (⟨#[35]⟩ : ByteArray) false _ A8.out) ?_; rintro e w' ⟨rfl, ⟨nd, rfl⟩⟩; refine ⟨_, rfl, ?_⟩))
     go_ret2
     exact ⟨ax21, by repeat (first | (with_reducible first | exact HB.out | apply below_alloc | apply pw_below_drewN | apply below_drew1) | exact HB.out)⟩
  ·exact ax2
 ·rw [if_neg c2] at H
  exact absurd H (by simp)

/-! ### impl_EncodeRecord: function 14 -/
def impl_EncodeRecord.j0 : Nat → Int → Bool → ByteArray → ByteArray → Option (ByteArray × Bool)
 | 0, _, _, _, _ => none
 | k + 1, x0, x15, x174000, x174001 => if x15 = true then (some ((⟨#[]⟩ : ByteArray), false)) else ((strconv_Itoa.f x0).bind fun t176 => (if t176.size + 1 ≤ 9223372036854775807 then (if (t176 ++ (⟨#[32]⟩ : ByteArray)).size + x174000.size ≤ 9223372036854775807 then (if ((t176 ++ (⟨#[32]⟩ : ByteArray)) ++ x174000).size + 1 ≤ 9223372036854775807 then (if (((t176 ++ (⟨#[32]⟩ : ByteArray)) ++ x174000) ++ (⟨#[64]⟩ : ByteArray)).size + x174001.size ≤ 9223372036854775807 then ((impl_AppendChecksum.f k ((((t176 ++ (⟨#[32]⟩ : ByteArray)) ++ x174000) ++ (⟨#[64]⟩ : ByteArray)) ++ x174001)).bind fun bt177 => (if bt177.1.size + 1 ≤ 9223372036854775807 then (some (bt177.1 ++ (⟨#[10]⟩ : ByteArray), bt177.2)) else (none))) else (none)) else (none)) else (none)) else (none)))
def impl_EncodeRecord.f (k : Nat) (a0 : Int) (a1_0 : ByteArray) (a1_1 : ByteArray) : Option (ByteArray × Bool) := (impl_in.f a0 0 39).bind fun t174 => (if t174 = true then ((impl_IsValidRecord.f k a1_0 a1_1).bind fun t175 => (impl_EncodeRecord.j0 k a0 (!t175) a1_0 a1_1)) else (impl_EncodeRecord.j0 k a0 true a1_0 a1_1))
theorem impl_EncodeRecord.mono_l : ∀ k, (∀ y0 y1 y2 y3, LeO (impl_EncodeRecord.j0 k y0 y1 y2 y3) (impl_EncodeRecord.j0 (k + 1) y0 y1 y2 y3))
 | 0 => fun _ _ _ _ r h => by simp [impl_EncodeRecord.j0] at h
 | k + 1 => by
  have ih0 := impl_EncodeRecord.mono_l k
  ·intro y0 y1 y2 y3
   unfold impl_EncodeRecord.j0
   repeat' first | (with_reducible first | exact ih0 .. | exact impl_AppendChecksum.mono .. | exact impl_IsValidRecord.mono .. | exact LeO.refl _ | exact LeO.none _ | refine LeO.ite ?_ ?_ | refine LeO.bind ?_ (fun _ => ?_)) | exact ih0 .. | exact impl_AppendChecksum.mono .. | exact impl_IsValidRecord.mono .. | exact LeO.none _ | refine LeO.ite ?_ ?_ | refine LeO.bind ?_ (fun _ => ?_)
theorem impl_EncodeRecord.mono : ∀ a0 a1 a2 k, LeO (impl_EncodeRecord.f k a0 a1 a2) (impl_EncodeRecord.f (k + 1) a0 a1 a2) := by
 intro a0 a1 a2 k
 have ih0 := impl_EncodeRecord.mono_l k
 unfold impl_EncodeRecord.f
 repeat' first | (with_reducible first | exact ih0 .. | exact impl_AppendChecksum.mono .. | exact impl_IsValidRecord.mono .. | exact LeO.refl _ | exact LeO.none _ | refine LeO.ite ?_ ?_ | refine LeO.bind ?_ (fun _ => ?_)) | exact ih0 .. | exact impl_AppendChecksum.mono .. | exact impl_IsValidRecord.mono .. | exact LeO.none _ | refine LeO.ite ?_ ?_ | refine LeO.bind ?_ (fun _ => ?_)
def impl_EncodeRecord.T3 : Bool × List (List Nat × List Nat) := (true, [([], []), ([0], [0]), ([1], [1]), ([], []), ([3], [3]), ([2, 4], [2, 4]), ([5], [5]), ([], []), ([7], [7]), ([6, 8], [6, 8]), ([9, 1], [9]), ([10], [10]), ([11], [11]), ([11], [11]), ([12, 10, 0, 1, 2, 3, 4, 5, 6, 7, 8, 9, 10, 11, 12], [12]), ([13, 14, 0, 1, 2, 3, 4, 5, 6, 7, 8, 9, 10, 11, 12, 13, 14], [13])])
def impl_EncodeRecord.B3 : List Nat := [0, 1, 3, 0, 8, 31, 63, 0, 128, 511, 1023, 2047, 4095, 4095, 8191, 32767]
theorem impl_EncodeRecord.tab3 : rtab .any (opsOf Tryd.f14 3) = impl_EncodeRecord.T3 := by kernel_rfl
theorem impl_EncodeRecord.bits3 : waitsOk impl_EncodeRecord.T3.2 impl_EncodeRecord.B3 = true := by kernel_rfl
set_option maxHeartbeats 8000000 in
set_option maxRecDepth 100000 in
theorem impl_EncodeRecord.calls (k : Nat) (a0 : Int) (a1_0 : ByteArray) (a1_1 : ByteArray) (r1 : ByteArray) (r2 : Bool) (w : World) (hG : GL w) (h : impl_EncodeRecord.f k a0 a1_0 a1_1 = some (r1, r2)) :
  Calls Tryd.prog 14 #[.int .i64 a0, .agg #[.string a1_0, .string a1_1]] w fun e w' => e = .returned (.tuple #[.string r1, .bool r2]) ∧ Below w.heap.size w w' := by
 have hu33 := Tryd.underlying33; have HB := Aside0.mk (Below.refl w.heap.size w); have HG := Aside0.mk hG; clear hG
 have H : ((impl_in.f a0 0 39).bind fun t174 => (if t174 = true then ((impl_IsValidRecord.f k a1_0 a1_1).bind fun t175 => (impl_EncodeRecord.j0 k a0 (!t175) a1_0 a1_1)) else (impl_EncodeRecord.j0 k a0 true a1_0 a1_1))) = some (r1, r2) := h
 clear h; have HC3 := Aside0.mk H; clear H
 go_enter Tryd.func14, Tryd.ntmps14
 go_upto_region 1 with (first | ((with_reducible refine gate_dst (N := 3) rfl ?_); refine box_event ?hg (N := 3) ?hd (cs := #[.string a1_0, .string a1_1]) (t := 33) ?hr ?_; (case hd => rfl); (case hg => rfl); (case hr => exact ax9); intro gb173 hg w4 hbox hb; have BK173 := Aside0.mk (hbox); have GW173 := uG hg HB; have GE173 := uG hg HB; replace HB := uB HB hb; clear hb hbox hg))
 (try simp only [Act.put, List.setIfInBounds_toArray, List.set_cons_zero, List.set_cons_succ])
 go_cut [15] (fun v15 wc => ∃ (kq : Nat) (x15_2 : Bool), v15 = .bool x15_2 ∧ Aside0 (impl_EncodeRecord.j0 kq a0 x15_2 a1_0 a1_1 = some (r1, r2)) ∧ Aside0 (kq ≤ k) ∧ Aside0 (wc.heap[gb173]? = some (.cells #[.string a1_0, .string a1_1] 33 (0, 0))) ∧ Aside0 (Below w.heap.size w wc))
 case first =>
  have H := HC3.out; clear HC3
  obtain ⟨t174, A5, H⟩ := bs H
  by_cases c6 : t174 = true
  ·subst c6
   rw [if_pos rfl] at H
   obtain ⟨t175, A7, H⟩ := bs H
   have H' := Aside0.mk H
   clear H
   go_wp2_with (first | (refine gd 9 35 ?_; refine gc 9 Tryd.func35 #[.int .i64 a0, .int .i64 0, .int .i64 39] (impl_in.calls a0 0 39 true _ A5.out) ?_; rintro e w' ⟨rfl, ⟨nd, rfl⟩⟩; refine ⟨_, rfl, ?_⟩; have hcz8_0 := bc (.string a1_0) BK173 0; have hcz8_1 := bc (.string a1_1) BK173 1; have hfz8_0 := blk_frozen BK173.out 0; have hfz8_1 := blk_frozen BK173.out 1) | (go_at_call 20; (with_reducible refine (impl_IsValidRecord.calls k a1_0 a1_1 t175 _ A7.out).mono ?_); rintro e w9 ⟨rfl, hb⟩; replace BK173 := ub BK173 hb; replace HB := Aside0.mk (below_step ax39 hb); (try clear hb); (try clear hb2); (try clear hk); (try clear hi)))
   go_meet
   case rel => exact ⟨_, (!t175), ax10, H', ⟨by first | omega | exact Nat.le_refl _⟩, ⟨ax40⟩, ⟨ax39⟩⟩
  ·replace c6 := Bool.eq_false_iff.mpr c6
   subst c6
   rw [if_neg (show ¬ (false = true) by decide)] at H
   have H' := Aside0.mk H
   clear H
   go_wp2_with (first | (refine gd 9 35 ?_; refine gc 9 Tryd.func35 #[.int .i64 a0, .int .i64 0, .int .i64 39] (impl_in.calls a0 0 39 false _ A5.out) ?_; rintro e w' ⟨rfl, ⟨nd, rfl⟩⟩; refine ⟨_, rfl, ?_⟩))
   go_meet
   case rel => exact ⟨_, (true), ax10, H', ⟨by first | omega | exact Nat.le_refl _⟩, ⟨ax40⟩, ⟨ax39⟩⟩
 case rest =>
  clear HC3
  try clear c1
  try clear p2
  try clear c3
  try clear c6
  try clear hcz8_0
  try clear hcz8_1
  try clear hfz8_0
  try clear hfz8_1
  obtain ⟨kq, x15_2, rfl, HA, HJ2, BK173, HB⟩ := hcut
  cases kq with
  | zero => exact absurd HA.out (by simp [impl_EncodeRecord.j0])
  | succ kj2 =>
   have H := HA.out; clear HA
   simp only [impl_EncodeRecord.j0] at H
   by_cases c10 : x15_2 = true
   ·subst c10
    rw [if_pos rfl] at H
    simp only [Option.some.injEq, Prod.mk.injEq] at H
    obtain ⟨rfl, rfl⟩ := H
    go_wp2
    go_ret2
    exact ⟨ax18, by repeat (first | (with_reducible first | exact HB.out | apply below_alloc | apply pw_below_drewN | apply below_drew1 | refine below_set ?_ GE173.out) | exact HB.out)⟩
   ·replace c10 := Bool.eq_false_iff.mpr c10
    subst c10
    rw [if_neg (show ¬ (false = true) by decide)] at H
    obtain ⟨t176, A11, H⟩ := bs H
    by_cases c12 : t176.size + 1 ≤ 9223372036854775807
    ·rw [if_pos c12] at H
     have c12b0 := eq_true c12
     have c12b1 : decide (t176.size + 1 ≤ 9223372036854775807) = true := decide_eq_true c12
     try have c12b2 : (9223372036854775807 < t176.size + 1) = False := eq_false (Nat.not_lt.2 c12)
     clear c12
     obtain ⟨js13, hjs13⟩ : ∃ j_ : ByteArray, (t176 ++ (⟨#[32]⟩ : ByteArray)) = j_ := ⟨_, rfl⟩
     replace H : (if js13.size + a1_0.size ≤ 9223372036854775807 then (if (js13 ++ a1_0).size + 1 ≤ 9223372036854775807 then (if ((js13 ++ a1_0) ++ (⟨#[64]⟩ : ByteArray)).size + a1_1.size ≤ 9223372036854775807 then ((impl_AppendChecksum.f kj2 (((js13 ++ a1_0) ++ (⟨#[64]⟩ : ByteArray)) ++ a1_1)).bind fun bt177 => (if bt177.1.size + 1 ≤ 9223372036854775807 then (some (bt177.1 ++ (⟨#[10]⟩ : ByteArray), bt177.2)) else (none))) else (none)) else (none)) else (none)) = some (r1, r2) := by first | (rw [hjs13] at H; exact H) | (simp only [hjs13] at H ⊢; exact H)
     by_cases c14 : js13.size + a1_0.size ≤ 9223372036854775807
     ·rw [if_pos c14] at H
      have c14b0 := eq_true c14
      have c14b1 : decide (js13.size + a1_0.size ≤ 9223372036854775807) = true := decide_eq_true c14
      try have c14b2 : (9223372036854775807 < js13.size + a1_0.size) = False := eq_false (Nat.not_lt.2 c14)
      clear c14
      obtain ⟨js15, hjs15⟩ : ∃ j_ : ByteArray, (js13 ++ a1_0) = j_ := ⟨_, rfl⟩
      replace H : (if js15.size + 1 ≤ 9223372036854775807 then (if (js15 ++ (⟨#[64]⟩ : ByteArray)).size + a1_1.size ≤ 9223372036854775807 then ((impl_AppendChecksum.f kj2 ((js15 ++ (⟨#[64]⟩ : ByteArray)) ++ a1_1)).bind fun bt177 => (if bt177.1.size + 1 ≤ 9223372036854775807 then (some (bt177.1 ++ (⟨#[10]⟩ : ByteArray), bt177.2)) else (none))) else (none)) else (none)) = some (r1, r2) := by first | (rw [hjs15] at H; exact H) | (simp only [hjs15] at H ⊢; exact H)
      by_cases c16 : js15.size + 1 ≤ 9223372036854775807
      ·rw [if_pos c16] at H
       have c16b0 := eq_true c16
       have c16b1 : decide (js15.size + 1 ≤ 9223372036854775807) = true := decide_eq_true c16
       try have c16b2 : (9223372036854775807 < js15.size + 1) = False := eq_false (Nat.not_lt.2 c16)
       clear c16
       obtain ⟨js17, hjs17⟩ : ∃ j_ : ByteArray, (js15 ++ (⟨#[64]⟩ : ByteArray)) = j_ := ⟨_, rfl⟩
       replace H : (if js17.size + a1_1.size ≤ 9223372036854775807 then ((impl_AppendChecksum.f kj2 (js17 ++ a1_1)).bind fun bt177 => (if bt177.1.size + 1 ≤ 9223372036854775807 then (some (bt177.1 ++ (⟨#[10]⟩ : ByteArray), bt177.2)) else (none))) else (none)) = some (r1, r2) := by first | (rw [hjs17] at H; exact H) | (simp only [hjs17] at H ⊢; exact H)
       by_cases c18 : js17.size + a1_1.size ≤ 9223372036854775807
       ·rw [if_pos c18] at H
        have c18b0 := eq_true c18
        have c18b1 : decide (js17.size + a1_1.size ≤ 9223372036854775807) = true := decide_eq_true c18
        try have c18b2 : (9223372036854775807 < js17.size + a1_1.size) = False := eq_false (Nat.not_lt.2 c18)
        clear c18
        obtain ⟨js19, hjs19⟩ : ∃ j_ : ByteArray, (js17 ++ a1_1) = j_ := ⟨_, rfl⟩
        replace H : ((impl_AppendChecksum.f kj2 js19).bind fun bt177 => (if bt177.1.size + 1 ≤ 9223372036854775807 then (some (bt177.1 ++ (⟨#[10]⟩ : ByteArray), bt177.2)) else (none))) = some (r1, r2) := by first | (rw [hjs19] at H; exact H) | (simp only [hjs19] at H ⊢; exact H)
        obtain ⟨⟨t177, t178⟩, A20, H⟩ := bs H
        by_cases c21 : t177.size + 1 ≤ 9223372036854775807
        ·rw [if_pos c21] at H
         have c21b0 := eq_true c21
         have c21b1 : decide (t177.size + 1 ≤ 9223372036854775807) = true := decide_eq_true c21
         try have c21b2 : (9223372036854775807 < t177.size + 1) = False := eq_false (Nat.not_lt.2 c21)
         clear c21
         obtain ⟨js22, hjs22⟩ : ∃ j_ : ByteArray, (t177 ++ (⟨#[10]⟩ : ByteArray)) = j_ := ⟨_, rfl⟩
         replace H : (some (js22, t178)) = some (r1, r2) := by first | (rw [hjs22] at H; exact H) | (simp only [hjs22] at H ⊢; exact H)
         simp only [Option.some.injEq, Prod.mk.injEq] at H
         obtain ⟨rfl, rfl⟩ := H
         try go_wp2
         replace BK173 := Aside0.mk (blk_drew BK173.out); replace HB := Aside0.mk (below_drew1 HB.out)
         refine start_ (n := 16) (S := fun w' => w'.cell? ⟨gb173, 0, none⟩ = some (.string a1_0) ∧ w'.cell? ⟨gb173, 1, none⟩ = some (.string a1_1)) (ds := []) (ob 16 0) (by kernel_rfl) rfl rfl ⟨(blk_cell BK173.out 0).trans rfl, (blk_cell BK173.out 1).trans rfl⟩ (fun hHeld => ?_); refine with_tabW impl_EncodeRecord.tab3 impl_EncodeRecord.bits3 (fun HT_ HW_ => ?_)
         generalize wc.drew = w23 at BK173 HB hHeld ⊢
         refine pu 0 17 ?_; refine pu 3 20 ?_; refine pu 7 24 ?_; refine tk 4 21 ?_; refine tk 8 25 ?_
         refine one_ (i := 1) (N := some 18) (ob 16 411) rfl rfl (one_of HT_.out (by kernel_rfl)) (by decide) (fun K hK => ?_)
         refine goes_ Tryd.func39 (by kernel_rfl) rfl #[.int .i64 a0] (by rfl) rfl rfl ax20 ?_
         with_reducible refine (strconv_Itoa.calls a0 t176 _ ?side1 A11.out).mono ?_
         (case side1 => exact ax41)
         rintro e w24 ⟨rfl, hb⟩
         refine ⟨_, rfl, ?_⟩
         replace BK173 := ub BK173 hb; replace HB := Aside0.mk (below_step ax39 hb); (try clear hb); (try clear hb2); (try clear hk); (try clear hi)
         refine hK.out _ _ ⟨(blk_cell BK173.out 0).trans rfl, (blk_cell BK173.out 1).trans rfl⟩ (fun hHeld => ?_)
         clear hK K
         refine nm 18 ?_
         refine pu 2 19 ?_; refine pu 5 22 ?_; refine pu 6 23 ?_; refine pu 9 26 ?_
         refine one_ (i := 10) (N := some 27) (ob 16 2047) rfl rfl (one_of HT_.out (by kernel_rfl)) (by decide) (fun K hK => ?_)
         refine goes_ Tryd.func38 (by kernel_rfl) rfl #[.string js19] (by rfl) rfl rfl ax20 ?_
         with_reducible refine (impl_AppendChecksum.calls kj2 js19 t177 t178 _ ?side1 A20.out).mono ?_
         (case side1 => exact ax41)
         rintro e w25 ⟨rfl, hb⟩
         refine ⟨_, rfl, ?_⟩
         replace BK173 := ub BK173 hb; replace HB := Aside0.mk (below_step ax39 hb); (try clear hb); (try clear hb2); (try clear hk); (try clear hi)
         refine hK.out _ _ ⟨(blk_cell BK173.out 0).trans rfl, (blk_cell BK173.out 1).trans rfl⟩ (fun hHeld => ?_)
         clear hK K
         refine nm 27 ?_
         refine pu 11 16 ?_; refine pu 12 28 ?_; refine pu 13 29 ?_; refine pu 14 6 ?_; refine pu 15 7 ?_
         refine dn ?_
         try go_wp2
         go_ret2
         exact ⟨(by first | rfl | (simp [errW_none, errW_some] <;> rfl) | (simp only [← hjs13, ← hjs15, ← hjs17, ← hjs19, ← hjs22]; first | rfl | (simp [errW_none, errW_some] <;> rfl)) | (simp [*, errW_none, errW_some] <;> rfl)), by repeat (first | (with_reducible first | exact HB.out | apply below_alloc | apply pw_below_drewN | apply below_drew1 | refine below_set ?_ GE173.out) | exact HB.out)⟩
        ·rw [if_neg c21] at H
         exact absurd H (by simp)
       ·rw [if_neg c18] at H
        exact absurd H (by simp)
      ·rw [if_neg c16] at H
       exact absurd H (by simp)
     ·rw [if_neg c14] at H
      exact absurd H (by simp)
    ·rw [if_neg c12] at H
     exact absurd H (by simp)

/-! ### strings_Cut: function 63: a contract of our own -/
def strings_Cut.f (a0 a1 : ByteArray) : Option (ByteArray × ByteArray × Bool) := if a0.size < 4294967281 then some (⟨(Lib.cut a0.data.toList a1.data.toList).1.toArray⟩, ⟨(Lib.cut a0.data.toList a1.data.toList).2.1.toArray⟩, (Lib.cut a0.data.toList a1.data.toList).2.2) else none
theorem strings_Cut.calls (a0 a1 r1 r2 : ByteArray) (r3 : Bool) (w : World) (hG : GL w) (h : strings_Cut.f a0 a1 = some (r1, r2, r3)) :
  Calls Tryd.prog 63 #[.string a0, .string a1] w fun e w' => e = .returned (.tuple #[.string r1, .string r2, .bool r3]) ∧ Drawn0 w w' := by
 unfold strings_Cut.f at h
 by_cases hc : a0.size < 4294967281
 ·rw [if_pos hc] at h
  cases h
  obtain ⟨m, hm⟩ := hG.maxlen
  refine (Tryd.strings_Cut a0 a1 m w hc hm).mono ?_
  rintro e w' ⟨rfl, n, rfl⟩
  exact ⟨rfl, ⟨⟨n, rfl⟩⟩⟩
 ·rw [if_neg hc] at h; cases h

end Go.Proofs.YtnjjchbhbicmoaaDoor.X

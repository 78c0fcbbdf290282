-- By gen.py (the session's own program over the kit's printer): functions of the program, each with its contract. Lean checks it.
import Derived.Test.YtnjjchbhbicmoaaGreatDoorX0
import Derived.Test.YtnjjchbhbicmoaaGreatDoorX8
namespace Go.Proofs.YtnjjchbhbicmoaaGreatDoor.X
open Go.RowKit Go.Proofs.YtnjjchbhbicmoaaGreatDoorW.PrintWords Go.Proofs.YtnjjchbhbicmoaaGreatDoorW.PrintLast Go.Proofs.YtnjjchbhbicmoaaGreatDoorW.PrintMore
attribute [local go_sem] max2_int min2_int max_two min_two max_three min_three max_four min_four   -- for this text's walks alone
set_option linter.unusedVariables false
set_option linter.unusedSimpArgs false

/-! ### spec_l1Seal: function 61 -/
def spec_l1Seal.f (k : Nat) (a0 : ByteArray) : Option (ByteArray) := if a0.size + 1 ≤ 9223372036854775807 then ((spec_l1Sum.f k a0).bind fun t245 => ((spec_l1Num.f k t245).bind fun t246 => (if (a0 ++ (⟨#[35]⟩ : ByteArray)).size + t246.size ≤ 9223372036854775807 then (some ((a0 ++ (⟨#[35]⟩ : ByteArray)) ++ t246)) else (none)))) else (none)
theorem spec_l1Seal.mono : ∀ a0 k, LeO (spec_l1Seal.f k a0) (spec_l1Seal.f (k + 1) a0) := by
 intro a0 k
 unfold spec_l1Seal.f
 repeat' first | (with_reducible first | exact spec_l1Num.mono .. | exact spec_l1Sum.mono .. | exact LeO.refl _ | exact LeO.none _ | refine LeO.ite ?_ ?_ | refine LeO.bind ?_ (fun _ => ?_)) | exact spec_l1Num.mono .. | exact spec_l1Sum.mono .. | exact LeO.none _ | refine LeO.ite ?_ ?_ | refine LeO.bind ?_ (fun _ => ?_)
set_option maxHeartbeats 8000000 in
set_option maxRecDepth 100000 in
theorem spec_l1Seal.calls (k : Nat) (a0 : ByteArray) (r : ByteArray) (w : World) (h : spec_l1Seal.f k a0 = some r) :
  Calls Tryz.prog 61 #[.string a0] w fun e w' => e = .returned (.string r) ∧ Below w.heap.size w w' := by
 have HB := Aside0.mk (Below.refl w.heap.size w)
 have H : (if a0.size + 1 ≤ 9223372036854775807 then ((spec_l1Sum.f k a0).bind fun t245 => ((spec_l1Num.f k t245).bind fun t246 => (if (a0 ++ (⟨#[35]⟩ : ByteArray)).size + t246.size ≤ 9223372036854775807 then (some ((a0 ++ (⟨#[35]⟩ : ByteArray)) ++ t246)) else (none)))) else (none)) = some r := h
 clear h
 by_cases c2 : a0.size + 1 ≤ 9223372036854775807
 ·rw [if_pos c2] at H
  have c2b0 := eq_true c2
  have c2b1 : decide (a0.size + 1 ≤ 9223372036854775807) = true := decide_eq_true c2
  try have c2b2 : (9223372036854775807 < a0.size + 1) = False := eq_false (Nat.not_lt.2 c2)
  clear c2
  obtain ⟨js3, hjs3⟩ : ∃ j_ : ByteArray, (a0 ++ (⟨#[35]⟩ : ByteArray)) = j_ := ⟨_, rfl⟩
  replace H : ((spec_l1Sum.f k a0).bind fun t245 => ((spec_l1Num.f k t245).bind fun t246 => (if js3.size + t246.size ≤ 9223372036854775807 then (some (js3 ++ t246)) else (none)))) = some r := by first | (rw [hjs3] at H; exact H) | (simp only [hjs3] at H ⊢; exact H)
  obtain ⟨t245, A4, H⟩ := bs H
  obtain ⟨t246, A5, H⟩ := bs H
  by_cases c6 : js3.size + t246.size ≤ 9223372036854775807
  ·rw [if_pos c6] at H
   have c6b0 := eq_true c6
   have c6b1 : decide (js3.size + t246.size ≤ 9223372036854775807) = true := decide_eq_true c6
   try have c6b2 : (9223372036854775807 < js3.size + t246.size) = False := eq_false (Nat.not_lt.2 c6)
   clear c6
   obtain ⟨js7, hjs7⟩ : ∃ j_ : ByteArray, (js3 ++ t246) = j_ := ⟨_, rfl⟩
   replace H : (some js7) = some r := by first | (rw [hjs7] at H; exact H) | (simp only [hjs7] at H ⊢; exact H)
   obtain rfl := Option.some.inj H
   go_enter Tryz.func61, Tryz.ntmps61
   go_wp2_with (first | ((with_reducible refine gate_callee (f := 73) rfl ?_); refine goesL_ (some 6) rfl rfl Tryz.func73 (by kernel_rfl) rfl #[.string a0] rfl ax12 ?_; (with_reducible refine (spec_l1Sum.calls k a0 t245 _ A4.out).mono ?_); rintro e w' ⟨rfl, ⟨nd, rfl⟩⟩; refine ⟨_, rfl, ?_⟩) | ((with_reducible refine gate_callee (f := 47) rfl ?_); refine goesL_ (some 7) rfl rfl Tryz.func47 (by kernel_rfl) rfl #[.int .i64 t245] rfl ax12 ?_; (with_reducible refine (spec_l1Num.calls k t245 t246 _ A5.out).mono ?_); rintro e w8 ⟨rfl, hb⟩; refine ⟨_, rfl, ?_⟩; have n0_ := Aside0.mk (below_step ax9 hb); clear HB; have HB := n0_; clear n0_; (try clear hb); (try clear hb2); (try clear hk); (try clear hi)))
   go_ret
   exact ⟨ax95, by repeat (first | (with_reducible first | exact HB.out | apply below_alloc | apply pw_below_drewN | apply below_drew1) | exact HB.out)⟩
  ·exact ax1
 ·rw [if_neg c2] at H
  exact absurd H (by simp)

/-! ### spec_l12Line: function 49 -/
def spec_l12Line.f (k : Nat) (a0 : Int) (a1_0 : ByteArray) (a1_1 : ByteArray) : Option (ByteArray) := (spec_l1Num.f k a0).bind fun t248 => (if t248.size + 1 ≤ 9223372036854775807 then (if (t248 ++ (⟨#[32]⟩ : ByteArray)).size + a1_0.size ≤ 9223372036854775807 then (if ((t248 ++ (⟨#[32]⟩ : ByteArray)) ++ a1_0).size + 1 ≤ 9223372036854775807 then (if (((t248 ++ (⟨#[32]⟩ : ByteArray)) ++ a1_0) ++ (⟨#[64]⟩ : ByteArray)).size + a1_1.size ≤ 9223372036854775807 then ((spec_l1Seal.f k ((((t248 ++ (⟨#[32]⟩ : ByteArray)) ++ a1_0) ++ (⟨#[64]⟩ : ByteArray)) ++ a1_1)).bind fun t249 => (if t249.size + 1 ≤ 9223372036854775807 then (some (t249 ++ (⟨#[10]⟩ : ByteArray))) else (none))) else (none)) else (none)) else (none)) else (none))
theorem spec_l12Line.mono : ∀ a0 a1 a2 k, LeO (spec_l12Line.f k a0 a1 a2) (spec_l12Line.f (k + 1) a0 a1 a2) := by
 intro a0 a1 a2 k
 unfold spec_l12Line.f
 repeat' first | (with_reducible first | exact spec_l1Num.mono .. | exact spec_l1Seal.mono .. | exact LeO.refl _ | exact LeO.none _ | refine LeO.ite ?_ ?_ | refine LeO.bind ?_ (fun _ => ?_)) | exact spec_l1Num.mono .. | exact spec_l1Seal.mono .. | exact LeO.none _ | refine LeO.ite ?_ ?_ | refine LeO.bind ?_ (fun _ => ?_)
def spec_l12Line.T1 : Bool × List (List Nat × List Nat) := (true, [([], []), ([0], [0]), ([1], [1]), ([], []), ([3], [3]), ([2, 4], [2, 4]), ([5], [5]), ([], []), ([7], [7]), ([6, 8], [6, 8]), ([9, 1], [9]), ([10], [10]), ([11, 10, 0, 1, 2, 3, 4, 5, 6, 7, 8, 9, 10, 11], [11])])
def spec_l12Line.B1 : List Nat := [0, 1, 3, 0, 8, 31, 63, 0, 128, 511, 1023, 2047, 4095]
theorem spec_l12Line.tab1 : rtab .any (opsOf Tryz.f49 1) = spec_l12Line.T1 := by kernel_rfl
theorem spec_l12Line.bits1 : waitsOk spec_l12Line.T1.2 spec_l12Line.B1 = true := by kernel_rfl
set_option maxHeartbeats 8000000 in
set_option maxRecDepth 100000 in
theorem spec_l12Line.calls (k : Nat) (a0 : Int) (a1_0 : ByteArray) (a1_1 : ByteArray) (r : ByteArray) (w : World) (h : spec_l12Line.f k a0 a1_0 a1_1 = some r) :
  Calls Tryz.prog 49 #[.int .i64 a0, .agg #[.string a1_0, .string a1_1]] w fun e w' => e = .returned (.string r) ∧ Below w.heap.size w w' := by
 have hu71 := Tryz.underlying71; have HB := Aside0.mk (Below.refl w.heap.size w)
 have H : ((spec_l1Num.f k a0).bind fun t248 => (if t248.size + 1 ≤ 9223372036854775807 then (if (t248 ++ (⟨#[32]⟩ : ByteArray)).size + a1_0.size ≤ 9223372036854775807 then (if ((t248 ++ (⟨#[32]⟩ : ByteArray)) ++ a1_0).size + 1 ≤ 9223372036854775807 then (if (((t248 ++ (⟨#[32]⟩ : ByteArray)) ++ a1_0) ++ (⟨#[64]⟩ : ByteArray)).size + a1_1.size ≤ 9223372036854775807 then ((spec_l1Seal.f k ((((t248 ++ (⟨#[32]⟩ : ByteArray)) ++ a1_0) ++ (⟨#[64]⟩ : ByteArray)) ++ a1_1)).bind fun t249 => (if t249.size + 1 ≤ 9223372036854775807 then (some (t249 ++ (⟨#[10]⟩ : ByteArray))) else (none))) else (none)) else (none)) else (none)) else (none))) = some r := h
 clear h
 obtain ⟨t248, A3, H⟩ := bs H
 by_cases c4 : t248.size + 1 ≤ 9223372036854775807
 ·rw [if_pos c4] at H
  have c4b0 := eq_true c4
  have c4b1 : decide (t248.size + 1 ≤ 9223372036854775807) = true := decide_eq_true c4
  try have c4b2 : (9223372036854775807 < t248.size + 1) = False := eq_false (Nat.not_lt.2 c4)
  clear c4
  obtain ⟨js5, hjs5⟩ : ∃ j_ : ByteArray, (t248 ++ (⟨#[32]⟩ : ByteArray)) = j_ := ⟨_, rfl⟩
  replace H : (if js5.size + a1_0.size ≤ 9223372036854775807 then (if (js5 ++ a1_0).size + 1 ≤ 9223372036854775807 then (if ((js5 ++ a1_0) ++ (⟨#[64]⟩ : ByteArray)).size + a1_1.size ≤ 9223372036854775807 then ((spec_l1Seal.f k (((js5 ++ a1_0) ++ (⟨#[64]⟩ : ByteArray)) ++ a1_1)).bind fun t249 => (if t249.size + 1 ≤ 9223372036854775807 then (some (t249 ++ (⟨#[10]⟩ : ByteArray))) else (none))) else (none)) else (none)) else (none)) = some r := by first | (rw [hjs5] at H; exact H) | (simp only [hjs5] at H ⊢; exact H)
  by_cases c6 : js5.size + a1_0.size ≤ 9223372036854775807
  ·rw [if_pos c6] at H
   have c6b0 := eq_true c6
   have c6b1 : decide (js5.size + a1_0.size ≤ 9223372036854775807) = true := decide_eq_true c6
   try have c6b2 : (9223372036854775807 < js5.size + a1_0.size) = False := eq_false (Nat.not_lt.2 c6)
   clear c6
   obtain ⟨js7, hjs7⟩ : ∃ j_ : ByteArray, (js5 ++ a1_0) = j_ := ⟨_, rfl⟩
   replace H : (if js7.size + 1 ≤ 9223372036854775807 then (if (js7 ++ (⟨#[64]⟩ : ByteArray)).size + a1_1.size ≤ 9223372036854775807 then ((spec_l1Seal.f k ((js7 ++ (⟨#[64]⟩ : ByteArray)) ++ a1_1)).bind fun t249 => (if t249.size + 1 ≤ 9223372036854775807 then (some (t249 ++ (⟨#[10]⟩ : ByteArray))) else (none))) else (none)) else (none)) = some r := by first | (rw [hjs7] at H; exact H) | (simp only [hjs7] at H ⊢; exact H)
   by_cases c8 : js7.size + 1 ≤ 9223372036854775807
   ·rw [if_pos c8] at H
    have c8b0 := eq_true c8
    have c8b1 : decide (js7.size + 1 ≤ 9223372036854775807) = true := decide_eq_true c8
    try have c8b2 : (9223372036854775807 < js7.size + 1) = False := eq_false (Nat.not_lt.2 c8)
    clear c8
    obtain ⟨js9, hjs9⟩ : ∃ j_ : ByteArray, (js7 ++ (⟨#[64]⟩ : ByteArray)) = j_ := ⟨_, rfl⟩
    replace H : (if js9.size + a1_1.size ≤ 9223372036854775807 then ((spec_l1Seal.f k (js9 ++ a1_1)).bind fun t249 => (if t249.size + 1 ≤ 9223372036854775807 then (some (t249 ++ (⟨#[10]⟩ : ByteArray))) else (none))) else (none)) = some r := by first | (rw [hjs9] at H; exact H) | (simp only [hjs9] at H ⊢; exact H)
    by_cases c10 : js9.size + a1_1.size ≤ 9223372036854775807
    ·rw [if_pos c10] at H
     have c10b0 := eq_true c10
     have c10b1 : decide (js9.size + a1_1.size ≤ 9223372036854775807) = true := decide_eq_true c10
     try have c10b2 : (9223372036854775807 < js9.size + a1_1.size) = False := eq_false (Nat.not_lt.2 c10)
     clear c10
     obtain ⟨js11, hjs11⟩ : ∃ j_ : ByteArray, (js9 ++ a1_1) = j_ := ⟨_, rfl⟩
     replace H : ((spec_l1Seal.f k js11).bind fun t249 => (if t249.size + 1 ≤ 9223372036854775807 then (some (t249 ++ (⟨#[10]⟩ : ByteArray))) else (none))) = some r := by first | (rw [hjs11] at H; exact H) | (simp only [hjs11] at H ⊢; exact H)
     obtain ⟨t249, A12, H⟩ := bs H
     by_cases c13 : t249.size + 1 ≤ 9223372036854775807
     ·rw [if_pos c13] at H
      have c13b0 := eq_true c13
      have c13b1 : decide (t249.size + 1 ≤ 9223372036854775807) = true := decide_eq_true c13
      try have c13b2 : (9223372036854775807 < t249.size + 1) = False := eq_false (Nat.not_lt.2 c13)
      clear c13
      obtain ⟨js14, hjs14⟩ : ∃ j_ : ByteArray, (t249 ++ (⟨#[10]⟩ : ByteArray)) = j_ := ⟨_, rfl⟩
      replace H : (some js14) = some r := by first | (rw [hjs14] at H; exact H) | (simp only [hjs14] at H ⊢; exact H)
      obtain rfl := Option.some.inj H
      go_enter Tryz.func49, Tryz.ntmps49
      try go_wp2_with (first | ((with_reducible refine gate_dst (N := 3) rfl ?_); refine box_event ?hg (N := 3) ?hd (cs := #[.string a1_0, .string a1_1]) (t := 71) ?hr ?_; (case hd => rfl); (case hg => rfl); (case hr => exact ax8); intro gb247 hg w15 hbox hb; have n0_ := Aside0.mk (below_step ax9 hb); have n1_ := Aside0.mk (hbox); have n2_ := Aside0.mk ((ax10 : w.heap.size ≤ gb247)); have n3_ := Aside0.mk ((ax10 : w.heap.size ≤ gb247)); clear HB; have HB := n0_; have BK247 := n1_; have GW247 := n2_; have GE247 := n3_; clear n0_ n1_ n2_ n3_; clear hb hbox hg))
      have n0_ := Aside0.mk (blk_drew BK247.out); have n1_ := Aside0.mk (below_drew1 HB.out); clear BK247; clear HB; have BK247 := n0_; have HB := n1_; clear n0_ n1_
      refine start_ (n := 13) (S := fun w' => w'.cell? ⟨gb247, 0, none⟩ = some (.string a1_0) ∧ w'.cell? ⟨gb247, 1, none⟩ = some (.string a1_1)) (ds := []) (ob 13 0) (by kernel_rfl) rfl rfl ⟨(blk_cell BK247.out 0).trans rfl, (blk_cell BK247.out 1).trans rfl⟩ (fun hHeld => ?_); refine with_tabW spec_l12Line.tab1 spec_l12Line.bits1 (fun HT_ HW_ => ?_)
      generalize w15.drew = w16 at BK247 HB hHeld ⊢
      refine pu 0 5 ?_; refine pu 3 8 ?_; refine pu 7 12 ?_; refine tk 4 9 ?_; refine tk 8 13 ?_
      refine one_ (i := 1) (N := some 6) (ob 13 411) rfl rfl (one_of HT_.out (by kernel_rfl)) (by decide) (fun K hK => ?_)
      refine goes_ Tryz.func47 (by kernel_rfl) rfl #[.int .i64 a0] (by rfl) rfl rfl ax12 ?_
      with_reducible refine (spec_l1Num.calls k a0 t248 _ A3.out).mono ?_
      rintro e w17 ⟨rfl, hb⟩
      refine ⟨_, rfl, ?_⟩
      have n0_ := Aside0.mk (blk_below (g := gb247) (o := .cells #[.string a1_0, .string a1_1] 71 (0, 0)) ax96 hb)
      have n1_ := Aside0.mk (below_step ax97 hb); clear BK247; clear HB; have BK247 := n0_; have HB := n1_; clear n0_ n1_; (try clear hb); (try clear hb2); (try clear hk); (try clear hi)
      refine hK.out _ _ ⟨(blk_cell BK247.out 0).trans rfl, (blk_cell BK247.out 1).trans rfl⟩ (fun hHeld => ?_)
      clear hK K
      refine nm 6 ?_
      refine pu 2 7 ?_; refine pu 5 10 ?_; refine pu 6 11 ?_; refine pu 9 14 ?_
      refine one_ (i := 10) (N := some 15) (ob 13 2047) rfl rfl (one_of HT_.out (by kernel_rfl)) (by decide) (fun K hK => ?_)
      refine goes_ Tryz.func61 (by kernel_rfl) rfl #[.string js11] (by rfl) rfl rfl ax12 ?_
      with_reducible refine (spec_l1Seal.calls k js11 t249 _ A12.out).mono ?_
      rintro e w18 ⟨rfl, hb⟩
      refine ⟨_, rfl, ?_⟩
      have n0_ := Aside0.mk (blk_below (g := gb247) (o := .cells #[.string a1_0, .string a1_1] 71 (0, 0)) ax96 hb)
      have n1_ := Aside0.mk (below_step ax97 hb); clear BK247; clear HB; have BK247 := n0_; have HB := n1_; clear n0_ n1_; (try clear hb); (try clear hb2); (try clear hk); (try clear hi)
      refine hK.out _ _ ⟨(blk_cell BK247.out 0).trans rfl, (blk_cell BK247.out 1).trans rfl⟩ (fun hHeld => ?_)
      clear hK K
      refine nm 15 ?_
      refine pu 11 16 ?_; refine pu 12 4 ?_
      refine dn ?_
      try go_wp2
      go_ret
      exact ⟨(by first | rfl | (simp [errW_none, errW_some] <;> rfl) | (simp only [← hjs5, ← hjs7, ← hjs9, ← hjs11, ← hjs14]; first | rfl | (simp [errW_none, errW_some] <;> rfl)) | (simp [*, errW_none, errW_some] <;> rfl)), by repeat (first | (with_reducible first | exact HB.out | apply below_alloc | apply pw_below_drewN | apply below_drew1 | refine below_set ?_ GE247.out) | exact HB.out)⟩
     ·rw [if_neg c13] at H
      exact absurd H (by simp)
    ·exact ax4
   ·rw [if_neg c8] at H
    exact absurd H (by simp)
  ·exact ax1
 ·exact ax7
end Go.Proofs.YtnjjchbhbicmoaaGreatDoor.X

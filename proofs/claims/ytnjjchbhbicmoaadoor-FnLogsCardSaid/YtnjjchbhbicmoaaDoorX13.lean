-- By gen.py (the session's own program over the kit's printer): functions of the program, each with its contract. Lean checks it.
import Derived.Test.YtnjjchbhbicmoaaDoorX0
import Derived.Test.YtnjjchbhbicmoaaDoorX2
import Derived.Test.YtnjjchbhbicmoaaDoorX8
import Derived.Test.YtnjjchbhbicmoaaDoorX10
import Derived.Test.YtnjjchbhbicmoaaDoorX12
namespace Go.Proofs.YtnjjchbhbicmoaaDoor.X
open Go.RowKit Go.Proofs.YtnjjchbhbicmoaaDoorW.PrintWords Go.Proofs.YtnjjchbhbicmoaaDoorW.PrintLast Go.Proofs.YtnjjchbhbicmoaaDoorW.PrintMore
attribute [local go_sem] max2_int min2_int max_two min_two max_three min_three max_four min_four   -- for this text's walks alone
set_option linter.unusedVariables false
set_option linter.unusedSimpArgs false

attribute [local go_sem high] eqA33
/-! ### spec_l1Cur_spoilt: function 49 -/
def spec_l1Cur_spoilt.f (s0_0 : List Int) (s0_1 : Int) (s0_2 : Int) (a1 : ByteArray) (a2 : ByteArray) : Option (ByteArray × Int × Int) := if a1.toList = ([] : List UInt8) then (if 0 ≤ 1 then (if 1 ≤ (a2.size : Int) then (some (a2.extract 0 1, s0_1, s0_2)) else (none)) else (none)) else ((spec_l1Cur_pick.f s0_0 s0_1 s0_2 (a1.size : Int)).bind fun bt353 => ((spec_l1Cur_pick.f s0_0 bt353.2.1 bt353.2.2 (a2.size : Int)).bind fun bt356 => (if 0 ≤ bt356.1 then (if bt356.1 ≤ (a2.size : Int) then (if 0 ≤ 1 then (if 1 ≤ ((a2.extract (bt356.1 : Int).toNat a2.size).size : Int) then ((spec_l1Cur_pick.f s0_0 bt356.2.1 bt356.2.2 3).bind fun bt359 => (if bt359.1 = 0 then (if 0 ≤ bt353.1 then (if bt353.1 ≤ (a1.size : Int) then (if (a1.extract 0 (bt353.1 : Int).toNat).size + ((a2.extract (bt356.1 : Int).toNat a2.size).extract 0 1).size ≤ 9223372036854775807 then (if ((a1.extract 0 (bt353.1 : Int).toNat) ++ ((a2.extract (bt356.1 : Int).toNat a2.size).extract 0 1)).size + (a1.extract (bt353.1 : Int).toNat a1.size).size ≤ 9223372036854775807 then (some (((a1.extract 0 (bt353.1 : Int).toNat) ++ ((a2.extract (bt356.1 : Int).toNat a2.size).extract 0 1)) ++ (a1.extract (bt353.1 : Int).toNat a1.size), bt359.2.1, bt359.2.2)) else (none)) else (none)) else (none)) else (none)) else (if bt359.1 = 1 then (if 0 ≤ bt353.1 then (if bt353.1 ≤ (a1.size : Int) then (if (a1.extract 0 (bt353.1 : Int).toNat).size + ((a2.extract (bt356.1 : Int).toNat a2.size).extract 0 1).size ≤ 9223372036854775807 then (if 0 ≤ (wrap64 (bt353.1 + 1)) then (if (wrap64 (bt353.1 + 1)) ≤ (a1.size : Int) then (if ((a1.extract 0 (bt353.1 : Int).toNat) ++ ((a2.extract (bt356.1 : Int).toNat a2.size).extract 0 1)).size + (a1.extract ((wrap64 (bt353.1 + 1)) : Int).toNat a1.size).size ≤ 9223372036854775807 then (some (((a1.extract 0 (bt353.1 : Int).toNat) ++ ((a2.extract (bt356.1 : Int).toNat a2.size).extract 0 1)) ++ (a1.extract ((wrap64 (bt353.1 + 1)) : Int).toNat a1.size), bt359.2.1, bt359.2.2)) else (none)) else (none)) else (none)) else (none)) else (none)) else (none)) else (if 0 ≤ bt353.1 then (if bt353.1 ≤ (a1.size : Int) then (if 0 ≤ (wrap64 (bt353.1 + 1)) then (if (wrap64 (bt353.1 + 1)) ≤ (a1.size : Int) then (if (a1.extract 0 (bt353.1 : Int).toNat).size + (a1.extract ((wrap64 (bt353.1 + 1)) : Int).toNat a1.size).size ≤ 9223372036854775807 then (some ((a1.extract 0 (bt353.1 : Int).toNat) ++ (a1.extract ((wrap64 (bt353.1 + 1)) : Int).toNat a1.size), bt359.2.1, bt359.2.2)) else (none)) else (none)) else (none)) else (none)) else (none))))) else (none)) else (none)) else (none)) else (none))))
set_option maxHeartbeats 8000000 in
set_option maxRecDepth 100000 in
theorem spec_l1Cur_spoilt.calls (g : Nat) (s0_0 : List Int) (s0_1 : Int) (s0_2 : Int) (a1 : ByteArray) (a2 : ByteArray) (r1 : ByteArray) (r2 : Int) (r3 : Int) (w0 w : World) (hI : IsS60 w0 w g s0_0 s0_1 s0_2) (hB : Below w0.heap.size w0 w) (h : spec_l1Cur_spoilt.f s0_0 s0_1 s0_2 a1 a2 = some (r1, r2, r3)) :
  Calls Tryd.prog 49 #[.pointer (some ⟨g, 0, none⟩), .string a1, .string a2] w fun e w' => e = .returned (.string r1) ∧ IsS60 w0 w' g s0_0 r2 r3 ∧ Below w0.heap.size w0 w' ∧ KeepBut w w' g none := by
 have HI0 := Aside0.mk hI; have HK := Aside0.mk (KeepBut.refl w g none); have HL := Aside0.mk hB.size; clear hI; have HW0 := Aside0.mk hB.size; have HB := Aside0.mk hB; clear hB
 have H : (if a1.toList = ([] : List UInt8) then (if 0 ≤ 1 then (if 1 ≤ (a2.size : Int) then (some (a2.extract 0 1, s0_1, s0_2)) else (none)) else (none)) else ((spec_l1Cur_pick.f s0_0 s0_1 s0_2 (a1.size : Int)).bind fun bt353 => ((spec_l1Cur_pick.f s0_0 bt353.2.1 bt353.2.2 (a2.size : Int)).bind fun bt356 => (if 0 ≤ bt356.1 then (if bt356.1 ≤ (a2.size : Int) then (if 0 ≤ 1 then (if 1 ≤ ((a2.extract (bt356.1 : Int).toNat a2.size).size : Int) then ((spec_l1Cur_pick.f s0_0 bt356.2.1 bt356.2.2 3).bind fun bt359 => (if bt359.1 = 0 then (if 0 ≤ bt353.1 then (if bt353.1 ≤ (a1.size : Int) then (if (a1.extract 0 (bt353.1 : Int).toNat).size + ((a2.extract (bt356.1 : Int).toNat a2.size).extract 0 1).size ≤ 9223372036854775807 then (if ((a1.extract 0 (bt353.1 : Int).toNat) ++ ((a2.extract (bt356.1 : Int).toNat a2.size).extract 0 1)).size + (a1.extract (bt353.1 : Int).toNat a1.size).size ≤ 9223372036854775807 then (some (((a1.extract 0 (bt353.1 : Int).toNat) ++ ((a2.extract (bt356.1 : Int).toNat a2.size).extract 0 1)) ++ (a1.extract (bt353.1 : Int).toNat a1.size), bt359.2.1, bt359.2.2)) else (none)) else (none)) else (none)) else (none)) else (if bt359.1 = 1 then (if 0 ≤ bt353.1 then (if bt353.1 ≤ (a1.size : Int) then (if (a1.extract 0 (bt353.1 : Int).toNat).size + ((a2.extract (bt356.1 : Int).toNat a2.size).extract 0 1).size ≤ 9223372036854775807 then (if 0 ≤ (wrap64 (bt353.1 + 1)) then (if (wrap64 (bt353.1 + 1)) ≤ (a1.size : Int) then (if ((a1.extract 0 (bt353.1 : Int).toNat) ++ ((a2.extract (bt356.1 : Int).toNat a2.size).extract 0 1)).size + (a1.extract ((wrap64 (bt353.1 + 1)) : Int).toNat a1.size).size ≤ 9223372036854775807 then (some (((a1.extract 0 (bt353.1 : Int).toNat) ++ ((a2.extract (bt356.1 : Int).toNat a2.size).extract 0 1)) ++ (a1.extract ((wrap64 (bt353.1 + 1)) : Int).toNat a1.size), bt359.2.1, bt359.2.2)) else (none)) else (none)) else (none)) else (none)) else (none)) else (none)) else (if 0 ≤ bt353.1 then (if bt353.1 ≤ (a1.size : Int) then (if 0 ≤ (wrap64 (bt353.1 + 1)) then (if (wrap64 (bt353.1 + 1)) ≤ (a1.size : Int) then (if (a1.extract 0 (bt353.1 : Int).toNat).size + (a1.extract ((wrap64 (bt353.1 + 1)) : Int).toNat a1.size).size ≤ 9223372036854775807 then (some ((a1.extract 0 (bt353.1 : Int).toNat) ++ (a1.extract ((wrap64 (bt353.1 + 1)) : Int).toNat a1.size), bt359.2.1, bt359.2.2)) else (none)) else (none)) else (none)) else (none)) else (none))))) else (none)) else (none)) else (none)) else (none))))) = some (r1, r2, r3) := h
 clear h
 by_cases c4 : a1.toList = ([] : List UInt8)
 ·rw [if_pos c4] at H
  have c4b0 : (a1.toList == ([] : List UInt8)) = true := beq_iff_eq.mpr c4
  have c4b1 : (a1.toList != ([] : List UInt8)) = false := bne_eq_false_iff_eq.mpr c4
  clear c4
  by_cases c5 : 0 ≤ 1
  ·rw [if_pos c5] at H
   have c5b0 := eq_true c5
   have c5b1 : decide (0 ≤ 1) = true := decide_eq_true c5
   clear c5
   by_cases c6 : 1 ≤ (a2.size : Int)
   ·rw [if_pos c6] at H
    have c6b0 := eq_true c6
    have c6b1 : decide (1 ≤ (a2.size : Int)) = true := decide_eq_true c6
    clear c6
    obtain ⟨js7, hjs7⟩ : ∃ j_ : ByteArray, (a2.extract 0 1) = j_ := ⟨_, rfl⟩
    replace H : (some (js7, s0_1, s0_2)) = some (r1, r2, r3) := by first | (rw [hjs7] at H; exact H) | (simp only [hjs7] at H ⊢; exact H)
    simp only [Option.some.injEq, Prod.mk.injEq] at H
    obtain ⟨rfl, rfl, rfl⟩ := H
    go_enter Tryd.func49, Tryd.ntmps49
    go_wp2
    repeat (go_quiet (fail); try go_wp2)
    go_ret
    exact ⟨(by first | rfl | (simp [errW_none, errW_some] <;> rfl) | (simp only [← hjs7]; first | rfl | (simp [errW_none, errW_some] <;> rfl)) | (simp [*, errW_none, errW_some] <;> rfl)), by repeat (first | (with_reducible first | exact HI0.out | apply IsS60.alloc | apply IsS60.drewN | apply IsS60.drew | apply IsS60.set_1 | apply IsS60.set_2) | exact HI0.out), by repeat (first | (with_reducible first | exact HB.out | apply below_alloc | apply pw_below_drewN | apply below_drew1 | refine below_set ?_ (IsS60.ge HI0.out)) | exact HB.out), by repeat (first | (with_reducible first | exact HK.out | apply KeepBut.set_ | apply keep_drewN | apply keep_drew | apply keep_alloc) | exact HK.out)⟩
   ·exact ax2
  ·exact ax4
 ·rw [if_neg c4] at H
  have c4b0 : (a1.toList == ([] : List UInt8)) = false := beq_eq_false_iff_ne.mpr c4
  have c4b1 : (a1.toList != ([] : List UInt8)) = true := bne_iff_ne.mpr c4
  obtain ⟨⟨t353, t354, t355⟩, A8, H⟩ := bs H
  obtain ⟨⟨t356, t357, t358⟩, A9, H⟩ := bs H
  by_cases c10 : 0 ≤ t356
  ·rw [if_pos c10] at H
   have c10b0 := eq_true c10
   have c10b1 : decide (0 ≤ t356) = true := decide_eq_true c10
   clear c10
   by_cases c11 : t356 ≤ (a2.size : Int)
   ·rw [if_pos c11] at H
    have c11b0 := eq_true c11
    have c11b1 : decide (t356 ≤ (a2.size : Int)) = true := decide_eq_true c11
    clear c11
    obtain ⟨js12, hjs12⟩ : ∃ j_ : ByteArray, (a2.extract (t356 : Int).toNat a2.size) = j_ := ⟨_, rfl⟩
    replace H : (if 0 ≤ 1 then (if 1 ≤ (js12.size : Int) then ((spec_l1Cur_pick.f s0_0 t357 t358 3).bind fun bt359 => (if bt359.1 = 0 then (if 0 ≤ t353 then (if t353 ≤ (a1.size : Int) then (if (a1.extract 0 (t353 : Int).toNat).size + (js12.extract 0 1).size ≤ 9223372036854775807 then (if ((a1.extract 0 (t353 : Int).toNat) ++ (js12.extract 0 1)).size + (a1.extract (t353 : Int).toNat a1.size).size ≤ 9223372036854775807 then (some (((a1.extract 0 (t353 : Int).toNat) ++ (js12.extract 0 1)) ++ (a1.extract (t353 : Int).toNat a1.size), bt359.2.1, bt359.2.2)) else (none)) else (none)) else (none)) else (none)) else (if bt359.1 = 1 then (if 0 ≤ t353 then (if t353 ≤ (a1.size : Int) then (if (a1.extract 0 (t353 : Int).toNat).size + (js12.extract 0 1).size ≤ 9223372036854775807 then (if 0 ≤ (wrap64 (t353 + 1)) then (if (wrap64 (t353 + 1)) ≤ (a1.size : Int) then (if ((a1.extract 0 (t353 : Int).toNat) ++ (js12.extract 0 1)).size + (a1.extract ((wrap64 (t353 + 1)) : Int).toNat a1.size).size ≤ 9223372036854775807 then (some (((a1.extract 0 (t353 : Int).toNat) ++ (js12.extract 0 1)) ++ (a1.extract ((wrap64 (t353 + 1)) : Int).toNat a1.size), bt359.2.1, bt359.2.2)) else (none)) else (none)) else (none)) else (none)) else (none)) else (none)) else (if 0 ≤ t353 then (if t353 ≤ (a1.size : Int) then (if 0 ≤ (wrap64 (t353 + 1)) then (if (wrap64 (t353 + 1)) ≤ (a1.size : Int) then (if (a1.extract 0 (t353 : Int).toNat).size + (a1.extract ((wrap64 (t353 + 1)) : Int).toNat a1.size).size ≤ 9223372036854775807 then (some ((a1.extract 0 (t353 : Int).toNat) ++ (a1.extract ((wrap64 (t353 + 1)) : Int).toNat a1.size), bt359.2.1, bt359.2.2)) else (none)) else (none)) else (none)) else (none)) else (none))))) else (none)) else (none)) = some (r1, r2, r3) := by first | (rw [hjs12] at H; exact H) | (simp only [hjs12] at H ⊢; exact H)
    by_cases c13 : 0 ≤ 1
    ·rw [if_pos c13] at H
     have c13b0 := eq_true c13
     have c13b1 : decide (0 ≤ 1) = true := decide_eq_true c13
     clear c13
     by_cases c14 : 1 ≤ (js12.size : Int)
     ·rw [if_pos c14] at H
      have c14b0 := eq_true c14
      have c14b1 : decide (1 ≤ (js12.size : Int)) = true := decide_eq_true c14
      clear c14
      obtain ⟨js15, hjs15⟩ : ∃ j_ : ByteArray, (js12.extract 0 1) = j_ := ⟨_, rfl⟩
      replace H : ((spec_l1Cur_pick.f s0_0 t357 t358 3).bind fun bt359 => (if bt359.1 = 0 then (if 0 ≤ t353 then (if t353 ≤ (a1.size : Int) then (if (a1.extract 0 (t353 : Int).toNat).size + js15.size ≤ 9223372036854775807 then (if ((a1.extract 0 (t353 : Int).toNat) ++ js15).size + (a1.extract (t353 : Int).toNat a1.size).size ≤ 9223372036854775807 then (some (((a1.extract 0 (t353 : Int).toNat) ++ js15) ++ (a1.extract (t353 : Int).toNat a1.size), bt359.2.1, bt359.2.2)) else (none)) else (none)) else (none)) else (none)) else (if bt359.1 = 1 then (if 0 ≤ t353 then (if t353 ≤ (a1.size : Int) then (if (a1.extract 0 (t353 : Int).toNat).size + js15.size ≤ 9223372036854775807 then (if 0 ≤ (wrap64 (t353 + 1)) then (if (wrap64 (t353 + 1)) ≤ (a1.size : Int) then (if ((a1.extract 0 (t353 : Int).toNat) ++ js15).size + (a1.extract ((wrap64 (t353 + 1)) : Int).toNat a1.size).size ≤ 9223372036854775807 then (some (((a1.extract 0 (t353 : Int).toNat) ++ js15) ++ (a1.extract ((wrap64 (t353 + 1)) : Int).toNat a1.size), bt359.2.1, bt359.2.2)) else (none)) else (none)) else (none)) else (none)) else (none)) else (none)) else (if 0 ≤ t353 then (if t353 ≤ (a1.size : Int) then (if 0 ≤ (wrap64 (t353 + 1)) then (if (wrap64 (t353 + 1)) ≤ (a1.size : Int) then (if (a1.extract 0 (t353 : Int).toNat).size + (a1.extract ((wrap64 (t353 + 1)) : Int).toNat a1.size).size ≤ 9223372036854775807 then (some ((a1.extract 0 (t353 : Int).toNat) ++ (a1.extract ((wrap64 (t353 + 1)) : Int).toNat a1.size), bt359.2.1, bt359.2.2)) else (none)) else (none)) else (none)) else (none)) else (none))))) = some (r1, r2, r3) := by first | (rw [hjs15] at H; exact H) | (simp only [hjs15] at H ⊢; exact H)
      obtain ⟨⟨t359, t360, t361⟩, A16, H⟩ := bs H
      by_cases c17 : t359 = 0
      ·rw [if_pos c17] at H
       have c17b0 : (t359 == 0) = true := beq_iff_eq.mpr c17
       have c17b1 : (t359 != 0) = false := bne_eq_false_iff_eq.mpr c17
       clear c17
       by_cases c18 : 0 ≤ t353
       ·rw [if_pos c18] at H
        have c18b0 := eq_true c18
        have c18b1 : decide (0 ≤ t353) = true := decide_eq_true c18
        clear c18
        by_cases c19 : t353 ≤ (a1.size : Int)
        ·rw [if_pos c19] at H
         have c19b0 := eq_true c19
         have c19b1 : decide (t353 ≤ (a1.size : Int)) = true := decide_eq_true c19
         clear c19
         obtain ⟨js20, hjs20⟩ : ∃ j_ : ByteArray, (a1.extract 0 (t353 : Int).toNat) = j_ := ⟨_, rfl⟩
         replace H : (if js20.size + js15.size ≤ 9223372036854775807 then (if (js20 ++ js15).size + (a1.extract (t353 : Int).toNat a1.size).size ≤ 9223372036854775807 then (some ((js20 ++ js15) ++ (a1.extract (t353 : Int).toNat a1.size), t360, t361)) else (none)) else (none)) = some (r1, r2, r3) := by first | (rw [hjs20] at H; exact H) | (simp only [hjs20] at H ⊢; exact H)
         by_cases c21 : js20.size + js15.size ≤ 9223372036854775807
         ·rw [if_pos c21] at H
          have c21b0 := eq_true c21
          have c21b1 : decide (js20.size + js15.size ≤ 9223372036854775807) = true := decide_eq_true c21
          try have c21b2 : (9223372036854775807 < js20.size + js15.size) = False := eq_false (Nat.not_lt.2 c21)
          clear c21
          obtain ⟨js22, hjs22⟩ : ∃ j_ : ByteArray, (js20 ++ js15) = j_ := ⟨_, rfl⟩
          replace H : (if js22.size + (a1.extract (t353 : Int).toNat a1.size).size ≤ 9223372036854775807 then (some (js22 ++ (a1.extract (t353 : Int).toNat a1.size), t360, t361)) else (none)) = some (r1, r2, r3) := by first | (rw [hjs22] at H; exact H) | (simp only [hjs22] at H ⊢; exact H)
          have c23b0 := eq_true (of_decide_eq_true ax12 : 0 ≤ t353); have c24b0 := eq_true (of_decide_eq_true ax12 : t353 ≤ (a1.size : Int))
          obtain ⟨js25, hjs25⟩ : ∃ j_ : ByteArray, (a1.extract (t353 : Int).toNat a1.size) = j_ := ⟨_, rfl⟩
          replace H : (if js22.size + js25.size ≤ 9223372036854775807 then (some (js22 ++ js25, t360, t361)) else (none)) = some (r1, r2, r3) := by first | (rw [hjs25] at H; exact H) | (simp only [hjs25] at H ⊢; exact H)
          by_cases c26 : js22.size + js25.size ≤ 9223372036854775807
          ·rw [if_pos c26] at H
           have c26b0 := eq_true c26
           have c26b1 : decide (js22.size + js25.size ≤ 9223372036854775807) = true := decide_eq_true c26
           try have c26b2 : (9223372036854775807 < js22.size + js25.size) = False := eq_false (Nat.not_lt.2 c26)
           clear c26
           obtain ⟨js27, hjs27⟩ : ∃ j_ : ByteArray, (js22 ++ js25) = j_ := ⟨_, rfl⟩
           replace H : (some (js27, t360, t361)) = some (r1, r2, r3) := by first | (rw [hjs27] at H; exact H) | (simp only [hjs27] at H ⊢; exact H)
           simp only [Option.some.injEq, Prod.mk.injEq] at H
           obtain ⟨rfl, rfl, rfl⟩ := H
           go_enter Tryd.func49, Tryd.ntmps49
           go_wp2_with (first | (go_at_call 44; (with_reducible refine (spec_l1Cur_pick.calls g s0_0 s0_1 s0_2 (a1.size : Int) t353 t354 t355 w0 _ ?side1 ?side2 A8.out).mono ?_); (case side1 => exact ax58); (case side2 => exact ax59); rintro e w28 ⟨rfl, hi, hb, hk⟩; replace HK := Aside0.mk (KeepBut.trans ax60 hk (.inl rfl)); replace HB := Aside0.mk (hb); replace HI0 := Aside0.mk (hi); (try clear hb); (try clear hb2); (try clear hk); (try clear hi)) | (go_at_call 44; (with_reducible refine (spec_l1Cur_pick.calls g s0_0 t354 t355 (a2.size : Int) t356 t357 t358 w0 _ ?side1 ?side2 A9.out).mono ?_); (case side1 => exact ax58); (case side2 => exact ax59); rintro e w29 ⟨rfl, hi, hb, hk⟩; replace HK := Aside0.mk (KeepBut.trans ax60 hk (.inl rfl)); replace HB := Aside0.mk (hb); replace HI0 := Aside0.mk (hi); (try clear hb); (try clear hb2); (try clear hk); (try clear hi)) | (go_at_call 44; (with_reducible refine (spec_l1Cur_pick.calls g s0_0 t357 t358 3 t359 t360 t361 w0 _ ?side1 ?side2 A16.out).mono ?_); (case side1 => exact ax58); (case side2 => exact ax59); rintro e w30 ⟨rfl, hi, hb, hk⟩; replace HK := Aside0.mk (KeepBut.trans ax60 hk (.inl rfl)); replace HB := Aside0.mk (hb); replace HI0 := Aside0.mk (hi); (try clear hb); (try clear hb2); (try clear hk); (try clear hi)))
           repeat (go_quiet (first | (go_at_call 44; (with_reducible refine (spec_l1Cur_pick.calls g s0_0 s0_1 s0_2 (a1.size : Int) t353 t354 t355 w0 _ ?side1 ?side2 A8.out).mono ?_); (case side1 => exact ax58); (case side2 => exact ax59); rintro e w28 ⟨rfl, hi, hb, hk⟩; have n0_ := Aside0.mk (KeepBut.trans ax60 hk (.inl rfl)); have n1_ := Aside0.mk (hb); have n2_ := Aside0.mk (hi); clear HK; clear HB; clear HI0; have HK := n0_; have HB := n1_; have HI0 := n2_; clear n0_ n1_ n2_; (try clear hb); (try clear hb2); (try clear hk); (try clear hi)) | (go_at_call 44; (with_reducible refine (spec_l1Cur_pick.calls g s0_0 t354 t355 (a2.size : Int) t356 t357 t358 w0 _ ?side1 ?side2 A9.out).mono ?_); (case side1 => exact ax58); (case side2 => exact ax59); rintro e w29 ⟨rfl, hi, hb, hk⟩; have n0_ := Aside0.mk (KeepBut.trans ax60 hk (.inl rfl)); have n1_ := Aside0.mk (hb); have n2_ := Aside0.mk (hi); clear HK; clear HB; clear HI0; have HK := n0_; have HB := n1_; have HI0 := n2_; clear n0_ n1_ n2_; (try clear hb); (try clear hb2); (try clear hk); (try clear hi)) | (go_at_call 44; (with_reducible refine (spec_l1Cur_pick.calls g s0_0 t357 t358 3 t359 t360 t361 w0 _ ?side1 ?side2 A16.out).mono ?_); (case side1 => exact ax58); (case side2 => exact ax59); rintro e w30 ⟨rfl, hi, hb, hk⟩; have n0_ := Aside0.mk (KeepBut.trans ax60 hk (.inl rfl)); have n1_ := Aside0.mk (hb); have n2_ := Aside0.mk (hi); clear HK; clear HB; clear HI0; have HK := n0_; have HB := n1_; have HI0 := n2_; clear n0_ n1_ n2_; (try clear hb); (try clear hb2); (try clear hk); (try clear hi))); try go_wp2_with (first | (go_at_call 44; (with_reducible refine (spec_l1Cur_pick.calls g s0_0 s0_1 s0_2 (a1.size : Int) t353 t354 t355 w0 _ ?side1 ?side2 A8.out).mono ?_); (case side1 => exact ax58); (case side2 => exact ax59); rintro e w28 ⟨rfl, hi, hb, hk⟩; have n0_ := Aside0.mk (KeepBut.trans ax60 hk (.inl rfl)); have n1_ := Aside0.mk (hb); have n2_ := Aside0.mk (hi); clear HK; clear HB; clear HI0; have HK := n0_; have HB := n1_; have HI0 := n2_; clear n0_ n1_ n2_; (try clear hb); (try clear hb2); (try clear hk); (try clear hi)) | (go_at_call 44; (with_reducible refine (spec_l1Cur_pick.calls g s0_0 t354 t355 (a2.size : Int) t356 t357 t358 w0 _ ?side1 ?side2 A9.out).mono ?_); (case side1 => exact ax58); (case side2 => exact ax59); rintro e w29 ⟨rfl, hi, hb, hk⟩; have n0_ := Aside0.mk (KeepBut.trans ax60 hk (.inl rfl)); have n1_ := Aside0.mk (hb); have n2_ := Aside0.mk (hi); clear HK; clear HB; clear HI0; have HK := n0_; have HB := n1_; have HI0 := n2_; clear n0_ n1_ n2_; (try clear hb); (try clear hb2); (try clear hk); (try clear hi)) | (go_at_call 44; (with_reducible refine (spec_l1Cur_pick.calls g s0_0 t357 t358 3 t359 t360 t361 w0 _ ?side1 ?side2 A16.out).mono ?_); (case side1 => exact ax58); (case side2 => exact ax59); rintro e w30 ⟨rfl, hi, hb, hk⟩; have n0_ := Aside0.mk (KeepBut.trans ax60 hk (.inl rfl)); have n1_ := Aside0.mk (hb); have n2_ := Aside0.mk (hi); clear HK; clear HB; clear HI0; have HK := n0_; have HB := n1_; have HI0 := n2_; clear n0_ n1_ n2_; (try clear hb); (try clear hb2); (try clear hk); (try clear hi))))
           go_ret
           exact ⟨(by first | rfl | (simp [errW_none, errW_some] <;> rfl) | (simp only [← hjs12, ← hjs15, ← hjs20, ← hjs22, ← hjs25, ← hjs27]; first | rfl | (simp [errW_none, errW_some] <;> rfl)) | (simp [*, errW_none, errW_some] <;> rfl)), by repeat (first | (with_reducible first | exact HI0.out | apply IsS60.alloc | apply IsS60.drewN | apply IsS60.drew | apply IsS60.set_1 | apply IsS60.set_2) | exact HI0.out), by repeat (first | (with_reducible first | exact HB.out | apply below_alloc | apply pw_below_drewN | apply below_drew1 | refine below_set ?_ (IsS60.ge HI0.out)) | exact HB.out), by repeat (first | (with_reducible first | exact HK.out | apply KeepBut.set_ | apply keep_drewN | apply keep_drew | apply keep_alloc) | exact HK.out)⟩
          ·rw [if_neg c26] at H
           exact absurd H (by simp)
         ·rw [if_neg c21] at H
          exact absurd H (by simp)
        ·rw [if_neg c19] at H
         exact absurd H (by simp)
       ·rw [if_neg c18] at H
        exact absurd H (by simp)
      ·rw [if_neg c17] at H
       have c17b0 : (t359 == 0) = false := beq_eq_false_iff_ne.mpr c17
       have c17b1 : (t359 != 0) = true := bne_iff_ne.mpr c17
       by_cases c31 : t359 = 1
       ·rw [if_pos c31] at H
        have c31b0 : (t359 == 1) = true := beq_iff_eq.mpr c31
        have c31b1 : (t359 != 1) = false := bne_eq_false_iff_eq.mpr c31
        clear c31
        by_cases c32 : 0 ≤ t353
        ·rw [if_pos c32] at H
         have c32b0 := eq_true c32
         have c32b1 : decide (0 ≤ t353) = true := decide_eq_true c32
         clear c32
         by_cases c33 : t353 ≤ (a1.size : Int)
         ·rw [if_pos c33] at H
          have c33b0 := eq_true c33
          have c33b1 : decide (t353 ≤ (a1.size : Int)) = true := decide_eq_true c33
          clear c33
          obtain ⟨js34, hjs34⟩ : ∃ j_ : ByteArray, (a1.extract 0 (t353 : Int).toNat) = j_ := ⟨_, rfl⟩
          replace H : (if js34.size + js15.size ≤ 9223372036854775807 then (if 0 ≤ (wrap64 (t353 + 1)) then (if (wrap64 (t353 + 1)) ≤ (a1.size : Int) then (if (js34 ++ js15).size + (a1.extract ((wrap64 (t353 + 1)) : Int).toNat a1.size).size ≤ 9223372036854775807 then (some ((js34 ++ js15) ++ (a1.extract ((wrap64 (t353 + 1)) : Int).toNat a1.size), t360, t361)) else (none)) else (none)) else (none)) else (none)) = some (r1, r2, r3) := by first | (rw [hjs34] at H; exact H) | (simp only [hjs34] at H ⊢; exact H)
          by_cases c35 : js34.size + js15.size ≤ 9223372036854775807
          ·rw [if_pos c35] at H
           have c35b0 := eq_true c35
           have c35b1 : decide (js34.size + js15.size ≤ 9223372036854775807) = true := decide_eq_true c35
           try have c35b2 : (9223372036854775807 < js34.size + js15.size) = False := eq_false (Nat.not_lt.2 c35)
           clear c35
           obtain ⟨js36, hjs36⟩ : ∃ j_ : ByteArray, (js34 ++ js15) = j_ := ⟨_, rfl⟩
           replace H : (if 0 ≤ (wrap64 (t353 + 1)) then (if (wrap64 (t353 + 1)) ≤ (a1.size : Int) then (if js36.size + (a1.extract ((wrap64 (t353 + 1)) : Int).toNat a1.size).size ≤ 9223372036854775807 then (some (js36 ++ (a1.extract ((wrap64 (t353 + 1)) : Int).toNat a1.size), t360, t361)) else (none)) else (none)) else (none)) = some (r1, r2, r3) := by first | (rw [hjs36] at H; exact H) | (simp only [hjs36] at H ⊢; exact H)
           obtain ⟨ji37, hji37⟩ : ∃ j_ : Int, (wrap64 (t353 + 1)) = j_ := ⟨_, rfl⟩
           replace H : (if 0 ≤ (ji37) then (if (ji37) ≤ (a1.size : Int) then (if js36.size + (a1.extract ((ji37) : Int).toNat a1.size).size ≤ 9223372036854775807 then (some (js36 ++ (a1.extract ((ji37) : Int).toNat a1.size), t360, t361)) else (none)) else (none)) else (none)) = some (r1, r2, r3) := by first | (rw [hji37] at H; exact H) | (simp only [hji37] at H ⊢; exact H)
           (try rw [hji37] at A8)
           (try rw [hji37] at A9)
           (try rw [hji37] at A16)
           have hji37w : (IntKind.i64.wrap (t353 + 1)) = ji37 := (i64_w _).trans hji37
           by_cases c38 : 0 ≤ (ji37)
           ·rw [if_pos c38] at H
            have c38b0 := eq_true c38
            have c38b1 : decide (0 ≤ (ji37)) = true := decide_eq_true c38
            clear c38
            by_cases c39 : (ji37) ≤ (a1.size : Int)
            ·rw [if_pos c39] at H
             have c39b0 := eq_true c39
             have c39b1 : decide ((ji37) ≤ (a1.size : Int)) = true := decide_eq_true c39
             clear c39
             obtain ⟨js40, hjs40⟩ : ∃ j_ : ByteArray, (a1.extract ((ji37) : Int).toNat a1.size) = j_ := ⟨_, rfl⟩
             replace H : (if js36.size + js40.size ≤ 9223372036854775807 then (some (js36 ++ js40, t360, t361)) else (none)) = some (r1, r2, r3) := by first | (rw [hjs40] at H; exact H) | (simp only [hjs40] at H ⊢; exact H)
             by_cases c41 : js36.size + js40.size ≤ 9223372036854775807
             ·rw [if_pos c41] at H
              have c41b0 := eq_true c41
              have c41b1 : decide (js36.size + js40.size ≤ 9223372036854775807) = true := decide_eq_true c41
              try have c41b2 : (9223372036854775807 < js36.size + js40.size) = False := eq_false (Nat.not_lt.2 c41)
              clear c41
              obtain ⟨js42, hjs42⟩ : ∃ j_ : ByteArray, (js36 ++ js40) = j_ := ⟨_, rfl⟩
              replace H : (some (js42, t360, t361)) = some (r1, r2, r3) := by first | (rw [hjs42] at H; exact H) | (simp only [hjs42] at H ⊢; exact H)
              simp only [Option.some.injEq, Prod.mk.injEq] at H
              obtain ⟨rfl, rfl, rfl⟩ := H
              go_enter Tryd.func49, Tryd.ntmps49
              go_wp2_with (first | (go_at_call 44; (with_reducible refine (spec_l1Cur_pick.calls g s0_0 s0_1 s0_2 (a1.size : Int) t353 t354 t355 w0 _ ?side1 ?side2 A8.out).mono ?_); (case side1 => exact ax58); (case side2 => exact ax59); rintro e w43 ⟨rfl, hi, hb, hk⟩; replace HK := Aside0.mk (KeepBut.trans ax60 hk (.inl rfl)); replace HB := Aside0.mk (hb); replace HI0 := Aside0.mk (hi); (try clear hb); (try clear hb2); (try clear hk); (try clear hi)) | (go_at_call 44; (with_reducible refine (spec_l1Cur_pick.calls g s0_0 t354 t355 (a2.size : Int) t356 t357 t358 w0 _ ?side1 ?side2 A9.out).mono ?_); (case side1 => exact ax58); (case side2 => exact ax59); rintro e w44 ⟨rfl, hi, hb, hk⟩; replace HK := Aside0.mk (KeepBut.trans ax60 hk (.inl rfl)); replace HB := Aside0.mk (hb); replace HI0 := Aside0.mk (hi); (try clear hb); (try clear hb2); (try clear hk); (try clear hi)) | (go_at_call 44; (with_reducible refine (spec_l1Cur_pick.calls g s0_0 t357 t358 3 t359 t360 t361 w0 _ ?side1 ?side2 A16.out).mono ?_); (case side1 => exact ax58); (case side2 => exact ax59); rintro e w45 ⟨rfl, hi, hb, hk⟩; replace HK := Aside0.mk (KeepBut.trans ax60 hk (.inl rfl)); replace HB := Aside0.mk (hb); replace HI0 := Aside0.mk (hi); (try clear hb); (try clear hb2); (try clear hk); (try clear hi)))
              repeat (go_quiet (first | (go_at_call 44; (with_reducible refine (spec_l1Cur_pick.calls g s0_0 s0_1 s0_2 (a1.size : Int) t353 t354 t355 w0 _ ?side1 ?side2 A8.out).mono ?_); (case side1 => exact ax58); (case side2 => exact ax59); rintro e w43 ⟨rfl, hi, hb, hk⟩; have n0_ := Aside0.mk (KeepBut.trans ax60 hk (.inl rfl)); have n1_ := Aside0.mk (hb); have n2_ := Aside0.mk (hi); clear HK; clear HB; clear HI0; have HK := n0_; have HB := n1_; have HI0 := n2_; clear n0_ n1_ n2_; (try clear hb); (try clear hb2); (try clear hk); (try clear hi)) | (go_at_call 44; (with_reducible refine (spec_l1Cur_pick.calls g s0_0 t354 t355 (a2.size : Int) t356 t357 t358 w0 _ ?side1 ?side2 A9.out).mono ?_); (case side1 => exact ax58); (case side2 => exact ax59); rintro e w44 ⟨rfl, hi, hb, hk⟩; have n0_ := Aside0.mk (KeepBut.trans ax60 hk (.inl rfl)); have n1_ := Aside0.mk (hb); have n2_ := Aside0.mk (hi); clear HK; clear HB; clear HI0; have HK := n0_; have HB := n1_; have HI0 := n2_; clear n0_ n1_ n2_; (try clear hb); (try clear hb2); (try clear hk); (try clear hi)) | (go_at_call 44; (with_reducible refine (spec_l1Cur_pick.calls g s0_0 t357 t358 3 t359 t360 t361 w0 _ ?side1 ?side2 A16.out).mono ?_); (case side1 => exact ax58); (case side2 => exact ax59); rintro e w45 ⟨rfl, hi, hb, hk⟩; have n0_ := Aside0.mk (KeepBut.trans ax60 hk (.inl rfl)); have n1_ := Aside0.mk (hb); have n2_ := Aside0.mk (hi); clear HK; clear HB; clear HI0; have HK := n0_; have HB := n1_; have HI0 := n2_; clear n0_ n1_ n2_; (try clear hb); (try clear hb2); (try clear hk); (try clear hi))); try go_wp2_with (first | (go_at_call 44; (with_reducible refine (spec_l1Cur_pick.calls g s0_0 s0_1 s0_2 (a1.size : Int) t353 t354 t355 w0 _ ?side1 ?side2 A8.out).mono ?_); (case side1 => exact ax58); (case side2 => exact ax59); rintro e w43 ⟨rfl, hi, hb, hk⟩; have n0_ := Aside0.mk (KeepBut.trans ax60 hk (.inl rfl)); have n1_ := Aside0.mk (hb); have n2_ := Aside0.mk (hi); clear HK; clear HB; clear HI0; have HK := n0_; have HB := n1_; have HI0 := n2_; clear n0_ n1_ n2_; (try clear hb); (try clear hb2); (try clear hk); (try clear hi)) | (go_at_call 44; (with_reducible refine (spec_l1Cur_pick.calls g s0_0 t354 t355 (a2.size : Int) t356 t357 t358 w0 _ ?side1 ?side2 A9.out).mono ?_); (case side1 => exact ax58); (case side2 => exact ax59); rintro e w44 ⟨rfl, hi, hb, hk⟩; have n0_ := Aside0.mk (KeepBut.trans ax60 hk (.inl rfl)); have n1_ := Aside0.mk (hb); have n2_ := Aside0.mk (hi); clear HK; clear HB; clear HI0; have HK := n0_; have HB := n1_; have HI0 := n2_; clear n0_ n1_ n2_; (try clear hb); (try clear hb2); (try clear hk); (try clear hi)) | (go_at_call 44; (with_reducible refine (spec_l1Cur_pick.calls g s0_0 t357 t358 3 t359 t360 t361 w0 _ ?side1 ?side2 A16.out).mono ?_); (case side1 => exact ax58); (case side2 => exact ax59); rintro e w45 ⟨rfl, hi, hb, hk⟩; have n0_ := Aside0.mk (KeepBut.trans ax60 hk (.inl rfl)); have n1_ := Aside0.mk (hb); have n2_ := Aside0.mk (hi); clear HK; clear HB; clear HI0; have HK := n0_; have HB := n1_; have HI0 := n2_; clear n0_ n1_ n2_; (try clear hb); (try clear hb2); (try clear hk); (try clear hi))))
              go_ret
              exact ⟨(by first | rfl | (simp [errW_none, errW_some] <;> rfl) | (simp only [← hjs12, ← hjs15, ← hjs34, ← hjs36, ← hji37, ← hjs40, ← hjs42]; first | rfl | (simp [errW_none, errW_some] <;> rfl)) | (simp [*, errW_none, errW_some] <;> rfl)), by repeat (first | (with_reducible first | exact HI0.out | apply IsS60.alloc | apply IsS60.drewN | apply IsS60.drew | apply IsS60.set_1 | apply IsS60.set_2) | exact HI0.out), by repeat (first | (with_reducible first | exact HB.out | apply below_alloc | apply pw_below_drewN | apply below_drew1 | refine below_set ?_ (IsS60.ge HI0.out)) | exact HB.out), by repeat (first | (with_reducible first | exact HK.out | apply KeepBut.set_ | apply keep_drewN | apply keep_drew | apply keep_alloc) | exact HK.out)⟩
             ·rw [if_neg c41] at H
              exact absurd H (by simp)
            ·rw [if_neg c39] at H
             exact absurd H (by simp)
           ·rw [if_neg c38] at H
            exact absurd H (by simp)
          ·rw [if_neg c35] at H
           exact absurd H (by simp)
         ·rw [if_neg c33] at H
          exact absurd H (by simp)
        ·rw [if_neg c32] at H
         exact absurd H (by simp)
       ·rw [if_neg c31] at H
        have c31b0 : (t359 == 1) = false := beq_eq_false_iff_ne.mpr c31
        have c31b1 : (t359 != 1) = true := bne_iff_ne.mpr c31
        by_cases c46 : 0 ≤ t353
        ·rw [if_pos c46] at H
         have c46b0 := eq_true c46
         have c46b1 : decide (0 ≤ t353) = true := decide_eq_true c46
         clear c46
         by_cases c47 : t353 ≤ (a1.size : Int)
         ·rw [if_pos c47] at H
          have c47b0 := eq_true c47
          have c47b1 : decide (t353 ≤ (a1.size : Int)) = true := decide_eq_true c47
          clear c47
          obtain ⟨js48, hjs48⟩ : ∃ j_ : ByteArray, (a1.extract 0 (t353 : Int).toNat) = j_ := ⟨_, rfl⟩
          replace H : (if 0 ≤ (wrap64 (t353 + 1)) then (if (wrap64 (t353 + 1)) ≤ (a1.size : Int) then (if js48.size + (a1.extract ((wrap64 (t353 + 1)) : Int).toNat a1.size).size ≤ 9223372036854775807 then (some (js48 ++ (a1.extract ((wrap64 (t353 + 1)) : Int).toNat a1.size), t360, t361)) else (none)) else (none)) else (none)) = some (r1, r2, r3) := by first | (rw [hjs48] at H; exact H) | (simp only [hjs48] at H ⊢; exact H)
          obtain ⟨ji49, hji49⟩ : ∃ j_ : Int, (wrap64 (t353 + 1)) = j_ := ⟨_, rfl⟩
          replace H : (if 0 ≤ (ji49) then (if (ji49) ≤ (a1.size : Int) then (if js48.size + (a1.extract ((ji49) : Int).toNat a1.size).size ≤ 9223372036854775807 then (some (js48 ++ (a1.extract ((ji49) : Int).toNat a1.size), t360, t361)) else (none)) else (none)) else (none)) = some (r1, r2, r3) := by first | (rw [hji49] at H; exact H) | (simp only [hji49] at H ⊢; exact H)
          (try rw [hji49] at A8)
          (try rw [hji49] at A9)
          (try rw [hji49] at A16)
          have hji49w : (IntKind.i64.wrap (t353 + 1)) = ji49 := (i64_w _).trans hji49
          by_cases c50 : 0 ≤ (ji49)
          ·rw [if_pos c50] at H
           have c50b0 := eq_true c50
           have c50b1 : decide (0 ≤ (ji49)) = true := decide_eq_true c50
           clear c50
           by_cases c51 : (ji49) ≤ (a1.size : Int)
           ·rw [if_pos c51] at H
            have c51b0 := eq_true c51
            have c51b1 : decide ((ji49) ≤ (a1.size : Int)) = true := decide_eq_true c51
            clear c51
            obtain ⟨js52, hjs52⟩ : ∃ j_ : ByteArray, (a1.extract ((ji49) : Int).toNat a1.size) = j_ := ⟨_, rfl⟩
            replace H : (if js48.size + js52.size ≤ 9223372036854775807 then (some (js48 ++ js52, t360, t361)) else (none)) = some (r1, r2, r3) := by first | (rw [hjs52] at H; exact H) | (simp only [hjs52] at H ⊢; exact H)
            by_cases c53 : js48.size + js52.size ≤ 9223372036854775807
            ·rw [if_pos c53] at H
             have c53b0 := eq_true c53
             have c53b1 : decide (js48.size + js52.size ≤ 9223372036854775807) = true := decide_eq_true c53
             try have c53b2 : (9223372036854775807 < js48.size + js52.size) = False := eq_false (Nat.not_lt.2 c53)
             clear c53
             obtain ⟨js54, hjs54⟩ : ∃ j_ : ByteArray, (js48 ++ js52) = j_ := ⟨_, rfl⟩
             replace H : (some (js54, t360, t361)) = some (r1, r2, r3) := by first | (rw [hjs54] at H; exact H) | (simp only [hjs54] at H ⊢; exact H)
             simp only [Option.some.injEq, Prod.mk.injEq] at H
             obtain ⟨rfl, rfl, rfl⟩ := H
             go_enter Tryd.func49, Tryd.ntmps49
             go_wp2_with (first | (go_at_call 44; (with_reducible refine (spec_l1Cur_pick.calls g s0_0 s0_1 s0_2 (a1.size : Int) t353 t354 t355 w0 _ ?side1 ?side2 A8.out).mono ?_); (case side1 => exact ax58); (case side2 => exact ax59); rintro e w55 ⟨rfl, hi, hb, hk⟩; replace HK := Aside0.mk (KeepBut.trans ax60 hk (.inl rfl)); replace HB := Aside0.mk (hb); replace HI0 := Aside0.mk (hi); (try clear hb); (try clear hb2); (try clear hk); (try clear hi)) | (go_at_call 44; (with_reducible refine (spec_l1Cur_pick.calls g s0_0 t354 t355 (a2.size : Int) t356 t357 t358 w0 _ ?side1 ?side2 A9.out).mono ?_); (case side1 => exact ax58); (case side2 => exact ax59); rintro e w56 ⟨rfl, hi, hb, hk⟩; replace HK := Aside0.mk (KeepBut.trans ax60 hk (.inl rfl)); replace HB := Aside0.mk (hb); replace HI0 := Aside0.mk (hi); (try clear hb); (try clear hb2); (try clear hk); (try clear hi)) | (go_at_call 44; (with_reducible refine (spec_l1Cur_pick.calls g s0_0 t357 t358 3 t359 t360 t361 w0 _ ?side1 ?side2 A16.out).mono ?_); (case side1 => exact ax58); (case side2 => exact ax59); rintro e w57 ⟨rfl, hi, hb, hk⟩; replace HK := Aside0.mk (KeepBut.trans ax60 hk (.inl rfl)); replace HB := Aside0.mk (hb); replace HI0 := Aside0.mk (hi); (try clear hb); (try clear hb2); (try clear hk); (try clear hi)))
             repeat (go_quiet (first | (go_at_call 44; (with_reducible refine (spec_l1Cur_pick.calls g s0_0 s0_1 s0_2 (a1.size : Int) t353 t354 t355 w0 _ ?side1 ?side2 A8.out).mono ?_); (case side1 => exact ax58); (case side2 => exact ax59); rintro e w55 ⟨rfl, hi, hb, hk⟩; have n0_ := Aside0.mk (KeepBut.trans ax60 hk (.inl rfl)); have n1_ := Aside0.mk (hb); have n2_ := Aside0.mk (hi); clear HK; clear HB; clear HI0; have HK := n0_; have HB := n1_; have HI0 := n2_; clear n0_ n1_ n2_; (try clear hb); (try clear hb2); (try clear hk); (try clear hi)) | (go_at_call 44; (with_reducible refine (spec_l1Cur_pick.calls g s0_0 t354 t355 (a2.size : Int) t356 t357 t358 w0 _ ?side1 ?side2 A9.out).mono ?_); (case side1 => exact ax58); (case side2 => exact ax59); rintro e w56 ⟨rfl, hi, hb, hk⟩; have n0_ := Aside0.mk (KeepBut.trans ax60 hk (.inl rfl)); have n1_ := Aside0.mk (hb); have n2_ := Aside0.mk (hi); clear HK; clear HB; clear HI0; have HK := n0_; have HB := n1_; have HI0 := n2_; clear n0_ n1_ n2_; (try clear hb); (try clear hb2); (try clear hk); (try clear hi)) | (go_at_call 44; (with_reducible refine (spec_l1Cur_pick.calls g s0_0 t357 t358 3 t359 t360 t361 w0 _ ?side1 ?side2 A16.out).mono ?_); (case side1 => exact ax58); (case side2 => exact ax59); rintro e w57 ⟨rfl, hi, hb, hk⟩; have n0_ := Aside0.mk (KeepBut.trans ax60 hk (.inl rfl)); have n1_ := Aside0.mk (hb); have n2_ := Aside0.mk (hi); clear HK; clear HB; clear HI0; have HK := n0_; have HB := n1_; have HI0 := n2_; clear n0_ n1_ n2_; (try clear hb); (try clear hb2); (try clear hk); (try clear hi))); try go_wp2_with (first | (go_at_call 44; (with_reducible refine (spec_l1Cur_pick.calls g s0_0 s0_1 s0_2 (a1.size : Int) t353 t354 t355 w0 _ ?side1 ?side2 A8.out).mono ?_); (case side1 => exact ax58); (case side2 => exact ax59); rintro e w55 ⟨rfl, hi, hb, hk⟩; have n0_ := Aside0.mk (KeepBut.trans ax60 hk (.inl rfl)); have n1_ := Aside0.mk (hb); have n2_ := Aside0.mk (hi); clear HK; clear HB; clear HI0; have HK := n0_; have HB := n1_; have HI0 := n2_; clear n0_ n1_ n2_; (try clear hb); (try clear hb2); (try clear hk); (try clear hi)) | (go_at_call 44; (with_reducible refine (spec_l1Cur_pick.calls g s0_0 t354 t355 (a2.size : Int) t356 t357 t358 w0 _ ?side1 ?side2 A9.out).mono ?_); (case side1 => exact ax58); (case side2 => exact ax59); rintro e w56 ⟨rfl, hi, hb, hk⟩; have n0_ := Aside0.mk (KeepBut.trans ax60 hk (.inl rfl)); have n1_ := Aside0.mk (hb); have n2_ := Aside0.mk (hi); clear HK; clear HB; clear HI0; have HK := n0_; have HB := n1_; have HI0 := n2_; clear n0_ n1_ n2_; (try clear hb); (try clear hb2); (try clear hk); (try clear hi)) | (go_at_call 44; (with_reducible refine (spec_l1Cur_pick.calls g s0_0 t357 t358 3 t359 t360 t361 w0 _ ?side1 ?side2 A16.out).mono ?_); (case side1 => exact ax58); (case side2 => exact ax59); rintro e w57 ⟨rfl, hi, hb, hk⟩; have n0_ := Aside0.mk (KeepBut.trans ax60 hk (.inl rfl)); have n1_ := Aside0.mk (hb); have n2_ := Aside0.mk (hi); clear HK; clear HB; clear HI0; have HK := n0_; have HB := n1_; have HI0 := n2_; clear n0_ n1_ n2_; (try clear hb); (try clear hb2); (try clear hk); (try clear hi))))
             go_ret
             exact ⟨(by first | rfl | (simp [errW_none, errW_some] <;> rfl) | (simp only [← hjs12, ← hjs15, ← hjs48, ← hji49, ← hjs52, ← hjs54]; first | rfl | (simp [errW_none, errW_some] <;> rfl)) | (simp [*, errW_none, errW_some] <;> rfl)), by repeat (first | (with_reducible first | exact HI0.out | apply IsS60.alloc | apply IsS60.drewN | apply IsS60.drew | apply IsS60.set_1 | apply IsS60.set_2) | exact HI0.out), by repeat (first | (with_reducible first | exact HB.out | apply below_alloc | apply pw_below_drewN | apply below_drew1 | refine below_set ?_ (IsS60.ge HI0.out)) | exact HB.out), by repeat (first | (with_reducible first | exact HK.out | apply KeepBut.set_ | apply keep_drewN | apply keep_drew | apply keep_alloc) | exact HK.out)⟩
            ·rw [if_neg c53] at H
             exact absurd H (by simp)
           ·rw [if_neg c51] at H
            exact absurd H (by simp)
          ·rw [if_neg c50] at H
           exact absurd H (by simp)
         ·rw [if_neg c47] at H
          exact absurd H (by simp)
        ·rw [if_neg c46] at H
         exact absurd H (by simp)
     ·rw [if_neg c14] at H
      exact absurd H (by simp)
    ·exact ax1
   ·rw [if_neg c11] at H
    exact absurd H (by simp)
  ·rw [if_neg c10] at H
   exact absurd H (by simp)

/-! ### spec_l1Cur_anyLog: function 42 -/
def spec_l1Cur_anyLog.f (k : Nat) (s0_0 : List Int) (s0_1 : Int) (s0_2 : Int) : Option (ByteArray × ByteArray × Int × Int × Int) := (spec_l1Cur_log12.f k s0_0 s0_1 s0_2).bind fun bt363 => ((spec_l1Cur_pick.f s0_0 bt363.2.2.2.1 bt363.2.2.2.2 24).bind fun bt369 => (if bt369.1 = 0 then (some (bt363.1, bt363.2.1, wrap64 (bt363.2.2.1 + 1), bt369.2.1, bt369.2.2)) else (if bt369.1 = 1 then ((spec_l1Cur_spoilt.f s0_0 bt369.2.1 bt369.2.2 bt363.2.1 (⟨#[35, 64, 10, 48, 49]⟩ : ByteArray)).bind fun bt372 => (some (bt363.1, bt372.1, bt363.2.2.1, bt372.2.1, bt372.2.2))) else (if bt369.1 = 2 then (if bt363.1.size + bt363.2.1.size ≤ 9223372036854775807 then (some (bt363.1 ++ bt363.2.1, bt363.2.1, bt363.2.2.1, bt369.2.1, bt369.2.2)) else (none)) else (some (bt363.1, bt363.2.1, bt363.2.2.1, bt369.2.1, bt369.2.2))))))
theorem spec_l1Cur_anyLog.mono : ∀ a0 a1 a2 k, LeO (spec_l1Cur_anyLog.f k a0 a1 a2) (spec_l1Cur_anyLog.f (k + 1) a0 a1 a2) := by
 intro a0 a1 a2 k
 unfold spec_l1Cur_anyLog.f
 repeat' first | (with_reducible first | exact spec_l1Cur_log12.mono .. | exact LeO.refl _ | exact LeO.none _ | refine LeO.ite ?_ ?_ | refine LeO.bind ?_ (fun _ => ?_)) | exact spec_l1Cur_log12.mono .. | exact LeO.none _ | refine LeO.ite ?_ ?_ | refine LeO.bind ?_ (fun _ => ?_)
set_option maxHeartbeats 8000000 in
set_option maxRecDepth 100000 in
theorem spec_l1Cur_anyLog.calls (k : Nat) (g : Nat) (s0_0 : List Int) (s0_1 : Int) (s0_2 : Int) (r1 : ByteArray) (r2 : ByteArray) (r3 : Int) (r4 : Int) (r5 : Int) (w0 w : World) (hI : IsS60 w0 w g s0_0 s0_1 s0_2) (hB : Below w0.heap.size w0 w) (h : spec_l1Cur_anyLog.f k s0_0 s0_1 s0_2 = some (r1, r2, r3, r4, r5)) :
  Calls Tryd.prog 42 #[.pointer (some ⟨g, 0, none⟩)] w fun e w' => e = .returned (.agg #[.string r1, .string r2, .int .i64 r3]) ∧ IsS60 w0 w' g s0_0 r4 r5 ∧ Below w0.heap.size w0 w' ∧ KeepBut w w' g none := by
 have hu27 := Tryd.underlying27; have HI0 := Aside0.mk hI; have HK := Aside0.mk (KeepBut.refl w g none); have HL := Aside0.mk hB.size; clear hI; have HW0 := Aside0.mk hB.size; have HB := Aside0.mk hB; clear hB
 have H : ((spec_l1Cur_log12.f k s0_0 s0_1 s0_2).bind fun bt363 => ((spec_l1Cur_pick.f s0_0 bt363.2.2.2.1 bt363.2.2.2.2 24).bind fun bt369 => (if bt369.1 = 0 then (some (bt363.1, bt363.2.1, wrap64 (bt363.2.2.1 + 1), bt369.2.1, bt369.2.2)) else (if bt369.1 = 1 then ((spec_l1Cur_spoilt.f s0_0 bt369.2.1 bt369.2.2 bt363.2.1 (⟨#[35, 64, 10, 48, 49]⟩ : ByteArray)).bind fun bt372 => (some (bt363.1, bt372.1, bt363.2.2.1, bt372.2.1, bt372.2.2))) else (if bt369.1 = 2 then (if bt363.1.size + bt363.2.1.size ≤ 9223372036854775807 then (some (bt363.1 ++ bt363.2.1, bt363.2.1, bt363.2.2.1, bt369.2.1, bt369.2.2)) else (none)) else (some (bt363.1, bt363.2.1, bt363.2.2.1, bt369.2.1, bt369.2.2))))))) = some (r1, r2, r3, r4, r5) := h
 clear h
 obtain ⟨⟨t363, t364, t365, t366, t367⟩, A2, H⟩ := bs H
 obtain ⟨⟨t369, t370, t371⟩, A3, H⟩ := bs H
 by_cases c4 : t369 = 0
 ·rw [if_pos c4] at H
  have c4b0 : (t369 == 0) = true := beq_iff_eq.mpr c4
  have c4b1 : (t369 != 0) = false := bne_eq_false_iff_eq.mpr c4
  clear c4
  simp only [Option.some.injEq, Prod.mk.injEq] at H
  obtain ⟨rfl, rfl, rfl, rfl, rfl⟩ := H
  go_enter Tryd.func42, Tryd.ntmps42
  go_wp2_with (first | ((with_reducible refine gate_dst (N := 2) rfl ?_); refine box_event ?hg (N := 2) ?hd (cs := #[.string (⟨#[]⟩ : ByteArray), .string (⟨#[]⟩ : ByteArray), .int .i64 0]) (t := 27) ?hr ?_; (case hd => rfl); (case hg => rfl); (case hr => exact ax9); intro gb362 hg w5 hbox hb; replace HB := Aside0.mk (below_step ax59 hb); have BK362 := Aside0.mk (hbox); have GW362 := Aside0.mk ((ax61 : w.heap.size ≤ gb362)); have GE362 := Aside0.mk ((Nat.le_trans HW0.out (ax61 : w.heap.size ≤ gb362) : w0.heap.size ≤ gb362)); replace HK := Aside0.mk (KeepBut.trans ax60 (KeepBut.of_below hb g none) (.inl rfl)); have NB0_362 := Aside0.mk ((ax62 : g ≠ gb362)); have NB362_0 := Aside0.mk ((ax63 : gb362 ≠ g)); replace HI0 := Aside0.mk (IsS60.below ax58 hb); clear hb hbox hg) | (refine gd 5 48 ?_; refine gc 5 Tryd.func48 #[.pointer (some ⟨g, 0, none⟩)] (spec_l1Cur_log12.calls k g s0_0 s0_1 s0_2 t363 t364 t365 t366 t367 w0 _ ax107 ax108 A2.out) ?_; rintro e w6 ⟨rfl, hi, hb, hk⟩; refine ⟨_, rfl, ?_⟩; replace BK362 := Aside0.mk (KeepBut.blk hk (g' := gb362) (o := .cells #[.string (⟨#[]⟩ : ByteArray), .string (⟨#[]⟩ : ByteArray), .int .i64 0] 27 (0, 0)) ax109 NB362_0.out (by simp)); replace HK := Aside0.mk (KeepBut.trans ax110 hk (.inl rfl)); replace HB := Aside0.mk (hb); replace HI0 := Aside0.mk (hi); (try clear hb); (try clear hb2); (try clear hk); (try clear hi)) | ((with_reducible refine gate_dst (N := 3) rfl ?_); refine box_event ?hg (N := 3) ?hd (cs := #[.string (⟨#[]⟩ : ByteArray), .string (⟨#[]⟩ : ByteArray), .int .i64 0]) (t := 27) ?hr ?_; (case hd => rfl); (case hg => rfl); (case hr => exact ax9); intro gb368 hg w7 hbox hb; replace HB := Aside0.mk (below_step ax108 hb); have BK368 := Aside0.mk (hbox); have GW368 := Aside0.mk ((ax111 : w.heap.size ≤ gb368)); have GE368 := Aside0.mk ((Nat.le_trans HW0.out (ax111 : w.heap.size ≤ gb368) : w0.heap.size ≤ gb368)); replace HK := Aside0.mk (KeepBut.trans ax110 (KeepBut.of_below hb g none) (.inl rfl)); have NB362_368 := uN hg BK362; have NB368_362 := uM hg BK362; replace BK362 := ub BK362 hb; have NB0_368 := Aside0.mk ((ax112 : g ≠ gb368)); have NB368_0 := Aside0.mk ((ax113 : gb368 ≠ g)); replace HI0 := Aside0.mk (IsS60.below ax107 hb); clear hb hbox hg; have hnb8 := NB368_362.out; have hnc8 := NB362_368.out; have hnb9 := NB368_0.out; have hnc9 := NB0_368.out; have hcz10_0 := bc (.string (⟨#[]⟩ : ByteArray)) BK368 0; have hcz10_1 := bc (.string (⟨#[]⟩ : ByteArray)) BK368 1; have hcz10_2 := bc (.int .i64 0) BK368 2; have hfz10_0 := blk_frozen BK368.out 0; have hfz10_1 := blk_frozen BK368.out 1; have hfz10_2 := blk_frozen BK368.out 2) | (refine gd 7 44 ?_; refine gc 7 Tryd.func44 #[.pointer (some ⟨g, 0, none⟩), .int .i64 24] (spec_l1Cur_pick.calls g s0_0 t366 t367 24 t369 t370 t371 w0 _ ax114 ax115 A3.out) ?_; rintro e w11 ⟨rfl, hi, hb, hk⟩; refine ⟨_, rfl, ?_⟩; replace BK362 := Aside0.mk (KeepBut.blk hk (g' := gb362) (o := .cells #[.string (⟨#[]⟩ : ByteArray), .string (⟨#[]⟩ : ByteArray), .int .i64 0] 27 (0, 0)) ax116 NB362_0.out (by simp)); replace BK368 := Aside0.mk (KeepBut.blk hk (g' := gb368) (o := .cells #[.string t363, .string t364, .int .i64 t365] 27 (0, 0)) ax117 NB368_0.out (by simp)); replace HK := Aside0.mk (KeepBut.trans ax118 hk (.inl rfl)); replace HB := Aside0.mk (hb); replace HI0 := Aside0.mk (hi); (try clear hb); (try clear hb2); (try clear hk); (try clear hi); have hcz12_0 := bc (.string t363) BK368 0; have hcz12_1 := bc (.string t364) BK368 1; have hcz12_2 := bc (.int .i64 t365) BK368 2; have hfz12_0 := blk_frozen BK368.out 0; have hfz12_1 := blk_frozen BK368.out 1; have hfz12_2 := blk_frozen BK368.out 2; have hnb13 := NB362_0.out; have hnc13 := NB0_362.out; have hcz14_0 := bc (.string (⟨#[]⟩ : ByteArray)) BK362 0; have hcz14_1 := bc (.string (⟨#[]⟩ : ByteArray)) BK362 1; have hcz14_2 := bc (.int .i64 0) BK362 2; have hfz14_0 := blk_frozen BK362.out 0; have hfz14_1 := blk_frozen BK362.out 1; have hfz14_2 := blk_frozen BK362.out 2))
  refine bodyPost_ret (results_cell_row rfl _ _ gb362 27 #[.string t363, .string t364, .int .i64 (wrap64 (t365 + 1))] (0, 0) _ rfl (by (with_reducible repeat (first | refine blk_drewN ?_ _ | refine blk_drew ?_ | refine blk_alloc ?_ _)); refine blk_put (cs := #[.string t363, .string t364, .int .i64 0]) ?_ 2 _ rfl; (with_reducible repeat (first | refine blk_drewN ?_ _ | refine blk_drew ?_ | refine blk_alloc ?_ _)); refine blk_put (cs := #[.string t363, .string (⟨#[]⟩ : ByteArray), .int .i64 0]) ?_ 1 _ rfl; (with_reducible repeat (first | refine blk_drewN ?_ _ | refine blk_drew ?_ | refine blk_alloc ?_ _)); refine blk_put (cs := #[.string (⟨#[]⟩ : ByteArray), .string (⟨#[]⟩ : ByteArray), .int .i64 0]) ?_ 0 _ rfl; (with_reducible repeat (first | refine blk_drewN ?_ _ | refine blk_drew ?_ | refine blk_alloc ?_ _)); refine blk_far ?_ NB362_368.out _; (with_reducible repeat (first | refine blk_drewN ?_ _ | refine blk_drew ?_ | refine blk_alloc ?_ _)); exact BK362.out) Tryd.underlying27 rfl (by kernel_rfl)) rfl ?_
  exact ⟨ax18, by repeat (first | (with_reducible first | exact HI0.out | apply IsS60.alloc | apply IsS60.drewN | apply IsS60.drew | apply IsS60.set_1 | apply IsS60.set_2 | refine IsS60.far ?_ NB0_362.out _ | refine IsS60.far ?_ NB0_368.out _) | exact HI0.out), by repeat (first | (with_reducible first | exact HB.out | apply below_alloc | apply pw_below_drewN | apply below_drew1 | refine below_set ?_ (IsS60.ge HI0.out) | refine below_set ?_ GE362.out | refine below_set ?_ GE368.out) | exact HB.out), by repeat (first | (with_reducible first | exact HK.out | apply KeepBut.set_ | apply keep_drewN | apply keep_drew | apply keep_alloc | refine keep_far ?_ GW362.out _ | refine keep_far ?_ GW368.out _) | exact HK.out)⟩
 ·rw [if_neg c4] at H
  have c4b0 : (t369 == 0) = false := beq_eq_false_iff_ne.mpr c4
  have c4b1 : (t369 != 0) = true := bne_iff_ne.mpr c4
  by_cases c15 : t369 = 1
  ·rw [if_pos c15] at H
   have c15b0 : (t369 == 1) = true := beq_iff_eq.mpr c15
   have c15b1 : (t369 != 1) = false := bne_eq_false_iff_eq.mpr c15
   clear c15
   obtain ⟨⟨t372, t373, t374⟩, A16, H⟩ := bs H
   simp only [Option.some.injEq, Prod.mk.injEq] at H
   obtain ⟨rfl, rfl, rfl, rfl, rfl⟩ := H
   go_enter Tryd.func42, Tryd.ntmps42
   go_wp2_with (first | ((with_reducible refine gate_dst (N := 2) rfl ?_); refine box_event ?hg (N := 2) ?hd (cs := #[.string (⟨#[]⟩ : ByteArray), .string (⟨#[]⟩ : ByteArray), .int .i64 0]) (t := 27) ?hr ?_; (case hd => rfl); (case hg => rfl); (case hr => exact ax9); intro gb362 hg w17 hbox hb; replace HB := Aside0.mk (below_step ax59 hb); have BK362 := Aside0.mk (hbox); have GW362 := Aside0.mk ((ax61 : w.heap.size ≤ gb362)); have GE362 := Aside0.mk ((Nat.le_trans HW0.out (ax61 : w.heap.size ≤ gb362) : w0.heap.size ≤ gb362)); replace HK := Aside0.mk (KeepBut.trans ax60 (KeepBut.of_below hb g none) (.inl rfl)); have NB0_362 := Aside0.mk ((ax62 : g ≠ gb362)); have NB362_0 := Aside0.mk ((ax63 : gb362 ≠ g)); replace HI0 := Aside0.mk (IsS60.below ax58 hb); clear hb hbox hg) | (refine gd 5 48 ?_; refine gc 5 Tryd.func48 #[.pointer (some ⟨g, 0, none⟩)] (spec_l1Cur_log12.calls k g s0_0 s0_1 s0_2 t363 t364 t365 t366 t367 w0 _ ax107 ax108 A2.out) ?_; rintro e w18 ⟨rfl, hi, hb, hk⟩; refine ⟨_, rfl, ?_⟩; replace BK362 := Aside0.mk (KeepBut.blk hk (g' := gb362) (o := .cells #[.string (⟨#[]⟩ : ByteArray), .string (⟨#[]⟩ : ByteArray), .int .i64 0] 27 (0, 0)) ax109 NB362_0.out (by simp)); replace HK := Aside0.mk (KeepBut.trans ax110 hk (.inl rfl)); replace HB := Aside0.mk (hb); replace HI0 := Aside0.mk (hi); (try clear hb); (try clear hb2); (try clear hk); (try clear hi)) | ((with_reducible refine gate_dst (N := 3) rfl ?_); refine box_event ?hg (N := 3) ?hd (cs := #[.string (⟨#[]⟩ : ByteArray), .string (⟨#[]⟩ : ByteArray), .int .i64 0]) (t := 27) ?hr ?_; (case hd => rfl); (case hg => rfl); (case hr => exact ax9); intro gb368 hg w19 hbox hb; replace HB := Aside0.mk (below_step ax108 hb); have BK368 := Aside0.mk (hbox); have GW368 := Aside0.mk ((ax111 : w.heap.size ≤ gb368)); have GE368 := Aside0.mk ((Nat.le_trans HW0.out (ax111 : w.heap.size ≤ gb368) : w0.heap.size ≤ gb368)); replace HK := Aside0.mk (KeepBut.trans ax110 (KeepBut.of_below hb g none) (.inl rfl)); have NB362_368 := uN hg BK362; have NB368_362 := uM hg BK362; replace BK362 := ub BK362 hb; have NB0_368 := Aside0.mk ((ax112 : g ≠ gb368)); have NB368_0 := Aside0.mk ((ax113 : gb368 ≠ g)); replace HI0 := Aside0.mk (IsS60.below ax107 hb); clear hb hbox hg; have hnb20 := NB368_362.out; have hnc20 := NB362_368.out; have hnb21 := NB368_0.out; have hnc21 := NB0_368.out; have hcz22_0 := bc (.string (⟨#[]⟩ : ByteArray)) BK368 0; have hcz22_1 := bc (.string (⟨#[]⟩ : ByteArray)) BK368 1; have hcz22_2 := bc (.int .i64 0) BK368 2; have hfz22_0 := blk_frozen BK368.out 0; have hfz22_1 := blk_frozen BK368.out 1; have hfz22_2 := blk_frozen BK368.out 2) | (refine gd 7 44 ?_; refine gc 7 Tryd.func44 #[.pointer (some ⟨g, 0, none⟩), .int .i64 24] (spec_l1Cur_pick.calls g s0_0 t366 t367 24 t369 t370 t371 w0 _ ax114 ax115 A3.out) ?_; rintro e w23 ⟨rfl, hi, hb, hk⟩; refine ⟨_, rfl, ?_⟩; replace BK362 := Aside0.mk (KeepBut.blk hk (g' := gb362) (o := .cells #[.string (⟨#[]⟩ : ByteArray), .string (⟨#[]⟩ : ByteArray), .int .i64 0] 27 (0, 0)) ax116 NB362_0.out (by simp)); replace BK368 := Aside0.mk (KeepBut.blk hk (g' := gb368) (o := .cells #[.string t363, .string t364, .int .i64 t365] 27 (0, 0)) ax117 NB368_0.out (by simp)); replace HK := Aside0.mk (KeepBut.trans ax118 hk (.inl rfl)); replace HB := Aside0.mk (hb); replace HI0 := Aside0.mk (hi); (try clear hb); (try clear hb2); (try clear hk); (try clear hi); have hcz24_0 := bc (.string t363) BK368 0; have hcz24_1 := bc (.string t364) BK368 1; have hcz24_2 := bc (.int .i64 t365) BK368 2; have hfz24_0 := blk_frozen BK368.out 0; have hfz24_1 := blk_frozen BK368.out 1; have hfz24_2 := blk_frozen BK368.out 2) | (refine gd 19 49 ?_; refine gc 19 Tryd.func49 #[.pointer (some ⟨g, 0, none⟩), .string t364, .string (⟨#[35, 64, 10, 48, 49]⟩ : ByteArray)] (spec_l1Cur_spoilt.calls g s0_0 t370 t371 t364 (⟨#[35, 64, 10, 48, 49]⟩ : ByteArray) t372 t373 t374 w0 _ ax114 ax115 A16.out) ?_; rintro e w25 ⟨rfl, hi, hb, hk⟩; refine ⟨_, rfl, ?_⟩; replace BK362 := Aside0.mk (KeepBut.blk hk (g' := gb362) (o := .cells #[.string (⟨#[]⟩ : ByteArray), .string (⟨#[]⟩ : ByteArray), .int .i64 0] 27 (0, 0)) ax109 NB362_0.out (by simp)); replace BK368 := Aside0.mk (KeepBut.blk hk (g' := gb368) (o := .cells #[.string t363, .string t364, .int .i64 t365] 27 (0, 0)) (by (with_reducible repeat (first | refine blk_drewN ?_ _ | refine blk_drew ?_ | refine blk_alloc ?_ _)); exact BK368.out) NB368_0.out (by simp)); replace HK := Aside0.mk (KeepBut.trans ax118 hk (.inl rfl)); replace HB := Aside0.mk (hb); replace HI0 := Aside0.mk (hi); (try clear hb); (try clear hb2); (try clear hk); (try clear hi); have hcz26_0 := bc (.string t363) BK368 0; have hcz26_1 := bc (.string t364) BK368 1; have hcz26_2 := bc (.int .i64 t365) BK368 2; have hfz26_0 := blk_frozen BK368.out 0; have hfz26_1 := blk_frozen BK368.out 1; have hfz26_2 := blk_frozen BK368.out 2; have hnb27 := NB362_0.out; have hnc27 := NB0_362.out; have hcz28_0 := bc (.string (⟨#[]⟩ : ByteArray)) BK362 0; have hcz28_1 := bc (.string (⟨#[]⟩ : ByteArray)) BK362 1; have hcz28_2 := bc (.int .i64 0) BK362 2; have hfz28_0 := blk_frozen BK362.out 0; have hfz28_1 := blk_frozen BK362.out 1; have hfz28_2 := blk_frozen BK362.out 2))
   refine bodyPost_ret (results_cell_row rfl _ _ gb362 27 #[.string t363, .string t372, .int .i64 t365] (0, 0) _ rfl (by (with_reducible repeat (first | refine blk_drewN ?_ _ | refine blk_drew ?_ | refine blk_alloc ?_ _)); refine blk_put (cs := #[.string t363, .string t372, .int .i64 0]) ?_ 2 _ rfl; (with_reducible repeat (first | refine blk_drewN ?_ _ | refine blk_drew ?_ | refine blk_alloc ?_ _)); refine blk_put (cs := #[.string t363, .string (⟨#[]⟩ : ByteArray), .int .i64 0]) ?_ 1 _ rfl; (with_reducible repeat (first | refine blk_drewN ?_ _ | refine blk_drew ?_ | refine blk_alloc ?_ _)); refine blk_put (cs := #[.string (⟨#[]⟩ : ByteArray), .string (⟨#[]⟩ : ByteArray), .int .i64 0]) ?_ 0 _ rfl; (with_reducible repeat (first | refine blk_drewN ?_ _ | refine blk_drew ?_ | refine blk_alloc ?_ _)); refine blk_far ?_ NB362_368.out _; (with_reducible repeat (first | refine blk_drewN ?_ _ | refine blk_drew ?_ | refine blk_alloc ?_ _)); exact BK362.out) Tryd.underlying27 rfl (by kernel_rfl)) rfl ?_
   exact ⟨ax18, by repeat (first | (with_reducible first | exact HI0.out | apply IsS60.alloc | apply IsS60.drewN | apply IsS60.drew | apply IsS60.set_1 | apply IsS60.set_2 | refine IsS60.far ?_ NB0_362.out _ | refine IsS60.far ?_ NB0_368.out _) | exact HI0.out), by repeat (first | (with_reducible first | exact HB.out | apply below_alloc | apply pw_below_drewN | apply below_drew1 | refine below_set ?_ (IsS60.ge HI0.out) | refine below_set ?_ GE362.out | refine below_set ?_ GE368.out) | exact HB.out), by repeat (first | (with_reducible first | exact HK.out | apply KeepBut.set_ | apply keep_drewN | apply keep_drew | apply keep_alloc | refine keep_far ?_ GW362.out _ | refine keep_far ?_ GW368.out _) | exact HK.out)⟩
  ·rw [if_neg c15] at H
   have c15b0 : (t369 == 1) = false := beq_eq_false_iff_ne.mpr c15
   have c15b1 : (t369 != 1) = true := bne_iff_ne.mpr c15
   by_cases c29 : t369 = 2
   ·rw [if_pos c29] at H
    have c29b0 : (t369 == 2) = true := beq_iff_eq.mpr c29
    have c29b1 : (t369 != 2) = false := bne_eq_false_iff_eq.mpr c29
    clear c29
    by_cases c30 : t363.size + t364.size ≤ 9223372036854775807
    ·rw [if_pos c30] at H
     have c30b0 := eq_true c30
     have c30b1 : decide (t363.size + t364.size ≤ 9223372036854775807) = true := decide_eq_true c30
     try have c30b2 : (9223372036854775807 < t363.size + t364.size) = False := eq_false (Nat.not_lt.2 c30)
     clear c30
     obtain ⟨js31, hjs31⟩ : ∃ j_ : ByteArray, (t363 ++ t364) = j_ := ⟨_, rfl⟩
     replace H : (some (js31, t364, t365, t370, t371)) = some (r1, r2, r3, r4, r5) := by first | (rw [hjs31] at H; exact H) | (simp only [hjs31] at H ⊢; exact H)
     simp only [Option.some.injEq, Prod.mk.injEq] at H
     obtain ⟨rfl, rfl, rfl, rfl, rfl⟩ := H
     go_enter Tryd.func42, Tryd.ntmps42
     go_wp2_with (first | ((with_reducible refine gate_dst (N := 2) rfl ?_); refine box_event ?hg (N := 2) ?hd (cs := #[.string (⟨#[]⟩ : ByteArray), .string (⟨#[]⟩ : ByteArray), .int .i64 0]) (t := 27) ?hr ?_; (case hd => rfl); (case hg => rfl); (case hr => exact ax9); intro gb362 hg w32 hbox hb; replace HB := Aside0.mk (below_step ax59 hb); have BK362 := Aside0.mk (hbox); have GW362 := Aside0.mk ((ax61 : w.heap.size ≤ gb362)); have GE362 := Aside0.mk ((Nat.le_trans HW0.out (ax61 : w.heap.size ≤ gb362) : w0.heap.size ≤ gb362)); replace HK := Aside0.mk (KeepBut.trans ax60 (KeepBut.of_below hb g none) (.inl rfl)); have NB0_362 := Aside0.mk ((ax62 : g ≠ gb362)); have NB362_0 := Aside0.mk ((ax63 : gb362 ≠ g)); replace HI0 := Aside0.mk (IsS60.below ax58 hb); clear hb hbox hg) | (refine gd 5 48 ?_; refine gc 5 Tryd.func48 #[.pointer (some ⟨g, 0, none⟩)] (spec_l1Cur_log12.calls k g s0_0 s0_1 s0_2 t363 t364 t365 t366 t367 w0 _ ax107 ax108 A2.out) ?_; rintro e w33 ⟨rfl, hi, hb, hk⟩; refine ⟨_, rfl, ?_⟩; replace BK362 := Aside0.mk (KeepBut.blk hk (g' := gb362) (o := .cells #[.string (⟨#[]⟩ : ByteArray), .string (⟨#[]⟩ : ByteArray), .int .i64 0] 27 (0, 0)) ax109 NB362_0.out (by simp)); replace HK := Aside0.mk (KeepBut.trans ax110 hk (.inl rfl)); replace HB := Aside0.mk (hb); replace HI0 := Aside0.mk (hi); (try clear hb); (try clear hb2); (try clear hk); (try clear hi)) | ((with_reducible refine gate_dst (N := 3) rfl ?_); refine box_event ?hg (N := 3) ?hd (cs := #[.string (⟨#[]⟩ : ByteArray), .string (⟨#[]⟩ : ByteArray), .int .i64 0]) (t := 27) ?hr ?_; (case hd => rfl); (case hg => rfl); (case hr => exact ax9); intro gb368 hg w34 hbox hb; replace HB := Aside0.mk (below_step ax108 hb); have BK368 := Aside0.mk (hbox); have GW368 := Aside0.mk ((ax111 : w.heap.size ≤ gb368)); have GE368 := Aside0.mk ((Nat.le_trans HW0.out (ax111 : w.heap.size ≤ gb368) : w0.heap.size ≤ gb368)); replace HK := Aside0.mk (KeepBut.trans ax110 (KeepBut.of_below hb g none) (.inl rfl)); have NB362_368 := uN hg BK362; have NB368_362 := uM hg BK362; replace BK362 := ub BK362 hb; have NB0_368 := Aside0.mk ((ax112 : g ≠ gb368)); have NB368_0 := Aside0.mk ((ax113 : gb368 ≠ g)); replace HI0 := Aside0.mk (IsS60.below ax107 hb); clear hb hbox hg; have hnb35 := NB368_362.out; have hnc35 := NB362_368.out; have hnb36 := NB368_0.out; have hnc36 := NB0_368.out; have hcz37_0 := bc (.string (⟨#[]⟩ : ByteArray)) BK368 0; have hcz37_1 := bc (.string (⟨#[]⟩ : ByteArray)) BK368 1; have hcz37_2 := bc (.int .i64 0) BK368 2; have hfz37_0 := blk_frozen BK368.out 0; have hfz37_1 := blk_frozen BK368.out 1; have hfz37_2 := blk_frozen BK368.out 2) | (refine gd 7 44 ?_; refine gc 7 Tryd.func44 #[.pointer (some ⟨g, 0, none⟩), .int .i64 24] (spec_l1Cur_pick.calls g s0_0 t366 t367 24 t369 t370 t371 w0 _ ax114 ax115 A3.out) ?_; rintro e w38 ⟨rfl, hi, hb, hk⟩; refine ⟨_, rfl, ?_⟩; replace BK362 := Aside0.mk (KeepBut.blk hk (g' := gb362) (o := .cells #[.string (⟨#[]⟩ : ByteArray), .string (⟨#[]⟩ : ByteArray), .int .i64 0] 27 (0, 0)) ax116 NB362_0.out (by simp)); replace BK368 := Aside0.mk (KeepBut.blk hk (g' := gb368) (o := .cells #[.string t363, .string t364, .int .i64 t365] 27 (0, 0)) ax117 NB368_0.out (by simp)); replace HK := Aside0.mk (KeepBut.trans ax118 hk (.inl rfl)); replace HB := Aside0.mk (hb); replace HI0 := Aside0.mk (hi); (try clear hb); (try clear hb2); (try clear hk); (try clear hi); have hcz39_0 := bc (.string t363) BK368 0; have hcz39_1 := bc (.string t364) BK368 1; have hcz39_2 := bc (.int .i64 t365) BK368 2; have hfz39_0 := blk_frozen BK368.out 0; have hfz39_1 := blk_frozen BK368.out 1; have hfz39_2 := blk_frozen BK368.out 2; have hnb40 := NB362_0.out; have hnc40 := NB0_362.out; have hcz41_0 := bc (.string (⟨#[]⟩ : ByteArray)) BK362 0; have hcz41_1 := bc (.string (⟨#[]⟩ : ByteArray)) BK362 1; have hcz41_2 := bc (.int .i64 0) BK362 2; have hfz41_0 := blk_frozen BK362.out 0; have hfz41_1 := blk_frozen BK362.out 1; have hfz41_2 := blk_frozen BK362.out 2))
     refine bodyPost_ret (results_cell_row rfl _ _ gb362 27 #[.string js31, .string t364, .int .i64 t365] (0, 0) _ rfl (by (with_reducible repeat (first | refine blk_drewN ?_ _ | refine blk_drew ?_ | refine blk_alloc ?_ _)); refine blk_put (cs := #[.string js31, .string t364, .int .i64 0]) ?_ 2 _ rfl; (with_reducible repeat (first | refine blk_drewN ?_ _ | refine blk_drew ?_ | refine blk_alloc ?_ _)); refine blk_put (cs := #[.string js31, .string (⟨#[]⟩ : ByteArray), .int .i64 0]) ?_ 1 _ rfl; (with_reducible repeat (first | refine blk_drewN ?_ _ | refine blk_drew ?_ | refine blk_alloc ?_ _)); refine blk_put (cs := #[.string (⟨#[]⟩ : ByteArray), .string (⟨#[]⟩ : ByteArray), .int .i64 0]) ?_ 0 _ rfl; (with_reducible repeat (first | refine blk_drewN ?_ _ | refine blk_drew ?_ | refine blk_alloc ?_ _)); refine blk_far ?_ NB362_368.out _; (with_reducible repeat (first | refine blk_drewN ?_ _ | refine blk_drew ?_ | refine blk_alloc ?_ _)); exact BK362.out) Tryd.underlying27 rfl (by kernel_rfl)) rfl ?_
     exact ⟨(by first | rfl | (simp [errW_none, errW_some] <;> rfl) | (simp only [← hjs31]; first | rfl | (simp [errW_none, errW_some] <;> rfl)) | (simp [*, errW_none, errW_some] <;> rfl)), by repeat (first | (with_reducible first | exact HI0.out | apply IsS60.alloc | apply IsS60.drewN | apply IsS60.drew | apply IsS60.set_1 | apply IsS60.set_2 | refine IsS60.far ?_ NB0_362.out _ | refine IsS60.far ?_ NB0_368.out _) | exact HI0.out), by repeat (first | (with_reducible first | exact HB.out | apply below_alloc | apply pw_below_drewN | apply below_drew1 | refine below_set ?_ (IsS60.ge HI0.out) | refine below_set ?_ GE362.out | refine below_set ?_ GE368.out) | exact HB.out), by repeat (first | (with_reducible first | exact HK.out | apply KeepBut.set_ | apply keep_drewN | apply keep_drew | apply keep_alloc | refine keep_far ?_ GW362.out _ | refine keep_far ?_ GW368.out _) | exact HK.out)⟩
    ·rw [if_neg c30] at H
     exact absurd H (by simp)
   ·rw [if_neg c29] at H
    have c29b0 : (t369 == 2) = false := beq_eq_false_iff_ne.mpr c29
    have c29b1 : (t369 != 2) = true := bne_iff_ne.mpr c29
    simp only [Option.some.injEq, Prod.mk.injEq] at H
    obtain ⟨rfl, rfl, rfl, rfl, rfl⟩ := H
    go_enter Tryd.func42, Tryd.ntmps42
    go_wp2_with (first | ((with_reducible refine gate_dst (N := 2) rfl ?_); refine box_event ?hg (N := 2) ?hd (cs := #[.string (⟨#[]⟩ : ByteArray), .string (⟨#[]⟩ : ByteArray), .int .i64 0]) (t := 27) ?hr ?_; (case hd => rfl); (case hg => rfl); (case hr => exact ax9); intro gb362 hg w42 hbox hb; replace HB := Aside0.mk (below_step ax59 hb); have BK362 := Aside0.mk (hbox); have GW362 := Aside0.mk ((ax61 : w.heap.size ≤ gb362)); have GE362 := Aside0.mk ((Nat.le_trans HW0.out (ax61 : w.heap.size ≤ gb362) : w0.heap.size ≤ gb362)); replace HK := Aside0.mk (KeepBut.trans ax60 (KeepBut.of_below hb g none) (.inl rfl)); have NB0_362 := Aside0.mk ((ax62 : g ≠ gb362)); have NB362_0 := Aside0.mk ((ax63 : gb362 ≠ g)); replace HI0 := Aside0.mk (IsS60.below ax58 hb); clear hb hbox hg) | (refine gd 5 48 ?_; refine gc 5 Tryd.func48 #[.pointer (some ⟨g, 0, none⟩)] (spec_l1Cur_log12.calls k g s0_0 s0_1 s0_2 t363 t364 t365 t366 t367 w0 _ ax107 ax108 A2.out) ?_; rintro e w43 ⟨rfl, hi, hb, hk⟩; refine ⟨_, rfl, ?_⟩; replace BK362 := Aside0.mk (KeepBut.blk hk (g' := gb362) (o := .cells #[.string (⟨#[]⟩ : ByteArray), .string (⟨#[]⟩ : ByteArray), .int .i64 0] 27 (0, 0)) ax109 NB362_0.out (by simp)); replace HK := Aside0.mk (KeepBut.trans ax110 hk (.inl rfl)); replace HB := Aside0.mk (hb); replace HI0 := Aside0.mk (hi); (try clear hb); (try clear hb2); (try clear hk); (try clear hi)) | ((with_reducible refine gate_dst (N := 3) rfl ?_); refine box_event ?hg (N := 3) ?hd (cs := #[.string (⟨#[]⟩ : ByteArray), .string (⟨#[]⟩ : ByteArray), .int .i64 0]) (t := 27) ?hr ?_; (case hd => rfl); (case hg => rfl); (case hr => exact ax9); intro gb368 hg w44 hbox hb; replace HB := Aside0.mk (below_step ax108 hb); have BK368 := Aside0.mk (hbox); have GW368 := Aside0.mk ((ax111 : w.heap.size ≤ gb368)); have GE368 := Aside0.mk ((Nat.le_trans HW0.out (ax111 : w.heap.size ≤ gb368) : w0.heap.size ≤ gb368)); replace HK := Aside0.mk (KeepBut.trans ax110 (KeepBut.of_below hb g none) (.inl rfl)); have NB362_368 := uN hg BK362; have NB368_362 := uM hg BK362; replace BK362 := ub BK362 hb; have NB0_368 := Aside0.mk ((ax112 : g ≠ gb368)); have NB368_0 := Aside0.mk ((ax113 : gb368 ≠ g)); replace HI0 := Aside0.mk (IsS60.below ax107 hb); clear hb hbox hg; have hnb45 := NB368_362.out; have hnc45 := NB362_368.out; have hnb46 := NB368_0.out; have hnc46 := NB0_368.out; have hcz47_0 := bc (.string (⟨#[]⟩ : ByteArray)) BK368 0; have hcz47_1 := bc (.string (⟨#[]⟩ : ByteArray)) BK368 1; have hcz47_2 := bc (.int .i64 0) BK368 2; have hfz47_0 := blk_frozen BK368.out 0; have hfz47_1 := blk_frozen BK368.out 1; have hfz47_2 := blk_frozen BK368.out 2) | (refine gd 7 44 ?_; refine gc 7 Tryd.func44 #[.pointer (some ⟨g, 0, none⟩), .int .i64 24] (spec_l1Cur_pick.calls g s0_0 t366 t367 24 t369 t370 t371 w0 _ ax114 ax115 A3.out) ?_; rintro e w48 ⟨rfl, hi, hb, hk⟩; refine ⟨_, rfl, ?_⟩; replace BK362 := Aside0.mk (KeepBut.blk hk (g' := gb362) (o := .cells #[.string (⟨#[]⟩ : ByteArray), .string (⟨#[]⟩ : ByteArray), .int .i64 0] 27 (0, 0)) ax116 NB362_0.out (by simp)); replace BK368 := Aside0.mk (KeepBut.blk hk (g' := gb368) (o := .cells #[.string t363, .string t364, .int .i64 t365] 27 (0, 0)) ax117 NB368_0.out (by simp)); replace HK := Aside0.mk (KeepBut.trans ax118 hk (.inl rfl)); replace HB := Aside0.mk (hb); replace HI0 := Aside0.mk (hi); (try clear hb); (try clear hb2); (try clear hk); (try clear hi); have hcz49_0 := bc (.string t363) BK368 0; have hcz49_1 := bc (.string t364) BK368 1; have hcz49_2 := bc (.int .i64 t365) BK368 2; have hfz49_0 := blk_frozen BK368.out 0; have hfz49_1 := blk_frozen BK368.out 1; have hfz49_2 := blk_frozen BK368.out 2; have hnb50 := NB362_0.out; have hnc50 := NB0_362.out; have hcz51_0 := bc (.string (⟨#[]⟩ : ByteArray)) BK362 0; have hcz51_1 := bc (.string (⟨#[]⟩ : ByteArray)) BK362 1; have hcz51_2 := bc (.int .i64 0) BK362 2; have hfz51_0 := blk_frozen BK362.out 0; have hfz51_1 := blk_frozen BK362.out 1; have hfz51_2 := blk_frozen BK362.out 2))
    refine bodyPost_ret (results_cell_row rfl _ _ gb362 27 #[.string t363, .string t364, .int .i64 t365] (0, 0) _ rfl (by (with_reducible repeat (first | refine blk_drewN ?_ _ | refine blk_drew ?_ | refine blk_alloc ?_ _)); refine blk_put (cs := #[.string t363, .string t364, .int .i64 0]) ?_ 2 _ rfl; (with_reducible repeat (first | refine blk_drewN ?_ _ | refine blk_drew ?_ | refine blk_alloc ?_ _)); refine blk_put (cs := #[.string t363, .string (⟨#[]⟩ : ByteArray), .int .i64 0]) ?_ 1 _ rfl; (with_reducible repeat (first | refine blk_drewN ?_ _ | refine blk_drew ?_ | refine blk_alloc ?_ _)); refine blk_put (cs := #[.string (⟨#[]⟩ : ByteArray), .string (⟨#[]⟩ : ByteArray), .int .i64 0]) ?_ 0 _ rfl; (with_reducible repeat (first | refine blk_drewN ?_ _ | refine blk_drew ?_ | refine blk_alloc ?_ _)); exact BK362.out) Tryd.underlying27 rfl (by kernel_rfl)) rfl ?_
    exact ⟨ax18, by repeat (first | (with_reducible first | exact HI0.out | apply IsS60.alloc | apply IsS60.drewN | apply IsS60.drew | apply IsS60.set_1 | apply IsS60.set_2 | refine IsS60.far ?_ NB0_362.out _ | refine IsS60.far ?_ NB0_368.out _) | exact HI0.out), by repeat (first | (with_reducible first | exact HB.out | apply below_alloc | apply pw_below_drewN | apply below_drew1 | refine below_set ?_ (IsS60.ge HI0.out) | refine below_set ?_ GE362.out | refine below_set ?_ GE368.out) | exact HB.out), by repeat (first | (with_reducible first | exact HK.out | apply KeepBut.set_ | apply keep_drewN | apply keep_drew | apply keep_alloc | refine keep_far ?_ GW362.out _ | refine keep_far ?_ GW368.out _) | exact HK.out)⟩

/-! ### impl_LogRecords: function 26 -/
def impl_LogRecords.f (k : Nat) (a0_0 : ByteArray) (a0_1 : ByteArray) (a0_2 : Int) : Option ((List (S33)) × Bool) := (impl_Log_records.f k a0_0 a0_1 a0_2).bind fun bt424 => (some (bt424.1, bt424.2))
theorem impl_LogRecords.mono : ∀ a0 a1 a2 k, LeO (impl_LogRecords.f k a0 a1 a2) (impl_LogRecords.f (k + 1) a0 a1 a2) := by
 intro a0 a1 a2 k
 unfold impl_LogRecords.f
 repeat' first | (with_reducible first | exact impl_Log_records.mono .. | exact LeO.refl _ | exact LeO.none _ | refine LeO.ite ?_ ?_ | refine LeO.bind ?_ (fun _ => ?_)) | exact impl_Log_records.mono .. | exact LeO.none _ | refine LeO.ite ?_ ?_ | refine LeO.bind ?_ (fun _ => ?_)
set_option maxHeartbeats 8000000 in
set_option maxRecDepth 100000 in
theorem impl_LogRecords.calls (k : Nat) (a0_0 : ByteArray) (a0_1 : ByteArray) (a0_2 : Int) (r1 : List (S33)) (r2 : Bool) (w : World) (hG : GL w) (h : impl_LogRecords.f k a0_0 a0_1 a0_2 = some (r1, r2)) :
  Calls Tryd.prog 26 #[.agg #[.string a0_0, .string a0_1, .int .i64 a0_2]] w fun e w' => ∃ v0_ : Value, e = .returned (.tuple #[v0_, .bool r2]) ∧ Kd.R k33 33 w' w.heap.size (fun _ => True) v0_ r1 ∧ Below w.heap.size w w' := by
 have hu27 := Tryd.underlying27; have HB := Aside0.mk (Below.refl w.heap.size w); have HG := Aside0.mk hG; clear hG
 have H : ((impl_Log_records.f k a0_0 a0_1 a0_2).bind fun bt424 => (some (bt424.1, bt424.2))) = some (r1, r2) := h
 clear h
 obtain ⟨⟨t424, t427⟩, A2, H⟩ := bs H
 simp only [Option.some.injEq, Prod.mk.injEq] at H
 obtain ⟨rfl, rfl⟩ := H
 go_enter Tryd.func26, Tryd.ntmps26
 go_wp2_with (first | ((with_reducible refine gate_dst (N := 1) rfl ?_); refine box_event ?hg (N := 1) ?hd (cs := #[.string a0_0, .string a0_1, .int .i64 a0_2]) (t := 27) ?hr ?_; (case hd => rfl); (case hg => rfl); (case hr => exact ax9); intro gb423 hg w3 hbox hb; have BK423 := Aside0.mk (hbox); have GW423 := uG hg HB; have GE423 := uG hg HB; replace HB := uB HB hb; clear hb hbox hg; have hcz4_0 := bc (.string a0_0) BK423 0; have hcz4_1 := bc (.string a0_1) BK423 1; have hcz4_2 := bc (.int .i64 a0_2) BK423 2; have hfz4_0 := blk_frozen BK423.out 0; have hfz4_1 := blk_frozen BK423.out 1; have hfz4_2 := blk_frozen BK423.out 2) | (refine gd 5 46 ?_; refine gc 5 Tryd.func46 #[.agg #[.string a0_0, .string a0_1, .int .i64 a0_2]] (impl_Log_records.calls k a0_0 a0_1 a0_2 t424 t427 _ (GL.below HG.out ax119) A2.out) ?_; rintro e w5 ⟨v425, rfl, ho0, hb⟩; refine ⟨_, rfl, ?_⟩; have HO426 := Aside0.mk (Kd.R_lower ho0 (below_size ax119)); replace BK423 := ub BK423 hb; replace HB := Aside0.mk (below_step ax119 hb); (try clear hb); (try clear hb2); (try clear hk); (try clear hi); (try clear ho0)))
 go_ret2
 exact ⟨_, by first | rfl | (simp [errW_none, errW_some] <;> rfl) | (simp [*, errW_none, errW_some] <;> rfl), by (with_reducible repeat (first | apply Kd.R_alloc | apply Kd.R_drewN | apply Kd.R_drew)); exact HO426.out, by repeat (first | (with_reducible first | exact HB.out | apply below_alloc | apply pw_below_drewN | apply below_drew1 | refine below_set ?_ GE423.out) | exact HB.out)⟩

/-! ### laws_vRecords: function 28 -/
def laws_vRecords.l0 : Nat → List (S33) → List (S33) → Int → Option (Bool)
 | 0, _, _, _ => none
 | k + 1, x0, x1, x5 => if x5 < (x0.length : Int) then (if 0 ≤ x5 then (if x5 < (x1.length : Int) then (if (!((((rd_T33 x0 x5).f0).toList) == (((rd_T33 x1 x5).f0).toList)) || (!((((rd_T33 x0 x5).f1).toList) == (((rd_T33 x1 x5).f1).toList)))) = true then (some false) else (laws_vRecords.l0 k x0 x1 (wrap64 (x5 + 1)))) else (none)) else (none)) else (some true)
def laws_vRecords.f (k : Nat) (l0 : List (S33)) (l1 : List (S33)) : Option (Bool) := if (l0.length : Int) = (l1.length : Int) then (laws_vRecords.l0 k l0 l1 0) else (some false)
theorem laws_vRecords.mono_l : ∀ k, (∀ y0 y1 y2, LeO (laws_vRecords.l0 k y0 y1 y2) (laws_vRecords.l0 (k + 1) y0 y1 y2))
 | 0 => fun _ _ _ r h => by simp [laws_vRecords.l0] at h
 | k + 1 => by
  have ih0 := laws_vRecords.mono_l k
  ·intro y0 y1 y2
   unfold laws_vRecords.l0
   repeat' first | (with_reducible first | exact ih0 .. | exact LeO.refl _ | exact LeO.none _ | refine LeO.ite ?_ ?_ | refine LeO.bind ?_ (fun _ => ?_)) | exact ih0 .. | exact LeO.none _ | refine LeO.ite ?_ ?_ | refine LeO.bind ?_ (fun _ => ?_)
theorem laws_vRecords.mono : ∀ a0 a1 k, LeO (laws_vRecords.f k a0 a1) (laws_vRecords.f (k + 1) a0 a1) := by
 intro a0 a1 k
 have ih0 := laws_vRecords.mono_l k
 unfold laws_vRecords.f
 repeat' first | (with_reducible first | exact ih0 .. | exact LeO.refl _ | exact LeO.none _ | refine LeO.ite ?_ ?_ | refine LeO.bind ?_ (fun _ => ?_)) | exact ih0 .. | exact LeO.none _ | refine LeO.ite ?_ ?_ | refine LeO.bind ?_ (fun _ => ?_)
set_option maxHeartbeats 8000000 in
set_option maxRecDepth 100000 in
theorem laws_vRecords.calls (k : Nat) (A0 : Option Addr) (c0 : Nat) (l0 : List (S33)) (A1 : Option Addr) (c1 : Nat) (l1 : List (S33)) (r : Bool) (w : World) (hr0 : Kd.C k33 w A0 l0.length l0) (hc0 : l0.length ≤ c0) (hr1 : Kd.C k33 w A1 l1.length l1) (hc1 : l1.length ≤ c1) (h : laws_vRecords.f k l0 l1 = some r) :
  Calls Tryd.prog 28 #[.slice A0 l0.length c0, .slice A1 l1.length c1] w fun e w' => e = .returned (.bool r) ∧ Drawn0 w w' := by
 have hu33 := Tryd.underlying33; have HR0 := Aside0.mk hr0; have HC0 := Aside0.mk hc0; clear hr0 hc0; have HR1 := Aside0.mk hr1; have HC1 := Aside0.mk hc1; clear hr1 hc1
 have H : (if (l0.length : Int) = (l1.length : Int) then (laws_vRecords.l0 k l0 l1 0) else (some false)) = some r := h
 clear h
 by_cases c3 : (l0.length : Int) = (l1.length : Int)
 ·rw [if_pos c3] at H
  have c3b0 : ((l0.length : Int) == (l1.length : Int)) = true := beq_iff_eq.mpr c3
  have c3b1 : ((l0.length : Int) != (l1.length : Int)) = false := bne_eq_false_iff_eq.mpr c3
  have c3b2 : (l0.length == l1.length) = true := by first | simpa using c3 | (simp at c3 ⊢; omega)
  clear c3
  have H' := Aside0.mk H
  clear H
  go_enter Tryd.func28, Tryd.ntmps28
  go_wp2
  repeat (go_quiet (fail); try go_wp2)
  go_loopg [5] k (fun kq v5 w' => ∃ (x5_1 : Int), v5 = .int .i64 x5_1 ∧ Aside0 (laws_vRecords.l0 kq l0 l1 x5_1 = some r) ∧ Aside0 (kq ≤ k) ∧ Drawn0 w w')
  case atStart => exact ⟨(0), ax10, H', ⟨Nat.le_refl _⟩, by repeat (first | exact Drawn0.refl _ | apply Drawn0.step)⟩
  case round =>
   clear H'
   try clear c1
   try clear c2
   try clear p2
   try clear c3
   try clear c3b0
   try clear c3b1
   try clear c3b2
   obtain ⟨x5_1, rfl, HA, HK1, ⟨m1, rfl⟩⟩ := hrel
   cases gk with
   | zero => exact absurd HA.out (by simp [laws_vRecords.l0])
   | succ k1 =>
    have H := HA.out; clear HA
    simp only [laws_vRecords.l0] at H
    by_cases c4 : x5_1 < (l0.length : Int)
    ·rw [if_pos c4] at H
     have c4b0 : decide (x5_1 < (l0.length : Int)) = true := decide_eq_true c4
     clear c4
     by_cases c5 : 0 ≤ x5_1
     ·rw [if_pos c5] at H
      have c5b0 : decide (0 ≤ x5_1) = true := decide_eq_true c5
      clear c5
      by_cases c6 : x5_1 < (l1.length : Int)
      ·rw [if_pos c6] at H
       have c6b0 : decide (x5_1 < (l1.length : Int)) = true := decide_eq_true c6
       clear c6
       by_cases c7 : (!((((rd_T33 l0 x5_1).f0).toList) == (((rd_T33 l1 x5_1).f0).toList)) || (!((((rd_T33 l0 x5_1).f1).toList) == (((rd_T33 l1 x5_1).f1).toList)))) = true
       ·rw [if_pos c7] at H
        have c7b0 : (!((((rd_T33 l0 x5_1).f0).toList) == (((rd_T33 l1 x5_1).f0).toList)) || (!((((rd_T33 l0 x5_1).f1).toList) == (((rd_T33 l1 x5_1).f1).toList)))) = true := c7
        clear c7
        obtain rfl := Option.some.inj H
        have p437 : 0 ≤ (x5_1 : Int) := of_decide_eq_true ax12
        have q437 : x5_1 < (l0.length : Int) := of_decide_eq_true ax12
        obtain ⟨ad437, e437, hx437_0, hx437_1⟩ := at_T33 HR0.out x5_1 p437 q437
        cases e437; replace p437 := eq_true p437; replace q437 := eq_true q437
        have p438 : 0 ≤ (x5_1 : Int) := of_decide_eq_true ax12
        have q438 : x5_1 < (l1.length : Int) := of_decide_eq_true ax12
        obtain ⟨ad438, e438, hx438_0, hx438_1⟩ := at_T33 HR1.out x5_1 p438 q438
        cases e438; replace p438 := eq_true p438; replace q438 := eq_true q438
        go_wp2
        repeat (go_quiet (fail); try go_wp2)
        go_ret
        exact ⟨ax10, by repeat (first | exact Drawn0.refl _ | apply Drawn0.step)⟩
       ·rw [if_neg c7] at H
        have c7b0 : (!((((rd_T33 l0 x5_1).f0).toList) == (((rd_T33 l1 x5_1).f0).toList)) || (!((((rd_T33 l0 x5_1).f1).toList) == (((rd_T33 l1 x5_1).f1).toList)))) = false := by simpa using c7
        clear c7
        have H' := Aside0.mk H
        clear H
        have p437 : 0 ≤ (x5_1 : Int) := of_decide_eq_true ax12
        have q437 : x5_1 < (l0.length : Int) := of_decide_eq_true ax12
        obtain ⟨ad437, e437, hx437_0, hx437_1⟩ := at_T33 HR0.out x5_1 p437 q437
        cases e437; replace p437 := eq_true p437; replace q437 := eq_true q437
        have p438 : 0 ≤ (x5_1 : Int) := of_decide_eq_true ax12
        have q438 : x5_1 < (l1.length : Int) := of_decide_eq_true ax12
        obtain ⟨ad438, e438, hx438_0, hx438_1⟩ := at_T33 HR1.out x5_1 p438 q438
        cases e438; replace p438 := eq_true p438; replace q438 := eq_true q438
        go_wp2
        repeat (go_quiet (fail); try go_wp2)
        go_roundg k1
        case measure => have := HK1.out; omega
        case rel => exact ⟨(wrap64 (x5_1 + 1)), ax10, H', ⟨by have := HK1.out; omega⟩, by repeat (first | exact Drawn0.refl _ | apply Drawn0.step)⟩
      ·exact ax2
     ·exact ax4
    ·rw [if_neg c4] at H
     have c4b0 : decide (x5_1 < (l0.length : Int)) = false := decide_eq_false c4
     clear c4
     obtain rfl := Option.some.inj H
     go_wp2
     repeat (go_quiet (fail); try go_wp2)
     go_ret
     exact ⟨ax10, by repeat (first | exact Drawn0.refl _ | apply Drawn0.step)⟩
 ·rw [if_neg c3] at H
  have c3b0 : ((l0.length : Int) == (l1.length : Int)) = false := beq_eq_false_iff_ne.mpr c3
  have c3b1 : ((l0.length : Int) != (l1.length : Int)) = true := bne_iff_ne.mpr c3
  have c3b2 : (l0.length == l1.length) = false := by first | simpa using c3 | (simp at c3 ⊢; omega)
  obtain rfl := Option.some.inj H
  go_enter Tryd.func28, Tryd.ntmps28
  go_wp2
  repeat (go_quiet (fail); try go_wp2)
  go_ret
  exact ⟨ax10, by repeat (first | exact Drawn0.refl _ | apply Drawn0.step)⟩

end Go.Proofs.YtnjjchbhbicmoaaDoor.X

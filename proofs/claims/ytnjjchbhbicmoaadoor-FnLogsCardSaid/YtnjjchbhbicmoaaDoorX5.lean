-- By gen.py (the session's own program over the kit's printer): functions of the program, each with its contract. Lean checks it.
import Derived.Test.YtnjjchbhbicmoaaDoorX0
import Derived.Test.YtnjjchbhbicmoaaDoorX3
import Derived.Test.YtnjjchbhbicmoaaDoorX4
namespace Go.Proofs.YtnjjchbhbicmoaaDoor.X
open Go.RowKit Go.Proofs.YtnjjchbhbicmoaaDoorW.PrintWords Go.Proofs.YtnjjchbhbicmoaaDoorW.PrintLast Go.Proofs.YtnjjchbhbicmoaaDoorW.PrintMore
attribute [local go_sem] max2_int min2_int max_two min_two max_three min_three max_four min_four   -- for this text's walks alone
set_option linter.unusedVariables false
set_option linter.unusedSimpArgs false

/-! ### spec_l12Decode: function 62 -/
def spec_l12Decode.j0 : Nat → ByteArray → Int → ByteArray → ByteArray → Bool → Option (ByteArray × ByteArray × Bool)
 | 0, _, _, _, _, _ => none
 | k + 1, x0, x1, x6, x7, x30 => if x30 = true then (some ((⟨#[]⟩ : ByteArray), (⟨#[]⟩ : ByteArray), false)) else (if 0 ≤ (x6.size : Int) then (if (x6.size : Int) ≤ (x7.size : Int) then ((spec_l1Split.f k (x7.extract x6.size x7.size) 64).bind fun t131 => (if 0 < (t131.length : Int) then (if ((rdOf ByteArray.empty t131 0).size : Int) = ((x7.extract x6.size x7.size).size : Int) then (some ((⟨#[]⟩ : ByteArray), (⟨#[]⟩ : ByteArray), false)) else (if 0 ≤ (wrap64 (((rdOf ByteArray.empty t131 0).size : Int) + 1)) then (if (wrap64 (((rdOf ByteArray.empty t131 0).size : Int) + 1)) ≤ ((x7.extract x6.size x7.size).size : Int) then ((spec_l12Record.f k (rdOf ByteArray.empty t131 0) ((x7.extract x6.size x7.size).extract ((wrap64 (((rdOf ByteArray.empty t131 0).size : Int) + 1)) : Int).toNat (x7.extract x6.size x7.size).size)).bind fun t136 => (if t136 = true then ((spec_l12Line.f k x1 (rdOf ByteArray.empty t131 0) ((x7.extract x6.size x7.size).extract ((wrap64 (((rdOf ByteArray.empty t131 0).size : Int) + 1)) : Int).toNat (x7.extract x6.size x7.size).size)).bind fun t137 => (if x0.size + 1 ≤ 9223372036854775807 then (some (rdOf ByteArray.empty t131 0, (x7.extract x6.size x7.size).extract ((wrap64 (((rdOf ByteArray.empty t131 0).size : Int) + 1)) : Int).toNat (x7.extract x6.size x7.size).size, (t137.toList == (x0 ++ (⟨#[10]⟩ : ByteArray)).toList))) else (none))) else (some (rdOf ByteArray.empty t131 0, (x7.extract x6.size x7.size).extract ((wrap64 (((rdOf ByteArray.empty t131 0).size : Int) + 1)) : Int).toNat (x7.extract x6.size x7.size).size, false)))) else (none)) else (none))) else (none))) else (none)) else (none))
def spec_l12Decode.f (k : Nat) (a0 : ByteArray) (a1 : Int) : Option (ByteArray × ByteArray × Bool) := (spec_l1Num.f k a1).bind fun t126 => (if t126.size + 1 ≤ 9223372036854775807 then ((spec_l1Split.f k a0 35).bind fun t127 => (if 0 < (t127.length : Int) then (if ((rdOf ByteArray.empty t127 0).size : Int) < ((t126 ++ (⟨#[32]⟩ : ByteArray)).size : Int) then (spec_l12Decode.j0 k a0 a1 (t126 ++ (⟨#[32]⟩ : ByteArray)) (rdOf ByteArray.empty t127 0) true) else (if 0 ≤ ((t126 ++ (⟨#[32]⟩ : ByteArray)).size : Int) then (if ((t126 ++ (⟨#[32]⟩ : ByteArray)).size : Int) ≤ ((rdOf ByteArray.empty t127 0).size : Int) then (spec_l12Decode.j0 k a0 a1 (t126 ++ (⟨#[32]⟩ : ByteArray)) (rdOf ByteArray.empty t127 0) (((rdOf ByteArray.empty t127 0).extract 0 (t126 ++ (⟨#[32]⟩ : ByteArray)).size).toList != (t126 ++ (⟨#[32]⟩ : ByteArray)).toList)) else (none)) else (none))) else (none))) else (none))
theorem spec_l12Decode.mono_l : ∀ k, (∀ y0 y1 y2 y3 y4, LeO (spec_l12Decode.j0 k y0 y1 y2 y3 y4) (spec_l12Decode.j0 (k + 1) y0 y1 y2 y3 y4))
 | 0 => fun _ _ _ _ _ r h => by simp [spec_l12Decode.j0] at h
 | k + 1 => by
  have ih0 := spec_l12Decode.mono_l k
  ·intro y0 y1 y2 y3 y4
   unfold spec_l12Decode.j0
   repeat' first | (with_reducible first | exact ih0 .. | exact spec_l12Line.mono .. | exact spec_l12Record.mono .. | exact spec_l1Num.mono .. | exact spec_l1Split.mono .. | exact LeO.refl _ | exact LeO.none _ | refine LeO.ite ?_ ?_ | refine LeO.bind ?_ (fun _ => ?_)) | exact ih0 .. | exact spec_l12Line.mono .. | exact spec_l12Record.mono .. | exact spec_l1Num.mono .. | exact spec_l1Split.mono .. | exact LeO.none _ | refine LeO.ite ?_ ?_ | refine LeO.bind ?_ (fun _ => ?_)
theorem spec_l12Decode.mono : ∀ a0 a1 k, LeO (spec_l12Decode.f k a0 a1) (spec_l12Decode.f (k + 1) a0 a1) := by
 intro a0 a1 k
 have ih0 := spec_l12Decode.mono_l k
 unfold spec_l12Decode.f
 repeat' first | (with_reducible first | exact ih0 .. | exact spec_l12Line.mono .. | exact spec_l12Record.mono .. | exact spec_l1Num.mono .. | exact spec_l1Split.mono .. | exact LeO.refl _ | exact LeO.none _ | refine LeO.ite ?_ ?_ | refine LeO.bind ?_ (fun _ => ?_)) | exact ih0 .. | exact spec_l12Line.mono .. | exact spec_l12Record.mono .. | exact spec_l1Num.mono .. | exact spec_l1Split.mono .. | exact LeO.none _ | refine LeO.ite ?_ ?_ | refine LeO.bind ?_ (fun _ => ?_)
def spec_l12Decode.T10 : Bool × List (List Nat × List Nat) := (true, [([], []), ([], []), ([1], [1]), ([2, 2], [2]), ([3], [3]), ([3], [3]), ([4, 5, 3, 3], [3, 4, 5]), ([3], [3]), ([7, 3], [3, 7]), ([6, 8, 3], [3, 6, 8]), ([3, 9], [3, 9]), ([0, 6, 0], [0]), ([10, 11, 0, 1, 2, 3, 4, 5, 6, 7, 8, 9, 10, 11], [10])])
def spec_l12Decode.B10 : List Nat := [0, 0, 2, 6, 14, 14, 62, 14, 142, 510, 1022, 127, 4095]
theorem spec_l12Decode.tab10 : rtab .any (opsOf Tryd.f62 10) = spec_l12Decode.T10 := by kernel_rfl
theorem spec_l12Decode.bits10 : waitsOk spec_l12Decode.T10.2 spec_l12Decode.B10 = true := by kernel_rfl
set_option maxHeartbeats 8000000 in
set_option maxRecDepth 100000 in
theorem spec_l12Decode.calls (k : Nat) (a0 : ByteArray) (a1 : Int) (r1 : ByteArray) (r2 : ByteArray) (r3 : Bool) (w : World) (h : spec_l12Decode.f k a0 a1 = some (r1, r2, r3)) :
  Calls Tryd.prog 62 #[.string a0, .int .i64 a1] w fun e w' => e = .returned (.tuple #[.agg #[.string r1, .string r2], .bool r3]) ∧ Below w.heap.size w w' := by
 have hu33 := Tryd.underlying33; have HB := Aside0.mk (Below.refl w.heap.size w)
 have H : ((spec_l1Num.f k a1).bind fun t126 => (if t126.size + 1 ≤ 9223372036854775807 then ((spec_l1Split.f k a0 35).bind fun t127 => (if 0 < (t127.length : Int) then (if ((rdOf ByteArray.empty t127 0).size : Int) < ((t126 ++ (⟨#[32]⟩ : ByteArray)).size : Int) then (spec_l12Decode.j0 k a0 a1 (t126 ++ (⟨#[32]⟩ : ByteArray)) (rdOf ByteArray.empty t127 0) true) else (if 0 ≤ ((t126 ++ (⟨#[32]⟩ : ByteArray)).size : Int) then (if ((t126 ++ (⟨#[32]⟩ : ByteArray)).size : Int) ≤ ((rdOf ByteArray.empty t127 0).size : Int) then (spec_l12Decode.j0 k a0 a1 (t126 ++ (⟨#[32]⟩ : ByteArray)) (rdOf ByteArray.empty t127 0) (((rdOf ByteArray.empty t127 0).extract 0 (t126 ++ (⟨#[32]⟩ : ByteArray)).size).toList != (t126 ++ (⟨#[32]⟩ : ByteArray)).toList)) else (none)) else (none))) else (none))) else (none))) = some (r1, r2, r3) := h
 clear h
 obtain ⟨t126, A3, H⟩ := bs H
 by_cases c4 : t126.size + 1 ≤ 9223372036854775807
 ·rw [if_pos c4] at H
  have c4b0 := eq_true c4
  have c4b1 : decide (t126.size + 1 ≤ 9223372036854775807) = true := decide_eq_true c4
  try have c4b2 : (9223372036854775807 < t126.size + 1) = False := eq_false (Nat.not_lt.2 c4)
  clear c4
  obtain ⟨js5, hjs5⟩ : ∃ j_ : ByteArray, (t126 ++ (⟨#[32]⟩ : ByteArray)) = j_ := ⟨_, rfl⟩
  replace H : ((spec_l1Split.f k a0 35).bind fun t127 => (if 0 < (t127.length : Int) then (if ((rdOf ByteArray.empty t127 0).size : Int) < (js5.size : Int) then (spec_l12Decode.j0 k a0 a1 js5 (rdOf ByteArray.empty t127 0) true) else (if 0 ≤ (js5.size : Int) then (if (js5.size : Int) ≤ ((rdOf ByteArray.empty t127 0).size : Int) then (spec_l12Decode.j0 k a0 a1 js5 (rdOf ByteArray.empty t127 0) (((rdOf ByteArray.empty t127 0).extract 0 js5.size).toList != js5.toList)) else (none)) else (none))) else (none))) = some (r1, r2, r3) := by first | (rw [hjs5] at H; exact H) | (simp only [hjs5] at H ⊢; exact H)
  obtain ⟨t127, A6, H⟩ := bs H
  by_cases c7 : 0 < (t127.length : Int)
  ·rw [if_pos c7] at H
   have c7b0 : decide (0 < (t127.length : Int)) = true := decide_eq_true c7
   have c7b1 : decide (0 < t127.length) = true := decide_eq_true (by omega)
   clear c7; have HC8 := Aside0.mk H; clear H
   go_enter Tryd.func62, Tryd.ntmps62
   go_upto_region 3 with (first | ((with_reducible refine gate_dst (N := 4) rfl ?_); (try (refine gate_guard (by rfl) ?_; dsimp only)); refine box_event ?hg (N := 4) ?hd (cs := #[.string (⟨#[]⟩ : ByteArray), .string (⟨#[]⟩ : ByteArray)]) (t := 33) ?hr ?_; (case hd => rfl); (case hg => rfl); (case hr => exact ax9); intro gb125 hg w9 hbox hb; have BK125 := Aside0.mk (hbox); have GW125 := uG hg HB; have GE125 := uG hg HB; replace HB := uB HB hb; clear hb hbox hg) | (refine gd 12 58 ?_; refine gc 12 Tryd.func58 #[.int .i64 a1] (spec_l1Num.calls k a1 t126 _ A3.out) ?_; rintro e w10 ⟨rfl, hb⟩; refine ⟨_, rfl, ?_⟩; replace BK125 := ub BK125 hb; replace HB := Aside0.mk (below_step ax23 hb); (try clear hb); (try clear hb2); (try clear hk); (try clear hi)) | (refine gd 15 61 ?_; refine gc 15 Tryd.func61 #[.string a0, .int .u8 35] (spec_l1Split.calls k a0 35 t127 _ A6.out) ?_; rintro e w11 ⟨v128, rfl, ho0, hb⟩; refine ⟨_, rfl, ?_⟩; have HO129 := Aside0.mk (Kd.R_lower ho0 (below_size ax23)); replace BK125 := ub BK125 hb; replace HB := Aside0.mk (below_step ax23 hb); (try clear hb); (try clear hb2); (try clear hk); (try clear hi); (try clear ho0); obtain ⟨Ao12, co12, eo12⟩ := Kd.R_slice HO129.out; subst eo12; have p130 : 0 ≤ (0 : Int) := (by omega); have q130 : 0 < (t127.length : Int) := of_decide_eq_true ax12; obtain ⟨ad130, e130, hx130_0⟩ := Kd.at_string (Kd.R_reads' HO129.out).2.2 0 p130 q130; cases e130; have qi130 : (0 < t127.length) = True := eq_true (by omega); (try rw [show ((0 : Int)).toNat = 0 from rfl] at hx130_0); (try rw [Addr.add_zero'] at hx130_0); replace p130 := eq_true p130; replace q130 := eq_true q130))
   (try simp only [Act.put, List.setIfInBounds_toArray, List.set_cons_zero, List.set_cons_succ])
   go_cut [30] (fun v30 wc => ∃ (kq : Nat) (x30_7 : Bool), v30 = .bool x30_7 ∧ Aside0 (spec_l12Decode.j0 kq a0 a1 js5 (rdOf ByteArray.empty t127 0) x30_7 = some (r1, r2, r3)) ∧ Aside0 (kq ≤ k) ∧ Aside0 (wc.heap[gb125]? = some (.cells #[.string (⟨#[]⟩ : ByteArray), .string (⟨#[]⟩ : ByteArray)] 33 (0, 0))) ∧ Aside0 (Below w.heap.size w wc))
   case first =>
    have H := HC8.out; clear HC8
    by_cases c13 : ((rdOf ByteArray.empty t127 0).size : Int) < (js5.size : Int)
    ·rw [if_pos c13] at H
     have c13b0 : decide (((rdOf ByteArray.empty t127 0).size : Int) < (js5.size : Int)) = true := decide_eq_true c13
     have c13b1 : decide ((rdOf ByteArray.empty t127 0).size < js5.size) = true := decide_eq_true (Int.ofNat_lt.mp c13)
     clear c13
     (first | rw [c13b0] | (simp only [i64_w, i32_w]; rw [c13b0]) | skip)
     have H' := Aside0.mk H
     clear H
     go_wp2
     go_meet
     case rel => exact ⟨_, (true), ax10, H', ⟨by first | omega | exact Nat.le_refl _⟩, ⟨ax24⟩, ⟨ax23⟩⟩
    ·rw [if_neg c13] at H
     have c13b0 : decide (((rdOf ByteArray.empty t127 0).size : Int) < (js5.size : Int)) = false := decide_eq_false c13
     have c13b1 : decide ((rdOf ByteArray.empty t127 0).size < js5.size) = false := decide_eq_false (fun h => c13 (Int.ofNat_lt.mpr h))
     clear c13
     (first | rw [c13b0] | (simp only [i64_w, i32_w]; rw [c13b0]) | skip)
     by_cases c14 : 0 ≤ (js5.size : Int)
     ·rw [if_pos c14] at H
      have c14b0 := eq_true c14
      have c14b1 : decide (0 ≤ (js5.size : Int)) = true := decide_eq_true c14
      clear c14
      by_cases c15 : (js5.size : Int) ≤ ((rdOf ByteArray.empty t127 0).size : Int)
      ·rw [if_pos c15] at H
       have c15b0 := eq_true c15
       have c15b1 : decide ((js5.size : Int) ≤ ((rdOf ByteArray.empty t127 0).size : Int)) = true := decide_eq_true c15
       clear c15
       obtain ⟨js16, hjs16⟩ : ∃ j_ : ByteArray, ((rdOf ByteArray.empty t127 0).extract 0 js5.size) = j_ := ⟨_, rfl⟩
       replace H : (spec_l12Decode.j0 k a0 a1 js5 (rdOf ByteArray.empty t127 0) (js16.toList != js5.toList)) = some (r1, r2, r3) := by first | (rw [hjs16] at H; exact H) | (simp only [hjs16] at H ⊢; exact H)
       have H' := Aside0.mk H
       clear H
       go_wp2
       go_meet
       case rel => exact ⟨_, ((js16.toList != js5.toList)), (by first | rfl | (simp; done) | (simp only [← hjs5, ← hjs16] <;> (first | rfl | simp)) | (simp [*]; done)), H', ⟨by first | omega | exact Nat.le_refl _⟩, ⟨ax24⟩, ⟨ax23⟩⟩
      ·rw [if_neg c15] at H
       exact absurd H (by simp)
     ·rw [if_neg c14] at H
      exact absurd H (by simp)
   case rest =>
    clear HC8
    try clear c1
    try clear p1
    try clear q1
    try clear hx1
    try clear qi1
    try clear p2
    try clear c4
    try clear c4b0
    try clear c4b1
    try clear c4b2
    try clear c5
    try clear c6
    try clear c7
    try clear c7b0
    try clear c7b1
    try clear c13
    try clear c13b0
    try clear c13b1
    try clear p13
    try clear q13
    try clear hx13
    try clear qi13
    try clear c14
    try clear c14b0
    try clear c14b1
    try clear c15
    try clear c15b0
    try clear c15b1
    try clear hx130_0
    try clear p130
    try clear q130
    obtain ⟨kq, x30_7, rfl, HA, HJ7, BK125, HB⟩ := hcut
    cases kq with
    | zero => exact absurd HA.out (by simp [spec_l12Decode.j0])
    | succ kj7 =>
     have H := HA.out; clear HA
     simp only [spec_l12Decode.j0] at H
     by_cases c17 : x30_7 = true
     ·subst c17
      rw [if_pos rfl] at H
      simp only [Option.some.injEq, Prod.mk.injEq] at H
      obtain ⟨rfl, rfl, rfl⟩ := H
      have hcz18_0 := bc (.string (⟨#[]⟩ : ByteArray)) BK125 0; have hcz18_1 := bc (.string (⟨#[]⟩ : ByteArray)) BK125 1; have hfz18_0 := blk_frozen BK125.out 0; have hfz18_1 := blk_frozen BK125.out 1
      go_wp2
      refine bodyPost_ret (results_ct rfl _ _ gb125 33 #[.string (⟨#[]⟩ : ByteArray), .string (⟨#[]⟩ : ByteArray)] (0, 0) _ rfl ax25 Tryd.underlying33 rfl (by kernel_rfl)) rfl ?_
      exact ⟨ax26, by repeat (first | (with_reducible first | exact HB.out | apply below_alloc | apply pw_below_drewN | apply below_drew1 | refine below_set ?_ GE125.out) | exact HB.out)⟩
     ·replace c17 := Bool.eq_false_iff.mpr c17
      subst c17
      rw [if_neg (show ¬ (false = true) by decide)] at H
      by_cases c19 : 0 ≤ (js5.size : Int)
      ·rw [if_pos c19] at H
       have c19b0 := eq_true c19
       have c19b1 : decide (0 ≤ (js5.size : Int)) = true := decide_eq_true c19
       clear c19
       by_cases c20 : (js5.size : Int) ≤ ((rdOf ByteArray.empty t127 0).size : Int)
       ·rw [if_pos c20] at H
        have c20b0 := eq_true c20
        have c20b1 : decide ((js5.size : Int) ≤ ((rdOf ByteArray.empty t127 0).size : Int)) = true := decide_eq_true c20
        clear c20
        obtain ⟨js21, hjs21⟩ : ∃ j_ : ByteArray, ((rdOf ByteArray.empty t127 0).extract js5.size (rdOf ByteArray.empty t127 0).size) = j_ := ⟨_, rfl⟩
        replace H : ((spec_l1Split.f kj7 js21 64).bind fun t131 => (if 0 < (t131.length : Int) then (if ((rdOf ByteArray.empty t131 0).size : Int) = (js21.size : Int) then (some ((⟨#[]⟩ : ByteArray), (⟨#[]⟩ : ByteArray), false)) else (if 0 ≤ (wrap64 (((rdOf ByteArray.empty t131 0).size : Int) + 1)) then (if (wrap64 (((rdOf ByteArray.empty t131 0).size : Int) + 1)) ≤ (js21.size : Int) then ((spec_l12Record.f kj7 (rdOf ByteArray.empty t131 0) (js21.extract ((wrap64 (((rdOf ByteArray.empty t131 0).size : Int) + 1)) : Int).toNat js21.size)).bind fun t136 => (if t136 = true then ((spec_l12Line.f kj7 a1 (rdOf ByteArray.empty t131 0) (js21.extract ((wrap64 (((rdOf ByteArray.empty t131 0).size : Int) + 1)) : Int).toNat js21.size)).bind fun t137 => (if a0.size + 1 ≤ 9223372036854775807 then (some (rdOf ByteArray.empty t131 0, js21.extract ((wrap64 (((rdOf ByteArray.empty t131 0).size : Int) + 1)) : Int).toNat js21.size, (t137.toList == (a0 ++ (⟨#[10]⟩ : ByteArray)).toList))) else (none))) else (some (rdOf ByteArray.empty t131 0, js21.extract ((wrap64 (((rdOf ByteArray.empty t131 0).size : Int) + 1)) : Int).toNat js21.size, false)))) else (none)) else (none))) else (none))) = some (r1, r2, r3) := by first | (rw [hjs21] at H; exact H) | (simp only [hjs21] at H ⊢; exact H)
        obtain ⟨t131, A22, H⟩ := bs H
        by_cases c23 : 0 < (t131.length : Int)
        ·rw [if_pos c23] at H
         have c23b0 : decide (0 < (t131.length : Int)) = true := decide_eq_true c23
         have c23b1 : decide (0 < t131.length) = true := decide_eq_true (by omega)
         clear c23
         by_cases c24 : ((rdOf ByteArray.empty t131 0).size : Int) = (js21.size : Int)
         ·rw [if_pos c24] at H
          have c24b0 : (((rdOf ByteArray.empty t131 0).size : Int) == (js21.size : Int)) = true := beq_iff_eq.mpr c24
          have c24b1 : (((rdOf ByteArray.empty t131 0).size : Int) != (js21.size : Int)) = false := bne_eq_false_iff_eq.mpr c24
          have c24b2 : ((rdOf ByteArray.empty t131 0).size == js21.size) = true := by first | simpa using c24 | (simp at c24 ⊢; omega)
          clear c24
          simp only [Option.some.injEq, Prod.mk.injEq] at H
          obtain ⟨rfl, rfl, rfl⟩ := H
          go_wp2_with (first | (refine gd 37 61 ?_; refine gc 37 Tryd.func61 #[.string js21, .int .u8 64] (spec_l1Split.calls kj7 js21 64 t131 _ A22.out) ?_; rintro e w25 ⟨v132, rfl, ho0, hb⟩; refine ⟨_, rfl, ?_⟩; have HO133 := Aside0.mk (Kd.R_lower ho0 (below_size ax23)); replace BK125 := ub BK125 hb; replace HB := Aside0.mk (below_step ax23 hb); (try clear hb); (try clear hb2); (try clear hk); (try clear hi); (try clear ho0); obtain ⟨Ao26, co26, eo26⟩ := Kd.R_slice HO133.out; subst eo26; have p134 : 0 ≤ (0 : Int) := (by omega); have q134 : 0 < (t131.length : Int) := of_decide_eq_true ax12; obtain ⟨ad134, e134, hx134_0⟩ := Kd.at_string (Kd.R_reads' HO133.out).2.2 0 p134 q134; cases e134; have qi134 : (0 < t131.length) = True := eq_true (by omega); (try rw [show ((0 : Int)).toNat = 0 from rfl] at hx134_0); (try rw [Addr.add_zero'] at hx134_0); replace p134 := eq_true p134; replace q134 := eq_true q134; have hcz27_0 := bc (.string (⟨#[]⟩ : ByteArray)) BK125 0; have hcz27_1 := bc (.string (⟨#[]⟩ : ByteArray)) BK125 1; have hfz27_0 := blk_frozen BK125.out 0; have hfz27_1 := blk_frozen BK125.out 1))
          refine bodyPost_ret (results_ct rfl _ _ gb125 33 #[.string (⟨#[]⟩ : ByteArray), .string (⟨#[]⟩ : ByteArray)] (0, 0) _ rfl ax25 Tryd.underlying33 rfl (by kernel_rfl)) rfl ?_
          exact ⟨(by first | rfl | (simp [errW_none, errW_some] <;> rfl) | (simp only [← hjs5, ← hjs21]; first | rfl | (simp [errW_none, errW_some] <;> rfl)) | (simp [*, errW_none, errW_some] <;> rfl)), by repeat (first | (with_reducible first | exact HB.out | apply below_alloc | apply pw_below_drewN | apply below_drew1 | refine below_set ?_ GE125.out) | exact HB.out)⟩
         ·rw [if_neg c24] at H
          have c24b0 : (((rdOf ByteArray.empty t131 0).size : Int) == (js21.size : Int)) = false := beq_eq_false_iff_ne.mpr c24
          have c24b1 : (((rdOf ByteArray.empty t131 0).size : Int) != (js21.size : Int)) = true := bne_iff_ne.mpr c24
          have c24b2 : ((rdOf ByteArray.empty t131 0).size == js21.size) = false := by first | simpa using c24 | (simp at c24 ⊢; omega)
          obtain ⟨ji28, hji28⟩ : ∃ j_ : Int, (wrap64 (((rdOf ByteArray.empty t131 0).size : Int) + 1)) = j_ := ⟨_, rfl⟩
          replace H : (if 0 ≤ (ji28) then (if (ji28) ≤ (js21.size : Int) then ((spec_l12Record.f kj7 (rdOf ByteArray.empty t131 0) (js21.extract ((ji28) : Int).toNat js21.size)).bind fun t136 => (if t136 = true then ((spec_l12Line.f kj7 a1 (rdOf ByteArray.empty t131 0) (js21.extract ((ji28) : Int).toNat js21.size)).bind fun t137 => (if a0.size + 1 ≤ 9223372036854775807 then (some (rdOf ByteArray.empty t131 0, js21.extract ((ji28) : Int).toNat js21.size, (t137.toList == (a0 ++ (⟨#[10]⟩ : ByteArray)).toList))) else (none))) else (some (rdOf ByteArray.empty t131 0, js21.extract ((ji28) : Int).toNat js21.size, false)))) else (none)) else (none)) = some (r1, r2, r3) := by first | (rw [hji28] at H; exact H) | (simp only [hji28] at H ⊢; exact H)
          (try rw [hji28] at A22)
          have hji28w : (IntKind.i64.wrap (((rdOf ByteArray.empty t131 0).size : Int) + 1)) = ji28 := (i64_w _).trans hji28
          by_cases c29 : 0 ≤ (ji28)
          ·rw [if_pos c29] at H
           have c29b0 := eq_true c29
           have c29b1 : decide (0 ≤ (ji28)) = true := decide_eq_true c29
           clear c29
           by_cases c30 : (ji28) ≤ (js21.size : Int)
           ·rw [if_pos c30] at H
            have c30b0 := eq_true c30
            have c30b1 : decide ((ji28) ≤ (js21.size : Int)) = true := decide_eq_true c30
            clear c30
            obtain ⟨js31, hjs31⟩ : ∃ j_ : ByteArray, (js21.extract ((ji28) : Int).toNat js21.size) = j_ := ⟨_, rfl⟩
            replace H : ((spec_l12Record.f kj7 (rdOf ByteArray.empty t131 0) js31).bind fun t136 => (if t136 = true then ((spec_l12Line.f kj7 a1 (rdOf ByteArray.empty t131 0) js31).bind fun t137 => (if a0.size + 1 ≤ 9223372036854775807 then (some (rdOf ByteArray.empty t131 0, js31, (t137.toList == (a0 ++ (⟨#[10]⟩ : ByteArray)).toList))) else (none))) else (some (rdOf ByteArray.empty t131 0, js31, false)))) = some (r1, r2, r3) := by first | (rw [hjs31] at H; exact H) | (simp only [hjs31] at H ⊢; exact H)
            obtain ⟨t136, A32, H⟩ := bs H
            by_cases c33 : t136 = true
            ·subst c33
             rw [if_pos rfl] at H
             obtain ⟨t137, A34, H⟩ := bs H
             by_cases c35 : a0.size + 1 ≤ 9223372036854775807
             ·rw [if_pos c35] at H
              have c35b0 := eq_true c35
              have c35b1 : decide (a0.size + 1 ≤ 9223372036854775807) = true := decide_eq_true c35
              try have c35b2 : (9223372036854775807 < a0.size + 1) = False := eq_false (Nat.not_lt.2 c35)
              clear c35
              obtain ⟨js36, hjs36⟩ : ∃ j_ : ByteArray, (a0 ++ (⟨#[10]⟩ : ByteArray)) = j_ := ⟨_, rfl⟩
              replace H : (some (rdOf ByteArray.empty t131 0, js31, (t137.toList == js36.toList))) = some (r1, r2, r3) := by first | (rw [hjs36] at H; exact H) | (simp only [hjs36] at H ⊢; exact H)
              simp only [Option.some.injEq, Prod.mk.injEq] at H
              obtain ⟨rfl, rfl, rfl⟩ := H
              try go_wp2_with (first | (refine gd 37 61 ?_; refine gc 37 Tryd.func61 #[.string js21, .int .u8 64] (spec_l1Split.calls kj7 js21 64 t131 _ A22.out) ?_; rintro e w37 ⟨v132, rfl, ho0, hb⟩; refine ⟨_, rfl, ?_⟩; have HO133 := Aside0.mk (Kd.R_lower ho0 (below_size ax23)); replace BK125 := ub BK125 hb; replace HB := Aside0.mk (below_step ax23 hb); (try clear hb); (try clear hb2); (try clear hk); (try clear hi); (try clear ho0); obtain ⟨Ao38, co38, eo38⟩ := Kd.R_slice HO133.out; subst eo38; have p134 : 0 ≤ (0 : Int) := (by omega); have q134 : 0 < (t131.length : Int) := of_decide_eq_true ax12; obtain ⟨ad134, e134, hx134_0⟩ := Kd.at_string (Kd.R_reads' HO133.out).2.2 0 p134 q134; cases e134; have qi134 : (0 < t131.length) = True := eq_true (by omega); (try rw [show ((0 : Int)).toNat = 0 from rfl] at hx134_0); (try rw [Addr.add_zero'] at hx134_0); replace p134 := eq_true p134; replace q134 := eq_true q134) | ((with_reducible refine gate_dst (N := 10) rfl ?_); (try (refine gate_guard (by rfl) ?_; dsimp only)); refine box_event ?hg (N := 10) ?hd (cs := #[.string (⟨#[]⟩ : ByteArray), .string (⟨#[]⟩ : ByteArray)]) (t := 33) ?hr ?_; (case hd => rfl); (case hg => rfl); (case hr => exact ax9); intro gb135 hg w39 hbox hb; replace HO133 := uR HO133 hb; have BK135 := Aside0.mk (hbox); have GW135 := Aside0.mk ((ax27 : w.heap.size ≤ gb135)); have GE135 := Aside0.mk ((ax27 : w.heap.size ≤ gb135)); replace HB := Aside0.mk (below_step ax23 hb); have NB125_135 := uN hg BK125; have NB135_125 := uM hg BK125; replace BK125 := ub BK125 hb; clear hb hbox hg; have hnb40 := NB135_125.out; have hnc40 := NB125_135.out; have hcz41_0 := bc (.string (⟨#[]⟩ : ByteArray)) BK135 0; have hcz41_1 := bc (.string (⟨#[]⟩ : ByteArray)) BK135 1; have hfz41_0 := blk_frozen BK135.out 0; have hfz41_1 := blk_frozen BK135.out 1))
              have n0_ : Aside0 (Kd.R Kd.string 9 ((w39.setCell ⟨gb135, 0, none⟩ (.string (rdOf ByteArray.empty t131 0))).setCell ⟨gb135, 1, none⟩ (.string js31)) w.heap.size (fun _ => True) (.slice (some ad134) t131.length co38) t131) := ⟨ax28⟩
              have n1_ : Aside0 (((w39.setCell ⟨gb135, 0, none⟩ (.string (rdOf ByteArray.empty t131 0))).setCell ⟨gb135, 1, none⟩ (.string js31)).heap[gb125]? = some (.cells #[.string (⟨#[]⟩ : ByteArray), .string (⟨#[]⟩ : ByteArray)] 33 (0, 0))) := ⟨ax29⟩
              have n2_ : Aside0 (((w39.setCell ⟨gb135, 0, none⟩ (.string (rdOf ByteArray.empty t131 0))).setCell ⟨gb135, 1, none⟩ (.string js31)).heap[gb135]? = some (.cells #[.string (rdOf ByteArray.empty t131 0), .string js31] 33 (0, 0))) := ⟨ax30⟩
              have n3_ : Aside0 (Below w.heap.size w ((w39.setCell ⟨gb135, 0, none⟩ (.string (rdOf ByteArray.empty t131 0))).setCell ⟨gb135, 1, none⟩ (.string js31))) := ⟨ax31⟩
              (try clear HO133); (try clear BK125); (try clear BK135); (try clear HB); generalize ((w39.setCell ⟨gb135, 0, none⟩ (.string (rdOf ByteArray.empty t131 0))).setCell ⟨gb135, 1, none⟩ (.string js31)) = w42 at n0_ n1_ n2_ n3_ ⊢; have HO133 := n0_; have BK125 := n1_; have BK135 := n2_; have HB := n3_; clear n0_ n1_ n2_ n3_; replace HO133 := Aside0.mk (Kd.R_drew HO133.out); replace BK125 := Aside0.mk (blk_drew BK125.out); replace BK135 := Aside0.mk (blk_drew BK135.out); replace HB := Aside0.mk (below_drew1 HB.out)
              refine start_ (n := 13) (S := fun w' => w'.cell? ⟨gb135, 0, none⟩ = some (.string (rdOf ByteArray.empty t131 0)) ∧ w'.cell? ⟨gb135, 1, none⟩ = some (.string js31)) (ds := []) (ob 13 0) (by kernel_rfl) rfl rfl ⟨(blk_cell BK135.out 0).trans rfl, (blk_cell BK135.out 1).trans rfl⟩ (fun hHeld => ?_); refine with_tabW spec_l12Decode.tab10 spec_l12Decode.bits10 (fun HT_ HW_ => ?_)
              generalize w42.drew = w43 at HO133 BK125 BK135 HB hHeld ⊢
              refine tk 0 53 ?_; refine tk 1 54 ?_
              refine one_ (i := 2) (N := some 55) (ob 13 7) rfl rfl (one_of HT_.out (by kernel_rfl)) (by decide) (fun K hK => ?_)
              refine goes_ Tryd.func40 (by kernel_rfl) rfl #[.agg #[.string (rdOf ByteArray.empty t131 0), .string js31]] (by rfl) rfl rfl ax20 ?_
              with_reducible refine (spec_l12Record.calls kj7 (rdOf ByteArray.empty t131 0) js31 true _ A32.out).mono ?_
              rintro e w44 ⟨rfl, hb⟩
              refine ⟨_, rfl, ?_⟩
              replace HO133 := uR HO133 hb; replace BK125 := ub BK125 hb; replace BK135 := ub BK135 hb; replace HB := Aside0.mk (below_step ax31 hb); (try clear hb); (try clear hb2); (try clear hk); (try clear hi)
              refine hK.out _ _ ⟨(blk_cell BK135.out 0).trans rfl, (blk_cell BK135.out 1).trans rfl⟩ (fun hHeld => ?_)
              clear hK K
              refine nm 55 ?_
              refine pu 3 56 ?_; refine pu 4 57 ?_; refine pu 7 60 ?_; refine pu 8 61 ?_; refine tk 5 58 ?_
              refine one_ (i := 6) (N := some 59) (ob 13 511) rfl rfl (one_of HT_.out (by kernel_rfl)) (by decide) (fun K hK => ?_)
              refine goes_ Tryd.func41 (by kernel_rfl) rfl #[.int .i64 a1, .agg #[.string (rdOf ByteArray.empty t131 0), .string js31]] (by rfl) rfl rfl ax20 ?_
              with_reducible refine (spec_l12Line.calls kj7 a1 (rdOf ByteArray.empty t131 0) js31 t137 _ A34.out).mono ?_
              rintro e w45 ⟨rfl, hb⟩
              refine ⟨_, rfl, ?_⟩
              replace HO133 := uR HO133 hb; replace BK125 := ub BK125 hb; replace BK135 := ub BK135 hb; replace HB := Aside0.mk (below_step ax31 hb); (try clear hb); (try clear hb2); (try clear hk); (try clear hi)
              refine hK.out _ _ ⟨(blk_cell BK135.out 0).trans rfl, (blk_cell BK135.out 1).trans rfl⟩ (fun hHeld => ?_)
              clear hK K
              refine nm 59 ?_
              refine pu 9 62 ?_; refine pu 10 63 ?_
              refine one_ (i := 11) (N := none) (ob 13 4095) rfl rfl (one_of HT_.out (by kernel_rfl)) (by decide) (fun K hK => ?_)
              have hs46 : w45.cell? ⟨gb125, 0, none⟩ = some (.string (⟨#[]⟩ : ByteArray)) := (blk_cell BK125.out 0).trans rfl
              have hfs46 := blk_frozen BK125.out 0; have hns46_1 := NB135_125.out; have hms46_1 := NB125_135.out
              have hs47 : w45.cell? ⟨gb125, 1, none⟩ = some (.string (⟨#[]⟩ : ByteArray)) := (blk_cell BK125.out 1).trans rfl
              have hfs47 := blk_frozen BK125.out 1; have hns47_1 := NB135_125.out; have hms47_1 := NB125_135.out
              refine skip_ (w1 := ?_) (by rfl) rfl ?_ ?_
              rotate_left
              ·go_simp
               rfl
              refine hK.out _ _ ⟨((cell_far (p := ⟨gb125, _, none⟩) NB135_125.out _).trans (((cell_far (p := ⟨gb125, _, none⟩) NB135_125.out _).trans (hHeld.1)))), ((cell_far (p := ⟨gb125, _, none⟩) NB135_125.out _).trans (((cell_far (p := ⟨gb125, _, none⟩) NB135_125.out _).trans (hHeld.2))))⟩ (fun hHeld => ?_)
              clear hK K
              refine pu 12 5 ?_
              refine dn ?_
              try go_wp2
              refine bodyPost_ret (results_ct rfl _ _ gb125 33 #[.string (rdOf ByteArray.empty t131 0), .string js31] (0, 0) _ rfl ax32 Tryd.underlying33 rfl (by kernel_rfl)) rfl ?_
              exact ⟨(by first | rfl | (simp [errW_none, errW_some] <;> rfl) | (simp only [← hjs5, ← hjs21, ← hji28, ← hjs31, ← hjs36]; first | rfl | (simp [errW_none, errW_some] <;> rfl)) | (simp [*, errW_none, errW_some] <;> rfl)), by repeat (first | (with_reducible first | exact HB.out | apply below_alloc | apply pw_below_drewN | apply below_drew1 | refine below_set ?_ GE125.out | refine below_set ?_ GE135.out) | exact HB.out)⟩
             ·rw [if_neg c35] at H
              exact absurd H (by simp)
            ·replace c33 := Bool.eq_false_iff.mpr c33
             subst c33
             rw [if_neg (show ¬ (false = true) by decide)] at H
             simp only [Option.some.injEq, Prod.mk.injEq] at H
             obtain ⟨rfl, rfl, rfl⟩ := H
             try go_wp2_with (first | (refine gd 37 61 ?_; refine gc 37 Tryd.func61 #[.string js21, .int .u8 64] (spec_l1Split.calls kj7 js21 64 t131 _ A22.out) ?_; rintro e w48 ⟨v132, rfl, ho0, hb⟩; refine ⟨_, rfl, ?_⟩; have HO133 := Aside0.mk (Kd.R_lower ho0 (below_size ax23)); replace BK125 := ub BK125 hb; replace HB := Aside0.mk (below_step ax23 hb); (try clear hb); (try clear hb2); (try clear hk); (try clear hi); (try clear ho0); obtain ⟨Ao49, co49, eo49⟩ := Kd.R_slice HO133.out; subst eo49; have p134 : 0 ≤ (0 : Int) := (by omega); have q134 : 0 < (t131.length : Int) := of_decide_eq_true ax12; obtain ⟨ad134, e134, hx134_0⟩ := Kd.at_string (Kd.R_reads' HO133.out).2.2 0 p134 q134; cases e134; have qi134 : (0 < t131.length) = True := eq_true (by omega); (try rw [show ((0 : Int)).toNat = 0 from rfl] at hx134_0); (try rw [Addr.add_zero'] at hx134_0); replace p134 := eq_true p134; replace q134 := eq_true q134) | ((with_reducible refine gate_dst (N := 10) rfl ?_); (try (refine gate_guard (by rfl) ?_; dsimp only)); refine box_event ?hg (N := 10) ?hd (cs := #[.string (⟨#[]⟩ : ByteArray), .string (⟨#[]⟩ : ByteArray)]) (t := 33) ?hr ?_; (case hd => rfl); (case hg => rfl); (case hr => exact ax9); intro gb135 hg w50 hbox hb; replace HO133 := uR HO133 hb; have BK135 := Aside0.mk (hbox); have GW135 := Aside0.mk ((ax27 : w.heap.size ≤ gb135)); have GE135 := Aside0.mk ((ax27 : w.heap.size ≤ gb135)); replace HB := Aside0.mk (below_step ax23 hb); have NB125_135 := uN hg BK125; have NB135_125 := uM hg BK125; replace BK125 := ub BK125 hb; clear hb hbox hg; have hnb51 := NB135_125.out; have hnc51 := NB125_135.out; have hcz52_0 := bc (.string (⟨#[]⟩ : ByteArray)) BK135 0; have hcz52_1 := bc (.string (⟨#[]⟩ : ByteArray)) BK135 1; have hfz52_0 := blk_frozen BK135.out 0; have hfz52_1 := blk_frozen BK135.out 1))
             have n0_ : Aside0 (Kd.R Kd.string 9 ((w50.setCell ⟨gb135, 0, none⟩ (.string (rdOf ByteArray.empty t131 0))).setCell ⟨gb135, 1, none⟩ (.string js31)) w.heap.size (fun _ => True) (.slice (some ad134) t131.length co49) t131) := ⟨ax28⟩
             have n1_ : Aside0 (((w50.setCell ⟨gb135, 0, none⟩ (.string (rdOf ByteArray.empty t131 0))).setCell ⟨gb135, 1, none⟩ (.string js31)).heap[gb125]? = some (.cells #[.string (⟨#[]⟩ : ByteArray), .string (⟨#[]⟩ : ByteArray)] 33 (0, 0))) := ⟨ax29⟩
             have n2_ : Aside0 (((w50.setCell ⟨gb135, 0, none⟩ (.string (rdOf ByteArray.empty t131 0))).setCell ⟨gb135, 1, none⟩ (.string js31)).heap[gb135]? = some (.cells #[.string (rdOf ByteArray.empty t131 0), .string js31] 33 (0, 0))) := ⟨ax30⟩
             have n3_ : Aside0 (Below w.heap.size w ((w50.setCell ⟨gb135, 0, none⟩ (.string (rdOf ByteArray.empty t131 0))).setCell ⟨gb135, 1, none⟩ (.string js31))) := ⟨ax31⟩
             (try clear HO133); (try clear BK125); (try clear BK135); (try clear HB); generalize ((w50.setCell ⟨gb135, 0, none⟩ (.string (rdOf ByteArray.empty t131 0))).setCell ⟨gb135, 1, none⟩ (.string js31)) = w53 at n0_ n1_ n2_ n3_ ⊢; have HO133 := n0_; have BK125 := n1_; have BK135 := n2_; have HB := n3_; clear n0_ n1_ n2_ n3_; replace HO133 := Aside0.mk (Kd.R_drew HO133.out); replace BK125 := Aside0.mk (blk_drew BK125.out); replace BK135 := Aside0.mk (blk_drew BK135.out); replace HB := Aside0.mk (below_drew1 HB.out)
             refine start_ (n := 13) (S := fun w' => w'.cell? ⟨gb135, 0, none⟩ = some (.string (rdOf ByteArray.empty t131 0)) ∧ w'.cell? ⟨gb135, 1, none⟩ = some (.string js31)) (ds := []) (ob 13 0) (by kernel_rfl) rfl rfl ⟨(blk_cell BK135.out 0).trans rfl, (blk_cell BK135.out 1).trans rfl⟩ (fun hHeld => ?_); refine with_tabW spec_l12Decode.tab10 spec_l12Decode.bits10 (fun HT_ HW_ => ?_)
             generalize w53.drew = w54 at HO133 BK125 BK135 HB hHeld ⊢
             refine tk 0 53 ?_; refine tk 1 54 ?_
             refine one_ (i := 2) (N := some 55) (ob 13 7) rfl rfl (one_of HT_.out (by kernel_rfl)) (by decide) (fun K hK => ?_)
             refine goes_ Tryd.func40 (by kernel_rfl) rfl #[.agg #[.string (rdOf ByteArray.empty t131 0), .string js31]] (by rfl) rfl rfl ax20 ?_
             with_reducible refine (spec_l12Record.calls kj7 (rdOf ByteArray.empty t131 0) js31 false _ A32.out).mono ?_
             rintro e w55 ⟨rfl, hb⟩
             refine ⟨_, rfl, ?_⟩
             replace HO133 := uR HO133 hb; replace BK125 := ub BK125 hb; replace BK135 := ub BK135 hb; replace HB := Aside0.mk (below_step ax31 hb); (try clear hb); (try clear hb2); (try clear hk); (try clear hi)
             refine hK.out _ _ ⟨(blk_cell BK135.out 0).trans rfl, (blk_cell BK135.out 1).trans rfl⟩ (fun hHeld => ?_)
             clear hK K
             refine nm 55 ?_
             refine pu 3 56 ?_; refine pu 4 57 ?_; refine pu 5 58 ?_; refine pu 6 59 ?_; refine pu 7 60 ?_; refine pu 8 61 ?_; refine pu 9 62 ?_; refine pu 10 63 ?_
             refine one_ (i := 11) (N := none) (ob 13 4095) rfl rfl (one_of HT_.out (by kernel_rfl)) (by decide) (fun K hK => ?_)
             have hs56 : w55.cell? ⟨gb125, 0, none⟩ = some (.string (⟨#[]⟩ : ByteArray)) := (blk_cell BK125.out 0).trans rfl
             have hfs56 := blk_frozen BK125.out 0; have hns56_1 := NB135_125.out; have hms56_1 := NB125_135.out
             have hs57 : w55.cell? ⟨gb125, 1, none⟩ = some (.string (⟨#[]⟩ : ByteArray)) := (blk_cell BK125.out 1).trans rfl
             have hfs57 := blk_frozen BK125.out 1; have hns57_1 := NB135_125.out; have hms57_1 := NB125_135.out
             refine skip_ (w1 := ?_) (by rfl) rfl ?_ ?_
             rotate_left
             ·go_simp
              rfl
             refine hK.out _ _ ⟨((cell_far (p := ⟨gb125, _, none⟩) NB135_125.out _).trans (((cell_far (p := ⟨gb125, _, none⟩) NB135_125.out _).trans (hHeld.1)))), ((cell_far (p := ⟨gb125, _, none⟩) NB135_125.out _).trans (((cell_far (p := ⟨gb125, _, none⟩) NB135_125.out _).trans (hHeld.2))))⟩ (fun hHeld => ?_)
             clear hK K
             refine pu 12 5 ?_
             refine dn ?_
             try go_wp2
             refine bodyPost_ret (results_ct rfl _ _ gb125 33 #[.string (rdOf ByteArray.empty t131 0), .string js31] (0, 0) _ rfl ax32 Tryd.underlying33 rfl (by kernel_rfl)) rfl ?_
             exact ⟨(by first | rfl | (simp [errW_none, errW_some] <;> rfl) | (simp only [← hjs5, ← hjs21, ← hji28, ← hjs31]; first | rfl | (simp [errW_none, errW_some] <;> rfl)) | (simp [*, errW_none, errW_some] <;> rfl)), by repeat (first | (with_reducible first | exact HB.out | apply below_alloc | apply pw_below_drewN | apply below_drew1 | refine below_set ?_ GE125.out | refine below_set ?_ GE135.out) | exact HB.out)⟩
           ·rw [if_neg c30] at H
            exact absurd H (by simp)
          ·rw [if_neg c29] at H
           exact absurd H (by simp)
        ·rw [if_neg c23] at H
         exact absurd H (by simp)
       ·rw [if_neg c20] at H
        exact absurd H (by simp)
      ·rw [if_neg c19] at H
       exact absurd H (by simp)
  ·exact ax5
 ·exact ax3
end Go.Proofs.YtnjjchbhbicmoaaDoor.X

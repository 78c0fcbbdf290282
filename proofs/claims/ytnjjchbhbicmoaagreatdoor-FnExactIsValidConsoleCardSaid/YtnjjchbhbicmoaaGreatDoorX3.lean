-- By gen.py (the session's own program over the kit's printer): functions of the program, each with its contract. Lean checks it.
import Derived.Test.YtnjjchbhbicmoaaGreatDoorX0
import Derived.Test.YtnjjchbhbicmoaaGreatDoorX2
namespace Go.Proofs.YtnjjchbhbicmoaaGreatDoor.X
open Go.RowKit Go.Proofs.YtnjjchbhbicmoaaGreatDoorW.PrintWords Go.Proofs.YtnjjchbhbicmoaaGreatDoorW.PrintLast Go.Proofs.YtnjjchbhbicmoaaGreatDoorW.PrintMore
attribute [local go_sem] max2_int min2_int max_two min_two max_three min_three max_four min_four   -- for this text's walks alone
set_option linter.unusedVariables false
set_option linter.unusedSimpArgs false

/-! ### spec_l2Put: function 32 -/
def spec_l2Put.l0 : Nat → List ByteArray → ByteArray → Int → Option (List ByteArray)
 | 0, _, _, _ => none
 | k + 1, x0, x1, x5 => if x5 < (x0.length : Int) then (if 0 ≤ x5 then ((spec_l2Before.f k (rdOf ByteArray.empty x0 x5) x1).bind fun t122 => (if t122 = true then (spec_l2Put.l0 k x0 x1 (wrap64 (x5 + 1))) else (if (rdOf ByteArray.empty x0 x5).toList = x1.toList then (some x0) else (if x5 ≤ (x0.length : Int) then ((spec_l2Own.f (x0.take (x5 : Int).toNat)).bind fun t129 => ((some (([x1] : List ByteArray) : List ByteArray)).bind fun y132 => (if t129.length + y132.length < 8796093022208 then ((some (t129 ++ y132 : List ByteArray)).bind fun y135 => ((some (x0.drop (x5 : Int).toNat : List ByteArray)).bind fun y138 => (if y135.length + y138.length < 8796093022208 then (some (y135 ++ y138)) else (none)))) else (none)))) else (none))))) else (none)) else (if 0 ≤ x5 then (if x5 ≤ (x0.length : Int) then ((spec_l2Own.f (x0.take (x5 : Int).toNat)).bind fun t151 => ((some (([x1] : List ByteArray) : List ByteArray)).bind fun y154 => (if t151.length + y154.length < 8796093022208 then ((some (t151 ++ y154 : List ByteArray)).bind fun y157 => ((some (x0.drop (x5 : Int).toNat : List ByteArray)).bind fun y160 => (if y157.length + y160.length < 8796093022208 then (some (y157 ++ y160)) else (none)))) else (none)))) else (none)) else (none))
def spec_l2Put.f (k : Nat) (l0 : List ByteArray) (a1 : ByteArray) : Option (List ByteArray) := spec_l2Put.l0 k l0 a1 0
theorem spec_l2Put.mono_l : ∀ k, (∀ y0 y1 y2, LeO (spec_l2Put.l0 k y0 y1 y2) (spec_l2Put.l0 (k + 1) y0 y1 y2))
 | 0 => fun _ _ _ r h => by simp [spec_l2Put.l0] at h
 | k + 1 => by
  have ih0 := spec_l2Put.mono_l k
  ·intro y0 y1 y2
   unfold spec_l2Put.l0
   repeat' first | (with_reducible first | exact ih0 .. | exact spec_l2Before.mono .. | exact LeO.refl _ | exact LeO.none _ | refine LeO.ite ?_ ?_ | refine LeO.bind ?_ (fun _ => ?_)) | exact ih0 .. | exact spec_l2Before.mono .. | exact LeO.none _ | refine LeO.ite ?_ ?_ | refine LeO.bind ?_ (fun _ => ?_)
theorem spec_l2Put.mono : ∀ a0 a1 k, LeO (spec_l2Put.f k a0 a1) (spec_l2Put.f (k + 1) a0 a1) := by
 intro a0 a1 k
 have ih0 := spec_l2Put.mono_l k
 unfold spec_l2Put.f
 repeat' first | (with_reducible first | exact ih0 .. | exact spec_l2Before.mono .. | exact LeO.refl _ | exact LeO.none _ | refine LeO.ite ?_ ?_ | refine LeO.bind ?_ (fun _ => ?_)) | exact ih0 .. | exact spec_l2Before.mono .. | exact LeO.none _ | refine LeO.ite ?_ ?_ | refine LeO.bind ?_ (fun _ => ?_)
def spec_l2Put.T6 : Bool × List (List Nat × List Nat) := (true, [([], []), ([], []), ([0, 1], [0, 1]), ([2], [2]), ([], []), ([4], [4]), ([3, 5, 3], [3, 5]), ([], []), ([], []), ([7, 8], [7, 8]), ([6, 9, 6], [6, 9]), ([10, 10, 0, 1, 2, 3, 4, 5, 6, 7, 8, 9, 10], [10])])
def spec_l2Put.B6 : List Nat := [0, 0, 3, 7, 0, 16, 63, 0, 0, 384, 1023, 2047]
theorem spec_l2Put.tab6 : rtab .any (opsOf Tryz.f32 6) = spec_l2Put.T6 := by kernel_rfl
theorem spec_l2Put.bits6 : waitsOk spec_l2Put.T6.2 spec_l2Put.B6 = true := by kernel_rfl
set_option maxHeartbeats 8000000 in
set_option maxRecDepth 100000 in
theorem spec_l2Put.calls (k : Nat) (P0_ : Nat → Prop) (A0 : Option Addr) (c0 : Nat) (l0 : List ByteArray) (a1 : ByteArray) (r : List ByteArray) (w : World) (hs0 : Kd.V Kd.string 9 w w.heap.size (fun k_ => P0_ k_) (.slice A0 l0.length c0) l0) (h : spec_l2Put.f k l0 a1 = some r) :
  Calls Tryz.prog 32 #[.slice A0 l0.length c0, .string a1] w fun e w' => ∃ v0_ : Value, e = .returned (v0_) ∧ Kd.V Kd.string 9 w' w.heap.size (fun k_ => (P0_ k_ ∨ w.heap.size ≤ k_)) v0_ r ∧ Below w.heap.size w w' := by
 have HO0 := Aside0.mk (show Kd.V Kd.string 9 w w.heap.size (fun k_ => (P0_ k_ ∨ w.heap.size ≤ k_)) (.slice A0 l0.length c0) l0 from Kd.V_mono hs0 (fun k_ hk => .inl hk))
 have HB := Aside0.mk (Below.refl w.heap.size w)
 have H : (spec_l2Put.l0 k l0 a1 0) = some r := h
 clear h
 have H' := Aside0.mk H
 clear H
 go_enter Tryz.func32, Tryz.ntmps32
 go_wp2
 go_loopg [5] k (fun kq v5 w' => ∃ (x5_1 : Int), v5 = .int .i64 x5_1 ∧ Aside0 (spec_l2Put.l0 kq l0 a1 x5_1 = some r) ∧ Aside0 (kq ≤ k) ∧ Aside0 (Kd.V Kd.string 9 w' w.heap.size (fun k_ => (P0_ k_ ∨ w.heap.size ≤ k_)) (.slice A0 l0.length c0) l0) ∧ Aside0 (Below w.heap.size w w'))
 case atStart => exact ⟨(0), ax15, H', ⟨Nat.le_refl _⟩, ⟨(by (with_reducible repeat (first | apply Kd.V_alloc | apply Kd.V_drewN | apply Kd.V_drew)); exact HO0.out)⟩, ⟨ax9⟩⟩
 case round =>
  clear H'
  try clear p2
  obtain ⟨x5_1, rfl, HA, HK1, HO_0, HB⟩ := hrel
  cases gk with
  | zero => exact absurd HA.out (by simp [spec_l2Put.l0])
  | succ k1 =>
   have H := HA.out; clear HA
   simp only [spec_l2Put.l0] at H
   by_cases c3 : x5_1 < (l0.length : Int)
   ·rw [if_pos c3] at H
    have c3b0 : decide (x5_1 < (l0.length : Int)) = true := decide_eq_true c3
    clear c3
    by_cases c4 : 0 ≤ x5_1
    ·rw [if_pos c4] at H
     have c4b0 : decide (0 ≤ x5_1) = true := decide_eq_true c4
     clear c4
     obtain ⟨t122, A5, H⟩ := bs H
     by_cases c6 : t122 = true
     ·subst c6
      rw [if_pos rfl] at H
      have H' := Aside0.mk H
      clear H
      have p121 : 0 ≤ (x5_1 : Int) := of_decide_eq_true ax17
      have q121 : x5_1 < (l0.length : Int) := of_decide_eq_true ax17
      obtain ⟨ad121, e121, hx121_0⟩ := Kd.at_string (Kd.V_reads' HO_0.out).2.2 x5_1 p121 q121
      cases e121; replace p121 := eq_true p121; replace q121 := eq_true q121
      go_wp2_with (first | (go_at_call 45; (with_reducible refine (spec_l2Before.calls k1 (rdOf ByteArray.empty l0 x5_1) a1 true _ A5.out).mono ?_); rintro e w' ⟨rfl, ⟨nd, rfl⟩⟩))
      go_roundg k1
      case measure => have := HK1.out; omega
      case rel => exact ⟨(wrap64 (x5_1 + 1)), ax15, H', ⟨by have := HK1.out; omega⟩, ⟨ax25⟩, ⟨ax9⟩⟩
     ·replace c6 := Bool.eq_false_iff.mpr c6
      subst c6
      rw [if_neg (show ¬ (false = true) by decide)] at H
      by_cases c7 : (rdOf ByteArray.empty l0 x5_1).toList = a1.toList
      ·rw [if_pos c7] at H
       have c7b0 : ((rdOf ByteArray.empty l0 x5_1).toList == a1.toList) = true := beq_iff_eq.mpr c7
       have c7b1 : ((rdOf ByteArray.empty l0 x5_1).toList != a1.toList) = false := bne_eq_false_iff_eq.mpr c7
       clear c7
       obtain rfl := Option.some.inj H
       have p121 : 0 ≤ (x5_1 : Int) := of_decide_eq_true ax17
       have q121 : x5_1 < (l0.length : Int) := of_decide_eq_true ax17
       obtain ⟨ad121, e121, hx121_0⟩ := Kd.at_string (Kd.V_reads' HO_0.out).2.2 x5_1 p121 q121
       cases e121; replace p121 := eq_true p121; replace q121 := eq_true q121
       go_wp2_with (first | (go_at_call 45; (with_reducible refine (spec_l2Before.calls k1 (rdOf ByteArray.empty l0 x5_1) a1 false _ A5.out).mono ?_); rintro e w' ⟨rfl, ⟨nd, rfl⟩⟩; have p123 : 0 ≤ (x5_1 : Int) := of_decide_eq_true ax17; have q123 : x5_1 < (l0.length : Int) := of_decide_eq_true ax17; obtain ⟨ad123, e123, hx123_0⟩ := Kd.at_string (Kd.V_reads' HO_0.out).2.2 x5_1 p123 q123; obtain rfl : ad121 = ad123 := (by injection e123); replace p123 := eq_true p123; replace q123 := eq_true q123))
       go_ret
       exact ⟨_, by first | rfl | (simp [errW_none, errW_some] <;> rfl) | (simp [*, errW_none, errW_some] <;> rfl), by (with_reducible repeat (first | apply Kd.V_alloc | apply Kd.V_drewN | apply Kd.V_drew)); exact HO_0.out, by repeat (first | (with_reducible first | exact HB.out | apply below_alloc | apply pw_below_drewN | apply below_drew1) | exact HB.out)⟩
      ·rw [if_neg c7] at H
       have c7b0 : ((rdOf ByteArray.empty l0 x5_1).toList == a1.toList) = false := beq_eq_false_iff_ne.mpr c7
       have c7b1 : ((rdOf ByteArray.empty l0 x5_1).toList != a1.toList) = true := bne_iff_ne.mpr c7
       have c8b0 := eq_true (of_decide_eq_true ax17 : 0 ≤ x5_1)
       by_cases c9 : x5_1 ≤ (l0.length : Int)
       ·rw [if_pos c9] at H
        have c9b0 := eq_true c9
        have c9b1 : decide (x5_1 ≤ (l0.length : Int)) = true := decide_eq_true c9
        clear c9
        obtain ⟨y124, hy124⟩ : ∃ y_ : List ByteArray, y_ = (l0.take (x5_1 : Int).toNat) := ⟨_, rfl⟩
        replace H : ((spec_l2Own.f y124).bind fun t129 => ((some (([a1] : List ByteArray) : List ByteArray)).bind fun y132 => (if t129.length + y132.length < 8796093022208 then ((some (t129 ++ y132 : List ByteArray)).bind fun y135 => ((some (l0.drop (x5_1 : Int).toNat : List ByteArray)).bind fun y138 => (if y135.length + y138.length < 8796093022208 then (some (y135 ++ y138)) else (none)))) else (none)))) = some r := by first | (rw [hy124]; with_reducible exact H) | (have H2_ := (Option.bind_some _ _).symm.trans H; rw [hy124]; with_reducible exact H2_) | (have H2_ := (Option.bind_some _ _).symm.trans H; with_reducible exact H2_) | with_reducible exact H | (rw [hy124]; exact H) | exact H
        have Ny124 := Aside0.mk hy124; clear hy124
        obtain ⟨t129, A10, H⟩ := bs H
        obtain ⟨y132, hy132⟩ : ∃ y_ : List ByteArray, y_ = (([a1] : List ByteArray)) := ⟨_, rfl⟩
        replace H : (if t129.length + y132.length < 8796093022208 then ((some (t129 ++ y132 : List ByteArray)).bind fun y135 => ((some (l0.drop (x5_1 : Int).toNat : List ByteArray)).bind fun y138 => (if y135.length + y138.length < 8796093022208 then (some (y135 ++ y138)) else (none)))) else (none)) = some r := by first | (rw [hy132]; with_reducible exact H) | (have H2_ := (Option.bind_some _ _).symm.trans H; rw [hy132]; with_reducible exact H2_) | (have H2_ := (Option.bind_some _ _).symm.trans H; with_reducible exact H2_) | with_reducible exact H | (rw [hy132]; exact H) | exact H
        have Ny132 := Aside0.mk hy132; clear hy132
        by_cases c11 : t129.length + y132.length < 8796093022208
        ·rw [if_pos c11] at H
         have LMc11 := Aside0.mk c11; clear c11
         obtain ⟨y135, hy135⟩ : ∃ y_ : List ByteArray, y_ = (t129 ++ y132) := ⟨_, rfl⟩
         replace H : ((some (l0.drop (x5_1 : Int).toNat : List ByteArray)).bind fun y138 => (if y135.length + y138.length < 8796093022208 then (some (y135 ++ y138)) else (none))) = some r := by first | (rw [hy135]; with_reducible exact H) | (have H2_ := (Option.bind_some _ _).symm.trans H; rw [hy135]; with_reducible exact H2_) | (have H2_ := (Option.bind_some _ _).symm.trans H; with_reducible exact H2_) | with_reducible exact H | (rw [hy135]; exact H) | exact H
         have Ny135 := Aside0.mk hy135; clear hy135; have c12b0 := eq_true (of_decide_eq_true ax17 : 0 ≤ x5_1); have c13b0 := eq_true (of_decide_eq_true ax17 : x5_1 ≤ (l0.length : Int))
         obtain ⟨y138, hy138⟩ : ∃ y_ : List ByteArray, y_ = (l0.drop (x5_1 : Int).toNat) := ⟨_, rfl⟩
         replace H : (if y135.length + y138.length < 8796093022208 then (some (y135 ++ y138)) else (none)) = some r := by first | (rw [hy138]; with_reducible exact H) | (have H2_ := (Option.bind_some _ _).symm.trans H; rw [hy138]; with_reducible exact H2_) | (have H2_ := (Option.bind_some _ _).symm.trans H; with_reducible exact H2_) | with_reducible exact H | (rw [hy138]; exact H) | exact H
         have Ny138 := Aside0.mk hy138; clear hy138
         by_cases c14 : y135.length + y138.length < 8796093022208
         ·rw [if_pos c14] at H
          have LMc14 := Aside0.mk c14; clear c14
          obtain ⟨y143, hy143⟩ : ∃ y_ : List ByteArray, y_ = (y135 ++ y138) := ⟨_, rfl⟩
          replace H : (some y143) = some r := by first | (rw [hy143]; with_reducible exact H) | (have H2_ := (Option.bind_some _ _).symm.trans H; rw [hy143]; with_reducible exact H2_) | (have H2_ := (Option.bind_some _ _).symm.trans H; with_reducible exact H2_) | with_reducible exact H | (rw [hy143]; exact H) | exact H
          have Ny143 := Aside0.mk hy143; clear hy143
          obtain rfl := Option.some.inj H
          have p121 : 0 ≤ (x5_1 : Int) := of_decide_eq_true ax17
          have q121 : x5_1 < (l0.length : Int) := of_decide_eq_true ax17
          obtain ⟨ad121, e121, hx121_0⟩ := Kd.at_string (Kd.V_reads' HO_0.out).2.2 x5_1 p121 q121
          cases e121; replace p121 := eq_true p121; replace q121 := eq_true q121
          try go_wp2_with (first | (go_at_call 45; (with_reducible refine (spec_l2Before.calls k1 (rdOf ByteArray.empty l0 x5_1) a1 false _ A5.out).mono ?_); rintro e w' ⟨rfl, ⟨nd, rfl⟩⟩; have p123 : 0 ≤ (x5_1 : Int) := of_decide_eq_true ax17; have q123 : x5_1 < (l0.length : Int) := of_decide_eq_true ax17; obtain ⟨ad123, e123, hx123_0⟩ := Kd.at_string (Kd.V_reads' HO_0.out).2.2 x5_1 p123 q123; obtain rfl : ad121 = ad123 := (by injection e123); replace p123 := eq_true p123; replace q123 := eq_true q123))
          (try (rw [drewN_self wr]; generalize hq_ : World.drewN wr _ = wr; have n0_ : Aside0 (Kd.V Kd.string 9 wr w.heap.size (fun k_ => (P0_ k_ ∨ w.heap.size ≤ k_)) (.slice (some ad121) l0.length c0) l0) := ⟨(by rw [← hq_]; exact ax25)⟩; have n1_ : Aside0 (Below w.heap.size w wr) := ⟨ax26⟩; clear HO_0 HB hq_; have HO_0 := n0_; have HB := n1_; clear n0_ n1_))
          have n0_ := Aside0.mk (Kd.V_drew HO_0.out); have n1_ := Aside0.mk (below_drew1 HB.out); clear HO_0; clear HB; have HO_0 := n0_; have HB := n1_; clear n0_ n1_
          have q16 : (x5_1 : Int) ≤ ((l0.length : Int) : Int) := of_decide_eq_true ax17
          obtain ⟨i016, hi016, _, hsz16, _⟩ := info_parts info9
          have hroom16 : l0.length ≤ c0 := (Kd.V_reads' HO_0.out).2.1
          have hC16 : Kd.F Kd.string _ _ (some ad121) l0.length l0 := (Kd.V_at (base := w.heap.size) HO_0.out).2.2
          have hcut16 := cut_to (P := Tryz.prog) 45 9 .i64 Tryz.underlying45 hi016 (some ad121) l0.length c0 x5_1 (of_decide_eq_true ax17) q16 hroom16
          have hr16 := Kd.F_take (m := (x5_1 : Int).toNat) hC16 (by omega)
          have hy16 : y124.length = (x5_1 : Int).toNat := (by rw [Ny124.out, List.length_take]; omega)
          rw [← Ny124.out] at hr16
          rw [← hy16] at hcut16
          have HO128 := Aside0.mk (show Kd.V Kd.string 9 _ w.heap.size _ (.slice (some ad121) y124.length c0) y124 from Kd.V_mk (by omega) hr16); have HC128 := Aside0.mk (show y124.length ≤ c0 from by omega); clear hr16 hC16 hroom16 hi016 hsz16; have KY16 := Aside0.mk hy16; clear hy16; replace q16 := eq_true q16
          have q17 : (x5_1 : Int) ≤ ((l0.length : Int) : Int) := of_decide_eq_true ax17
          obtain ⟨i017, hi017, _, hsz17, _⟩ := info_parts info9
          have hroom17 : l0.length ≤ c0 := (Kd.V_reads' HO_0.out).2.1
          have hC17 : Kd.F Kd.string _ _ (some ad121) l0.length l0 := (Kd.V_at (base := w.heap.size) HO_0.out).2.2
          have q017 : (0 : Int) ≤ (x5_1 : Int) := of_decide_eq_true ax17
          have hcut17 := cut_from (P := Tryz.prog) 45 9 .i64 Tryz.underlying45 hi017 1 hsz17 (some ad121) l0.length c0 x5_1 q017 q17
          have hr17 := Kd.F_cut (m := (x5_1 : Int).toNat) (c := c0) hC17 (by omega) hroom17
          obtain ⟨A17, hA17⟩ : ∃ A1, A1 = (if c0 = (x5_1 : Int).toNat then (some ad121) else ((some ad121) : Option Addr).map (·.add ((x5_1 : Int).toNat * 1))) := ⟨_, rfl⟩
          obtain ⟨c17, hc17⟩ : ∃ c1, c1 = c0 - (x5_1 : Int).toNat := ⟨_, rfl⟩
          have hy17 : y138.length = l0.length - (x5_1 : Int).toNat := (by rw [Ny138.out, List.length_drop] <;> omega)
          rw [show (l0).drop (x5_1 : Int).toNat = y138 from Ny138.out.symm] at hr17
          replace hr17 : Kd.F Kd.string _ _ A17 y138.length y138 := (by rw [hA17]; exact hr17)
          rw [← hy17, ← hA17, ← hc17] at hcut17
          have HO142 := Aside0.mk (show Kd.V Kd.string 9 _ w.heap.size _ (.slice A17 y138.length c17) y138 from Kd.V_mk (by rw [hy17, hc17]; exact Nat.sub_le_sub_right hroom17 _) hr17)
          have HC142 := Aside0.mk (show y138.length ≤ c17 from by rw [hy17, hc17]; exact Nat.sub_le_sub_right hroom17 _)
          clear hr17 hC17 hroom17 hi017 hsz17 hc17; have KY17 := Aside0.mk hy17; have KA17 := Aside0.mk hA17; clear hy17 hA17; replace q17 := eq_true q17
          refine start_ (n := 12) (S := fun w' => True) (ds := []) (ob 12 0) (by kernel_rfl) rfl rfl trivial (fun hHeld => ?_); refine with_tabW spec_l2Put.tab6 spec_l2Put.bits6 (fun HT_ HW_ => ?_)
          generalize wr.drew = w15 at HO_0 HB HO128 HO142 hHeld ⊢
          refine pu 0 33 ?_; refine pu 1 34 ?_; refine pu 2 35 ?_; refine pu 4 37 ?_; refine pu 7 40 ?_; refine pu 8 41 ?_; refine pu 9 42 ?_
          refine join_ (σ := Value × Value) 3 (ob 12 959) (fun s_ => [(36, s_.1), (38, s_.2)]) (fun s_ w' => (Kd.V Kd.string 9 w' w.heap.size (fun k_ => (P0_ k_ ∨ w.heap.size ≤ k_) ∧ some k_ ≠ (s_.1 : Value).ownBlock ∧ some k_ ≠ (s_.2 : Value).ownBlock) (.slice (some ad121) y124.length c0) y124) ∧ (Kd.R Kd.string 9 w' w.heap.size (fun k_ => (w.heap.size ≤ k_) ∧ some k_ ≠ (s_.2 : Value).ownBlock) s_.1 t129) ∧ (Kd.R Kd.string 9 w' w.heap.size (fun k_ => (w.heap.size ≤ k_) ∧ some k_ ≠ (s_.1 : Value).ownBlock) s_.2 y132) ∧ (Kd.V Kd.string 9 w' w.heap.size (fun k_ => (P0_ k_ ∨ w.heap.size ≤ k_) ∧ some k_ ≠ (s_.1 : Value).ownBlock ∧ some k_ ≠ (s_.2 : Value).ownBlock) (.slice A17 y138.length c17) y138) ∧ (Kd.V Kd.string 9 w' w.heap.size (fun k_ => (P0_ k_ ∨ w.heap.size ≤ k_) ∧ some k_ ≠ (s_.1 : Value).ownBlock ∧ some k_ ≠ (s_.2 : Value).ownBlock) (.slice (some ad121) l0.length c0) l0) ∧ (Below w.heap.size w w')) ?_ ?_
          rotate_left
          ·intro hCont
           refine two_ (i := 3) (j := 5) (Ni := some 36) (Nj := some 38) (ob 12 927) (ob 12 951) rfl rfl rfl rfl (two_of HT_.out (by kernel_rfl)) (by decide) (by decide) (fun K hK => ?_) (fun K hK => ?_)
           ·skip
            refine goes_ Tryz.func46 (by kernel_rfl) rfl #[.slice (some ad121) y124.length c0] (by rfl) rfl rfl ax12 ?_
            with_reducible refine (spec_l2Own.calls _ _ y124 t129 _ ?side1 ?side2 A10.out).mono ?_
            (case side1 => exact ax27)
            (case side2 => exact (Kd.V_reads' HO128.out).2.1)
            rintro e w18 ⟨v130, rfl, ho0, hb⟩
            refine ⟨_, rfl, ?_⟩
            have n0_ := Aside0.mk (Kd.V_elder' ax25 (Kd.R_base ho0) hb); have n1_ := Aside0.mk (Kd.V_elder' ax28 (Kd.R_base ho0) hb); have n2_ := Aside0.mk (Kd.V_elder' ax29 (Kd.R_base ho0) hb)
            have n3_ := Aside0.mk (Kd.R_lower (Kd.R_newM (M := fun k_ => (w.heap.size ≤ k_)) ho0 (below_size ax9) (fun k_ h_ => h_)) (below_size ax9))
            have n4_ := Aside0.mk (below_step ax9 hb); clear HO_0; clear HO128; clear HO142; clear HB; have HO_0 := n0_; have HO128 := n1_; have HO142 := n2_; have HO131 := n3_; have HB := n4_; clear n0_ n1_ n2_ n3_ n4_; (try clear hb); (try clear hb2); (try clear hk); (try clear hi); (try clear ho0)
            refine hK.out _ _ trivial (fun hHeld => ?_)
            clear hK K
            refine nm 36 ?_
            refine one_ (i := 5) (N := some 38) (ob 12 959) rfl rfl (one_of HT_.out (by kernel_rfl)) (by decide) (fun K hK => ?_)
            refine Kd.R_lit_step Kd.string _ 9 ?hg (N := 38) ?hd (xs := ([a1] : List ByteArray)) (inner := [.string a1]) (ok := fun _ => True) (okp := fun _ => True) ?hr ?hp (fun _ hk => hk) trivial (Below.refl _ _) (Nat.le_refl _) (by simp) ?_; (case hd => rfl); (case hg => rfl); (case hr => exact ax8); (case hp => exact ax30)
            intro v133 w19 ho20 hb hg_ hnew_
            clear hg_ hnew_
            (first | rw [← Ny132.out] at ho20 | (simp only [Int.reduceToNat] at ho20; rw [← Ny132.out] at ho20))
            have n0_ := Aside0.mk (Kd.V_elder' ax25 (Kd.R_base ho20) hb); have n1_ := Aside0.mk (Kd.V_elder' ax28 (Kd.R_base ho20) hb); have n2_ := Aside0.mk (Kd.V_elder' ax29 (Kd.R_base ho20) hb); have n3_ := Aside0.mk (Kd.R_elder' ax31 (Kd.R_base ho20) hb)
            have n4_ := Aside0.mk (Kd.R_lower (Kd.R_new' (Kd.R_newM (M := fun k_ => (w.heap.size ≤ k_)) ho20 (below_size ax9) (fun k_ h_ => h_)) (Kd.R_lt ax31)) (below_size ax9))
            have n5_ := Aside0.mk (below_step ax9 hb); clear HO_0; clear HO128; clear HO142; clear HO131; clear HB; have HO_0 := n0_; have HO128 := n1_; have HO142 := n2_; have HO131 := n3_; have HO134 := n4_; have HB := n5_; clear n0_ n1_ n2_ n3_ n4_ n5_; clear hb ho20
            refine hK.out _ _ trivial (fun hHeld => ?_)
            clear hK K
            refine nm 38 ?_
            exact norm_ ax32 (hCont (v130, v133) _ ⟨(by (with_reducible repeat (first | apply Kd.V_alloc | apply Kd.V_drewN | apply Kd.V_drew)); exact Kd.V_mono HO128.out (fun _ hk => ⟨hk.1.1, ⟨hk.1.2, hk.2⟩⟩)), ax33, ax34, (by (with_reducible repeat (first | apply Kd.V_alloc | apply Kd.V_drewN | apply Kd.V_drew)); exact Kd.V_mono HO142.out (fun _ hk => ⟨hk.1.1, ⟨hk.1.2, hk.2⟩⟩)), ax35, ax9⟩)
           ·skip
            refine Kd.R_lit_step Kd.string _ 9 ?hg (N := 38) ?hd (xs := ([a1] : List ByteArray)) (inner := [.string a1]) (ok := fun _ => True) (okp := fun _ => True) ?hr ?hp (fun _ hk => hk) trivial (Below.refl _ _) (Nat.le_refl _) (by simp) ?_; (case hd => rfl); (case hg => rfl); (case hr => exact ax8); (case hp => exact ax30)
            intro v133 w18 ho19 hb hg_ hnew_
            clear hg_ hnew_
            (first | rw [← Ny132.out] at ho19 | (simp only [Int.reduceToNat] at ho19; rw [← Ny132.out] at ho19))
            have n0_ := Aside0.mk (Kd.V_elder' ax25 (Kd.R_base ho19) hb); have n1_ := Aside0.mk (Kd.V_elder' ax28 (Kd.R_base ho19) hb); have n2_ := Aside0.mk (Kd.V_elder' ax29 (Kd.R_base ho19) hb)
            have n3_ := Aside0.mk (Kd.R_lower (Kd.R_newM (M := fun k_ => (w.heap.size ≤ k_)) ho19 (below_size ax9) (fun k_ h_ => h_)) (below_size ax9))
            have n4_ := Aside0.mk (below_step ax9 hb); clear HO_0; clear HO128; clear HO142; clear HB; have HO_0 := n0_; have HO128 := n1_; have HO142 := n2_; have HO134 := n3_; have HB := n4_; clear n0_ n1_ n2_ n3_ n4_; clear hb ho19
            refine hK.out _ _ trivial (fun hHeld => ?_)
            clear hK K
            refine nm 38 ?_
            refine one_ (i := 3) (N := some 36) (ob 12 959) rfl rfl (one_of HT_.out (by kernel_rfl)) (by decide) (fun K hK => ?_)
            refine goes_ Tryz.func46 (by kernel_rfl) rfl #[.slice (some ad121) y124.length c0] (by rfl) rfl rfl ax12 ?_
            with_reducible refine (spec_l2Own.calls _ _ y124 t129 _ ?side1 ?side2 A10.out).mono ?_
            (case side1 => exact ax27)
            (case side2 => exact (Kd.V_reads' HO128.out).2.1)
            rintro e w20 ⟨v130, rfl, ho0, hb⟩
            refine ⟨_, rfl, ?_⟩
            have n0_ := Aside0.mk (Kd.V_elder' ax25 (Kd.R_base ho0) hb); have n1_ := Aside0.mk (Kd.V_elder' ax28 (Kd.R_base ho0) hb); have n2_ := Aside0.mk (Kd.V_elder' ax29 (Kd.R_base ho0) hb); have n3_ := Aside0.mk (Kd.R_elder' ax36 (Kd.R_base ho0) hb)
            have n4_ := Aside0.mk (Kd.R_lower (Kd.R_new' (Kd.R_newM (M := fun k_ => (w.heap.size ≤ k_)) ho0 (below_size ax9) (fun k_ h_ => h_)) (Kd.R_lt ax36)) (below_size ax9))
            have n5_ := Aside0.mk (below_step ax9 hb); clear HO_0; clear HO128; clear HO142; clear HO134; clear HB; have HO_0 := n0_; have HO128 := n1_; have HO142 := n2_; have HO134 := n3_; have HO131 := n4_; have HB := n5_; clear n0_ n1_ n2_ n3_ n4_ n5_; (try clear hb); (try clear hb2); (try clear hk); (try clear hi); (try clear ho0)
            refine hK.out _ _ trivial (fun hHeld => ?_)
            clear hK K
            refine nm 36 ?_
            exact norm_ ax32 (hCont (v130, v133) _ ⟨(by (with_reducible repeat (first | apply Kd.V_alloc | apply Kd.V_drewN | apply Kd.V_drew)); exact Kd.V_mono HO128.out (fun _ hk => ⟨hk.1.1, ⟨hk.2, hk.1.2⟩⟩)), ax33, ax34, (by (with_reducible repeat (first | apply Kd.V_alloc | apply Kd.V_drewN | apply Kd.V_drew)); exact Kd.V_mono HO142.out (fun _ hk => ⟨hk.1.1, ⟨hk.2, hk.1.2⟩⟩)), ax37, ax9⟩)
          rintro ⟨v130, v133⟩ w21 ⟨h0_, h1_, h2_, h3_, h4_, h5_⟩
          have n0_ : Aside0 (Kd.V Kd.string 9 w21 w.heap.size (fun k_ => (P0_ k_ ∨ w.heap.size ≤ k_) ∧ some k_ ≠ (v130 : Value).ownBlock ∧ some k_ ≠ (v133 : Value).ownBlock) (.slice (some ad121) y124.length c0) y124) := ⟨h0_⟩
          have n1_ : Aside0 (Kd.R Kd.string 9 w21 w.heap.size (fun k_ => (w.heap.size ≤ k_) ∧ some k_ ≠ (v133 : Value).ownBlock) v130 t129) := ⟨h1_⟩
          have n2_ : Aside0 (Kd.R Kd.string 9 w21 w.heap.size (fun k_ => (w.heap.size ≤ k_) ∧ some k_ ≠ (v130 : Value).ownBlock) v133 y132) := ⟨h2_⟩
          have n3_ : Aside0 (Kd.V Kd.string 9 w21 w.heap.size (fun k_ => (P0_ k_ ∨ w.heap.size ≤ k_) ∧ some k_ ≠ (v130 : Value).ownBlock ∧ some k_ ≠ (v133 : Value).ownBlock) (.slice A17 y138.length c17) y138) := ⟨h3_⟩
          have n4_ : Aside0 (Kd.V Kd.string 9 w21 w.heap.size (fun k_ => (P0_ k_ ∨ w.heap.size ≤ k_) ∧ some k_ ≠ (v130 : Value).ownBlock ∧ some k_ ≠ (v133 : Value).ownBlock) (.slice (some ad121) l0.length c0) l0) := ⟨h4_⟩
          have n5_ : Aside0 (Below w.heap.size w w21) := ⟨h5_⟩
          clear HO_0; clear HB; clear h0_ h1_ h2_ h3_ h4_ h5_; have HO128 := n0_; have HO131 := n1_; have HO134 := n2_; have HO142 := n3_; have HO_0 := n4_; have HB := n5_; clear n0_ n1_ n2_ n3_ n4_ n5_; have hHeld := trivial
          obtain ⟨Ao23, co23, eo23⟩ := Kd.R_slice HO134.out
          (first | subst eo23 | (injection eo23 with f1_ f2_ f3_; have f4_ := f1_.symm; have f5_ := f3_.symm; clear f1_ f2_ f3_; subst f4_; subst f5_))
          refine norm_ (a' := ?_) ?_ ?_
          rotate_left
          ·simp only [putAll, Act.put, List.setIfInBounds_toArray, List.set_cons_zero, List.set_cons_succ]
           rfl
          refine one_ (i := 6) (N := some 39) (ob 12 1023) rfl rfl (one_of HT_.out (by kernel_rfl)) (by decide) (fun K hK => ?_)
          refine Kd.R_append_rows_step Kd.string (w0 := w) w.heap.size (by rfl) (.tmp 36) (.tmp 38) 45 9 (.string ⟨#[]⟩) 16 rfl Tryz.underlying45 info9 rfl (by decide) (by omega) v130 t129 y132 _ _ _ (fun k_ => (w.heap.size ≤ k_) ∧ some k_ ≠ (.slice Ao23 y132.length co23 : Value).ownBlock) (fun _ => False) rfl rfl ?aO ?aR (fun _ _ h => h) (fun _ h => h.elim) ?aF ?aB ?aS ?aL ?_
          (case aR => repeat (first | exact (Kd.R_reads' HO134.out).2.2 | (with_reducible refine Kd.C_alloc ?_ _) | (with_reducible refine Kd.C_drewN ?_ _) | (with_reducible refine Kd.C_drew ?_)))
          (case aB => exact ax19)
          (case aF => exact ax38)
          (case aO => exact ax31)
          (case aS => exact ax22)
          (case aL => have := LMc11.out; omega)
          intro v136 w22 ho hb hg hat
          rw [← Ny135.out] at ho
          have n0_ := Aside0.mk (Kd.V_afterv (ok := (fun k_ => (P0_ k_ ∨ w.heap.size ≤ k_) ∧ some k_ ≠ (.slice Ao23 y132.length co23 : Value).ownBlock)) ax39 hg hat)
          have n1_ := Aside0.mk (Kd.V_afterv (ok := (fun k_ => (P0_ k_ ∨ w.heap.size ≤ k_) ∧ some k_ ≠ (.slice Ao23 y132.length co23 : Value).ownBlock)) (by (with_reducible repeat (first | apply Kd.V_alloc | apply Kd.V_drewN | apply Kd.V_drew)); exact Kd.V_mono HO128.out (fun _ hk => ⟨⟨hk.1, hk.2.2⟩, hk.2.1⟩)) hg hat)
          have n2_ := Aside0.mk (Kd.V_afterv (ok := (fun k_ => (P0_ k_ ∨ w.heap.size ≤ k_) ∧ some k_ ≠ (.slice Ao23 y132.length co23 : Value).ownBlock)) (by (with_reducible repeat (first | apply Kd.V_alloc | apply Kd.V_drewN | apply Kd.V_drew)); exact Kd.V_mono HO142.out (fun _ hk => ⟨⟨hk.1, hk.2.2⟩, hk.2.1⟩)) hg hat)
          have n3_ := Aside0.mk (Kd.R_after (ok := (fun k_ => (w.heap.size ≤ k_))) ax36 hg hat)
          have n4_ := Aside0.mk (hb); have n5_ := Aside0.mk (ho); clear HO_0; clear HO128; clear HO142; clear HO134; clear HB; clear HO131; have HO_0 := n0_; have HO128 := n1_; have HO142 := n2_; have HO134 := n3_; have HB := n4_; have HO137 := n5_; clear n0_ n1_ n2_ n3_ n4_ n5_; clear ho hb hg hat
          refine hK.out _ _ trivial (fun hHeld => ?_)
          clear hK K
          refine nm 39 ?_
          refine one_ (i := 10) (N := some 43) (ob 12 2047) rfl rfl (one_of HT_.out (by kernel_rfl)) (by decide) (fun K hK => ?_)
          refine Kd.R_append_rows_step Kd.string (w0 := w) w.heap.size (by rfl) (.tmp 39) (.tmp 42) 45 9 (.string ⟨#[]⟩) 16 rfl Tryz.underlying45 info9 rfl (by decide) (by omega) v136 y135 y138 _ _ _ (fun k_ => (w.heap.size ≤ k_) ∧ some k_ ≠ (.slice Ao23 y132.length co23 : Value).ownBlock) (fun _ => False) rfl rfl ?aO ?aR (fun _ _ h => h) (fun _ h => h.elim) ?aF ?aB ?aS ?aL ?_
          (case aR => repeat (first | exact (Kd.V_reads' HO142.out).2.2 | (with_reducible refine Kd.C_alloc ?_ _) | (with_reducible refine Kd.C_drewN ?_ _) | (with_reducible refine Kd.C_drew ?_)))
          (case aB => exact ax19)
          (case aF => exact ax38)
          (case aO => exact (by (with_reducible repeat (first | apply Kd.R_alloc | apply Kd.R_drewN | apply Kd.R_drew)); exact HO137.out))
          (case aS => exact ax22)
          (case aL => have := LMc14.out; omega)
          intro v144 w24 ho hb hg hat
          rw [← Ny143.out] at ho
          have n0_ := Aside0.mk (Kd.V_afterv (ok := (fun k_ => (P0_ k_ ∨ w.heap.size ≤ k_) ∧ some k_ ≠ (.slice Ao23 y132.length co23 : Value).ownBlock)) ax25 hg hat)
          have n1_ := Aside0.mk (Kd.V_afterv (ok := (fun k_ => (P0_ k_ ∨ w.heap.size ≤ k_) ∧ some k_ ≠ (.slice Ao23 y132.length co23 : Value).ownBlock)) ax28 hg hat)
          have n2_ := Aside0.mk (Kd.V_afterv (ok := (fun k_ => (P0_ k_ ∨ w.heap.size ≤ k_) ∧ some k_ ≠ (.slice Ao23 y132.length co23 : Value).ownBlock)) ax29 hg hat)
          have n3_ := Aside0.mk (Kd.R_after (ok := (fun k_ => (w.heap.size ≤ k_))) ax36 hg hat)
          have n4_ := Aside0.mk (hb); have n5_ := Aside0.mk (ho); clear HO_0; clear HO128; clear HO142; clear HO134; clear HB; clear HO137; have HO_0 := n0_; have HO128 := n1_; have HO142 := n2_; have HO134 := n3_; have HB := n4_; have HO145 := n5_; clear n0_ n1_ n2_ n3_ n4_ n5_; clear ho hb hg hat
          refine hK.out _ _ trivial (fun hHeld => ?_)
          clear hK K
          refine nm 43 ?_
          refine pu 11 4 ?_
          refine dn ?_
          try go_wp2
          go_ret
          exact ⟨_, by first | rfl | (simp [errW_none, errW_some] <;> rfl) | (simp [*, errW_none, errW_some] <;> rfl), Kd.V_mono (Kd.R_V (by (with_reducible repeat (first | apply Kd.R_alloc | apply Kd.R_drewN | apply Kd.R_drew)); exact Kd.R_mono HO145.out (fun _ hk => hk.1))) (fun k_ hk => by first | exact ⟨(.inr (hk.1)), hk.2⟩ | exact (.inr (hk))), by repeat (first | (with_reducible first | exact HB.out | apply below_alloc | apply pw_below_drewN | apply below_drew1) | exact HB.out)⟩
         ·rw [if_neg c14] at H
          exact absurd H (by simp)
        ·exact ax3
       ·exact ax5
    ·exact ax7
   ·rw [if_neg c3] at H
    have c3b0 : decide (x5_1 < (l0.length : Int)) = false := decide_eq_false c3
    clear c3
    by_cases c25 : 0 ≤ x5_1
    ·rw [if_pos c25] at H
     have c25b0 := eq_true c25
     have c25b1 : decide (0 ≤ x5_1) = true := decide_eq_true c25
     clear c25
     by_cases c26 : x5_1 ≤ (l0.length : Int)
     ·rw [if_pos c26] at H
      have c26b0 := eq_true c26
      have c26b1 : decide (x5_1 ≤ (l0.length : Int)) = true := decide_eq_true c26
      clear c26
      obtain ⟨y146, hy146⟩ : ∃ y_ : List ByteArray, y_ = (l0.take (x5_1 : Int).toNat) := ⟨_, rfl⟩
      replace H : ((spec_l2Own.f y146).bind fun t151 => ((some (([a1] : List ByteArray) : List ByteArray)).bind fun y154 => (if t151.length + y154.length < 8796093022208 then ((some (t151 ++ y154 : List ByteArray)).bind fun y157 => ((some (l0.drop (x5_1 : Int).toNat : List ByteArray)).bind fun y160 => (if y157.length + y160.length < 8796093022208 then (some (y157 ++ y160)) else (none)))) else (none)))) = some r := by first | (rw [hy146]; with_reducible exact H) | (have H2_ := (Option.bind_some _ _).symm.trans H; rw [hy146]; with_reducible exact H2_) | (have H2_ := (Option.bind_some _ _).symm.trans H; with_reducible exact H2_) | with_reducible exact H | (rw [hy146]; exact H) | exact H
      have Ny146 := Aside0.mk hy146; clear hy146
      obtain ⟨t151, A27, H⟩ := bs H
      obtain ⟨y154, hy154⟩ : ∃ y_ : List ByteArray, y_ = (([a1] : List ByteArray)) := ⟨_, rfl⟩
      replace H : (if t151.length + y154.length < 8796093022208 then ((some (t151 ++ y154 : List ByteArray)).bind fun y157 => ((some (l0.drop (x5_1 : Int).toNat : List ByteArray)).bind fun y160 => (if y157.length + y160.length < 8796093022208 then (some (y157 ++ y160)) else (none)))) else (none)) = some r := by first | (rw [hy154]; with_reducible exact H) | (have H2_ := (Option.bind_some _ _).symm.trans H; rw [hy154]; with_reducible exact H2_) | (have H2_ := (Option.bind_some _ _).symm.trans H; with_reducible exact H2_) | with_reducible exact H | (rw [hy154]; exact H) | exact H
      have Ny154 := Aside0.mk hy154; clear hy154
      by_cases c28 : t151.length + y154.length < 8796093022208
      ·rw [if_pos c28] at H
       have LMc28 := Aside0.mk c28; clear c28
       obtain ⟨y157, hy157⟩ : ∃ y_ : List ByteArray, y_ = (t151 ++ y154) := ⟨_, rfl⟩
       replace H : ((some (l0.drop (x5_1 : Int).toNat : List ByteArray)).bind fun y160 => (if y157.length + y160.length < 8796093022208 then (some (y157 ++ y160)) else (none))) = some r := by first | (rw [hy157]; with_reducible exact H) | (have H2_ := (Option.bind_some _ _).symm.trans H; rw [hy157]; with_reducible exact H2_) | (have H2_ := (Option.bind_some _ _).symm.trans H; with_reducible exact H2_) | with_reducible exact H | (rw [hy157]; exact H) | exact H
       have Ny157 := Aside0.mk hy157; clear hy157; have c29b0 := eq_true (of_decide_eq_true ax17 : 0 ≤ x5_1); have c30b0 := eq_true (of_decide_eq_true ax17 : x5_1 ≤ (l0.length : Int))
       obtain ⟨y160, hy160⟩ : ∃ y_ : List ByteArray, y_ = (l0.drop (x5_1 : Int).toNat) := ⟨_, rfl⟩
       replace H : (if y157.length + y160.length < 8796093022208 then (some (y157 ++ y160)) else (none)) = some r := by first | (rw [hy160]; with_reducible exact H) | (have H2_ := (Option.bind_some _ _).symm.trans H; rw [hy160]; with_reducible exact H2_) | (have H2_ := (Option.bind_some _ _).symm.trans H; with_reducible exact H2_) | with_reducible exact H | (rw [hy160]; exact H) | exact H
       have Ny160 := Aside0.mk hy160; clear hy160
       by_cases c31 : y157.length + y160.length < 8796093022208
       ·rw [if_pos c31] at H
        have LMc31 := Aside0.mk c31; clear c31
        obtain ⟨y165, hy165⟩ : ∃ y_ : List ByteArray, y_ = (y157 ++ y160) := ⟨_, rfl⟩
        replace H : (some y165) = some r := by first | (rw [hy165]; with_reducible exact H) | (have H2_ := (Option.bind_some _ _).symm.trans H; rw [hy165]; with_reducible exact H2_) | (have H2_ := (Option.bind_some _ _).symm.trans H; with_reducible exact H2_) | with_reducible exact H | (rw [hy165]; exact H) | exact H
        have Ny165 := Aside0.mk hy165; clear hy165
        obtain rfl := Option.some.inj H
        try go_wp2
        have n0_ := Aside0.mk (Kd.V_drew HO_0.out); have n1_ := Aside0.mk (below_drew1 HB.out); clear HO_0; clear HB; have HO_0 := n0_; have HB := n1_; clear n0_ n1_
        have q33 : (x5_1 : Int) ≤ ((l0.length : Int) : Int) := of_decide_eq_true ax17
        obtain ⟨i033, hi033, _, hsz33, _⟩ := info_parts info9
        have hroom33 : l0.length ≤ c0 := (Kd.V_reads' HO_0.out).2.1
        have hC33 : Kd.F Kd.string _ _ A0 l0.length l0 := (Kd.V_at (base := w.heap.size) HO_0.out).2.2
        have hcut33 := cut_to (P := Tryz.prog) 45 9 .i64 Tryz.underlying45 hi033 A0 l0.length c0 x5_1 (of_decide_eq_true ax17) q33 hroom33
        have hr33 := Kd.F_take (m := (x5_1 : Int).toNat) hC33 (by omega)
        have hy33 : y146.length = (x5_1 : Int).toNat := (by rw [Ny146.out, List.length_take]; omega)
        rw [← Ny146.out] at hr33
        rw [← hy33] at hcut33
        have HO150 := Aside0.mk (show Kd.V Kd.string 9 _ w.heap.size _ (.slice A0 y146.length c0) y146 from Kd.V_mk (by omega) hr33); have HC150 := Aside0.mk (show y146.length ≤ c0 from by omega); clear hr33 hC33 hroom33 hi033 hsz33; have KY33 := Aside0.mk hy33; clear hy33; replace q33 := eq_true q33
        have q34 : (x5_1 : Int) ≤ ((l0.length : Int) : Int) := of_decide_eq_true ax17
        obtain ⟨i034, hi034, _, hsz34, _⟩ := info_parts info9
        have hroom34 : l0.length ≤ c0 := (Kd.V_reads' HO_0.out).2.1
        have hC34 : Kd.F Kd.string _ _ A0 l0.length l0 := (Kd.V_at (base := w.heap.size) HO_0.out).2.2
        have q034 : (0 : Int) ≤ (x5_1 : Int) := of_decide_eq_true ax17
        have hcut34 := cut_from (P := Tryz.prog) 45 9 .i64 Tryz.underlying45 hi034 1 hsz34 A0 l0.length c0 x5_1 q034 q34
        have hr34 := Kd.F_cut (m := (x5_1 : Int).toNat) (c := c0) hC34 (by omega) hroom34
        obtain ⟨A34, hA34⟩ : ∃ A1, A1 = (if c0 = (x5_1 : Int).toNat then A0 else (A0 : Option Addr).map (·.add ((x5_1 : Int).toNat * 1))) := ⟨_, rfl⟩
        obtain ⟨c34, hc34⟩ : ∃ c1, c1 = c0 - (x5_1 : Int).toNat := ⟨_, rfl⟩
        have hy34 : y160.length = l0.length - (x5_1 : Int).toNat := (by rw [Ny160.out, List.length_drop] <;> omega)
        rw [show (l0).drop (x5_1 : Int).toNat = y160 from Ny160.out.symm] at hr34
        replace hr34 : Kd.F Kd.string _ _ A34 y160.length y160 := (by rw [hA34]; exact hr34)
        rw [← hy34, ← hA34, ← hc34] at hcut34
        have HO164 := Aside0.mk (show Kd.V Kd.string 9 _ w.heap.size _ (.slice A34 y160.length c34) y160 from Kd.V_mk (by rw [hy34, hc34]; exact Nat.sub_le_sub_right hroom34 _) hr34)
        have HC164 := Aside0.mk (show y160.length ≤ c34 from by rw [hy34, hc34]; exact Nat.sub_le_sub_right hroom34 _)
        clear hr34 hC34 hroom34 hi034 hsz34 hc34; have KY34 := Aside0.mk hy34; have KA34 := Aside0.mk hA34; clear hy34 hA34; replace q34 := eq_true q34
        refine start_ (n := 12) (S := fun w' => True) (ds := []) (ob 12 0) (by kernel_rfl) rfl rfl trivial (fun hHeld => ?_); refine with_tabW spec_l2Put.tab6 spec_l2Put.bits6 (fun HT_ HW_ => ?_)
        generalize wr.drew = w32 at HO_0 HB HO150 HO164 hHeld ⊢
        refine pu 0 33 ?_; refine pu 1 34 ?_; refine pu 2 35 ?_; refine pu 4 37 ?_; refine pu 7 40 ?_; refine pu 8 41 ?_; refine pu 9 42 ?_
        refine join_ (σ := Value × Value) 3 (ob 12 959) (fun s_ => [(36, s_.1), (38, s_.2)]) (fun s_ w' => (Kd.V Kd.string 9 w' w.heap.size (fun k_ => (P0_ k_ ∨ w.heap.size ≤ k_) ∧ some k_ ≠ (s_.1 : Value).ownBlock ∧ some k_ ≠ (s_.2 : Value).ownBlock) (.slice A0 y146.length c0) y146) ∧ (Kd.R Kd.string 9 w' w.heap.size (fun k_ => (w.heap.size ≤ k_) ∧ some k_ ≠ (s_.2 : Value).ownBlock) s_.1 t151) ∧ (Kd.R Kd.string 9 w' w.heap.size (fun k_ => (w.heap.size ≤ k_) ∧ some k_ ≠ (s_.1 : Value).ownBlock) s_.2 y154) ∧ (Kd.V Kd.string 9 w' w.heap.size (fun k_ => (P0_ k_ ∨ w.heap.size ≤ k_) ∧ some k_ ≠ (s_.1 : Value).ownBlock ∧ some k_ ≠ (s_.2 : Value).ownBlock) (.slice A34 y160.length c34) y160) ∧ (Kd.V Kd.string 9 w' w.heap.size (fun k_ => (P0_ k_ ∨ w.heap.size ≤ k_) ∧ some k_ ≠ (s_.1 : Value).ownBlock ∧ some k_ ≠ (s_.2 : Value).ownBlock) (.slice A0 l0.length c0) l0) ∧ (Below w.heap.size w w')) ?_ ?_
        rotate_left
        ·intro hCont
         refine two_ (i := 3) (j := 5) (Ni := some 36) (Nj := some 38) (ob 12 927) (ob 12 951) rfl rfl rfl rfl (two_of HT_.out (by kernel_rfl)) (by decide) (by decide) (fun K hK => ?_) (fun K hK => ?_)
         ·skip
          refine goes_ Tryz.func46 (by kernel_rfl) rfl #[.slice A0 y146.length c0] (by rfl) rfl rfl ax12 ?_
          with_reducible refine (spec_l2Own.calls _ _ y146 t151 _ ?side1 ?side2 A27.out).mono ?_
          (case side1 => exact ax40)
          (case side2 => exact (Kd.V_reads' HO150.out).2.1)
          rintro e w35 ⟨v152, rfl, ho0, hb⟩
          refine ⟨_, rfl, ?_⟩
          have n0_ := Aside0.mk (Kd.V_elder' ax25 (Kd.R_base ho0) hb); have n1_ := Aside0.mk (Kd.V_elder' ax41 (Kd.R_base ho0) hb); have n2_ := Aside0.mk (Kd.V_elder' ax42 (Kd.R_base ho0) hb)
          have n3_ := Aside0.mk (Kd.R_lower (Kd.R_newM (M := fun k_ => (w.heap.size ≤ k_)) ho0 (below_size ax9) (fun k_ h_ => h_)) (below_size ax9))
          have n4_ := Aside0.mk (below_step ax9 hb); clear HO_0; clear HO150; clear HO164; clear HB; have HO_0 := n0_; have HO150 := n1_; have HO164 := n2_; have HO153 := n3_; have HB := n4_; clear n0_ n1_ n2_ n3_ n4_; (try clear hb); (try clear hb2); (try clear hk); (try clear hi); (try clear ho0)
          refine hK.out _ _ trivial (fun hHeld => ?_)
          clear hK K
          refine nm 36 ?_
          refine one_ (i := 5) (N := some 38) (ob 12 959) rfl rfl (one_of HT_.out (by kernel_rfl)) (by decide) (fun K hK => ?_)
          refine Kd.R_lit_step Kd.string _ 9 ?hg (N := 38) ?hd (xs := ([a1] : List ByteArray)) (inner := [.string a1]) (ok := fun _ => True) (okp := fun _ => True) ?hr ?hp (fun _ hk => hk) trivial (Below.refl _ _) (Nat.le_refl _) (by simp) ?_; (case hd => rfl); (case hg => rfl); (case hr => exact ax8); (case hp => exact ax30)
          intro v155 w36 ho37 hb hg_ hnew_
          clear hg_ hnew_
          (first | rw [← Ny154.out] at ho37 | (simp only [Int.reduceToNat] at ho37; rw [← Ny154.out] at ho37))
          have n0_ := Aside0.mk (Kd.V_elder' ax25 (Kd.R_base ho37) hb); have n1_ := Aside0.mk (Kd.V_elder' ax41 (Kd.R_base ho37) hb); have n2_ := Aside0.mk (Kd.V_elder' ax42 (Kd.R_base ho37) hb); have n3_ := Aside0.mk (Kd.R_elder' ax43 (Kd.R_base ho37) hb)
          have n4_ := Aside0.mk (Kd.R_lower (Kd.R_new' (Kd.R_newM (M := fun k_ => (w.heap.size ≤ k_)) ho37 (below_size ax9) (fun k_ h_ => h_)) (Kd.R_lt ax43)) (below_size ax9))
          have n5_ := Aside0.mk (below_step ax9 hb); clear HO_0; clear HO150; clear HO164; clear HO153; clear HB; have HO_0 := n0_; have HO150 := n1_; have HO164 := n2_; have HO153 := n3_; have HO156 := n4_; have HB := n5_; clear n0_ n1_ n2_ n3_ n4_ n5_; clear hb ho37
          refine hK.out _ _ trivial (fun hHeld => ?_)
          clear hK K
          refine nm 38 ?_
          exact norm_ ax32 (hCont (v152, v155) _ ⟨(by (with_reducible repeat (first | apply Kd.V_alloc | apply Kd.V_drewN | apply Kd.V_drew)); exact Kd.V_mono HO150.out (fun _ hk => ⟨hk.1.1, ⟨hk.1.2, hk.2⟩⟩)), ax44, ax45, (by (with_reducible repeat (first | apply Kd.V_alloc | apply Kd.V_drewN | apply Kd.V_drew)); exact Kd.V_mono HO164.out (fun _ hk => ⟨hk.1.1, ⟨hk.1.2, hk.2⟩⟩)), ax35, ax9⟩)
         ·skip
          refine Kd.R_lit_step Kd.string _ 9 ?hg (N := 38) ?hd (xs := ([a1] : List ByteArray)) (inner := [.string a1]) (ok := fun _ => True) (okp := fun _ => True) ?hr ?hp (fun _ hk => hk) trivial (Below.refl _ _) (Nat.le_refl _) (by simp) ?_; (case hd => rfl); (case hg => rfl); (case hr => exact ax8); (case hp => exact ax30)
          intro v155 w35 ho36 hb hg_ hnew_
          clear hg_ hnew_
          (first | rw [← Ny154.out] at ho36 | (simp only [Int.reduceToNat] at ho36; rw [← Ny154.out] at ho36))
          have n0_ := Aside0.mk (Kd.V_elder' ax25 (Kd.R_base ho36) hb); have n1_ := Aside0.mk (Kd.V_elder' ax41 (Kd.R_base ho36) hb); have n2_ := Aside0.mk (Kd.V_elder' ax42 (Kd.R_base ho36) hb)
          have n3_ := Aside0.mk (Kd.R_lower (Kd.R_newM (M := fun k_ => (w.heap.size ≤ k_)) ho36 (below_size ax9) (fun k_ h_ => h_)) (below_size ax9))
          have n4_ := Aside0.mk (below_step ax9 hb); clear HO_0; clear HO150; clear HO164; clear HB; have HO_0 := n0_; have HO150 := n1_; have HO164 := n2_; have HO156 := n3_; have HB := n4_; clear n0_ n1_ n2_ n3_ n4_; clear hb ho36
          refine hK.out _ _ trivial (fun hHeld => ?_)
          clear hK K
          refine nm 38 ?_
          refine one_ (i := 3) (N := some 36) (ob 12 959) rfl rfl (one_of HT_.out (by kernel_rfl)) (by decide) (fun K hK => ?_)
          refine goes_ Tryz.func46 (by kernel_rfl) rfl #[.slice A0 y146.length c0] (by rfl) rfl rfl ax12 ?_
          with_reducible refine (spec_l2Own.calls _ _ y146 t151 _ ?side1 ?side2 A27.out).mono ?_
          (case side1 => exact ax40)
          (case side2 => exact (Kd.V_reads' HO150.out).2.1)
          rintro e w37 ⟨v152, rfl, ho0, hb⟩
          refine ⟨_, rfl, ?_⟩
          have n0_ := Aside0.mk (Kd.V_elder' ax25 (Kd.R_base ho0) hb); have n1_ := Aside0.mk (Kd.V_elder' ax41 (Kd.R_base ho0) hb); have n2_ := Aside0.mk (Kd.V_elder' ax42 (Kd.R_base ho0) hb); have n3_ := Aside0.mk (Kd.R_elder' ax46 (Kd.R_base ho0) hb)
          have n4_ := Aside0.mk (Kd.R_lower (Kd.R_new' (Kd.R_newM (M := fun k_ => (w.heap.size ≤ k_)) ho0 (below_size ax9) (fun k_ h_ => h_)) (Kd.R_lt ax46)) (below_size ax9))
          have n5_ := Aside0.mk (below_step ax9 hb); clear HO_0; clear HO150; clear HO164; clear HO156; clear HB; have HO_0 := n0_; have HO150 := n1_; have HO164 := n2_; have HO156 := n3_; have HO153 := n4_; have HB := n5_; clear n0_ n1_ n2_ n3_ n4_ n5_; (try clear hb); (try clear hb2); (try clear hk); (try clear hi); (try clear ho0)
          refine hK.out _ _ trivial (fun hHeld => ?_)
          clear hK K
          refine nm 36 ?_
          exact norm_ ax32 (hCont (v152, v155) _ ⟨(by (with_reducible repeat (first | apply Kd.V_alloc | apply Kd.V_drewN | apply Kd.V_drew)); exact Kd.V_mono HO150.out (fun _ hk => ⟨hk.1.1, ⟨hk.2, hk.1.2⟩⟩)), ax44, ax45, (by (with_reducible repeat (first | apply Kd.V_alloc | apply Kd.V_drewN | apply Kd.V_drew)); exact Kd.V_mono HO164.out (fun _ hk => ⟨hk.1.1, ⟨hk.2, hk.1.2⟩⟩)), ax37, ax9⟩)
        rintro ⟨v152, v155⟩ w38 ⟨h0_, h1_, h2_, h3_, h4_, h5_⟩
        have n0_ : Aside0 (Kd.V Kd.string 9 w38 w.heap.size (fun k_ => (P0_ k_ ∨ w.heap.size ≤ k_) ∧ some k_ ≠ (v152 : Value).ownBlock ∧ some k_ ≠ (v155 : Value).ownBlock) (.slice A0 y146.length c0) y146) := ⟨h0_⟩
        have n1_ : Aside0 (Kd.R Kd.string 9 w38 w.heap.size (fun k_ => (w.heap.size ≤ k_) ∧ some k_ ≠ (v155 : Value).ownBlock) v152 t151) := ⟨h1_⟩
        have n2_ : Aside0 (Kd.R Kd.string 9 w38 w.heap.size (fun k_ => (w.heap.size ≤ k_) ∧ some k_ ≠ (v152 : Value).ownBlock) v155 y154) := ⟨h2_⟩
        have n3_ : Aside0 (Kd.V Kd.string 9 w38 w.heap.size (fun k_ => (P0_ k_ ∨ w.heap.size ≤ k_) ∧ some k_ ≠ (v152 : Value).ownBlock ∧ some k_ ≠ (v155 : Value).ownBlock) (.slice A34 y160.length c34) y160) := ⟨h3_⟩
        have n4_ : Aside0 (Kd.V Kd.string 9 w38 w.heap.size (fun k_ => (P0_ k_ ∨ w.heap.size ≤ k_) ∧ some k_ ≠ (v152 : Value).ownBlock ∧ some k_ ≠ (v155 : Value).ownBlock) (.slice A0 l0.length c0) l0) := ⟨h4_⟩
        have n5_ : Aside0 (Below w.heap.size w w38) := ⟨h5_⟩
        clear HO_0; clear HB; clear h0_ h1_ h2_ h3_ h4_ h5_; have HO150 := n0_; have HO153 := n1_; have HO156 := n2_; have HO164 := n3_; have HO_0 := n4_; have HB := n5_; clear n0_ n1_ n2_ n3_ n4_ n5_; have hHeld := trivial
        obtain ⟨Ao40, co40, eo40⟩ := Kd.R_slice HO156.out
        (first | subst eo40 | (injection eo40 with f1_ f2_ f3_; have f4_ := f1_.symm; have f5_ := f3_.symm; clear f1_ f2_ f3_; subst f4_; subst f5_))
        refine norm_ (a' := ?_) ?_ ?_
        rotate_left
        ·simp only [putAll, Act.put, List.setIfInBounds_toArray, List.set_cons_zero, List.set_cons_succ]
         rfl
        refine one_ (i := 6) (N := some 39) (ob 12 1023) rfl rfl (one_of HT_.out (by kernel_rfl)) (by decide) (fun K hK => ?_)
        refine Kd.R_append_rows_step Kd.string (w0 := w) w.heap.size (by rfl) (.tmp 36) (.tmp 38) 45 9 (.string ⟨#[]⟩) 16 rfl Tryz.underlying45 info9 rfl (by decide) (by omega) v152 t151 y154 _ _ _ (fun k_ => (w.heap.size ≤ k_) ∧ some k_ ≠ (.slice Ao40 y154.length co40 : Value).ownBlock) (fun _ => False) rfl rfl ?aO ?aR (fun _ _ h => h) (fun _ h => h.elim) ?aF ?aB ?aS ?aL ?_
        (case aR => repeat (first | exact (Kd.R_reads' HO156.out).2.2 | (with_reducible refine Kd.C_alloc ?_ _) | (with_reducible refine Kd.C_drewN ?_ _) | (with_reducible refine Kd.C_drew ?_)))
        (case aB => exact ax19)
        (case aF => exact ax47)
        (case aO => exact ax43)
        (case aS => exact ax22)
        (case aL => have := LMc28.out; omega)
        intro v158 w39 ho hb hg hat
        rw [← Ny157.out] at ho
        have n0_ := Aside0.mk (Kd.V_afterv (ok := (fun k_ => (P0_ k_ ∨ w.heap.size ≤ k_) ∧ some k_ ≠ (.slice Ao40 y154.length co40 : Value).ownBlock)) ax39 hg hat)
        have n1_ := Aside0.mk (Kd.V_afterv (ok := (fun k_ => (P0_ k_ ∨ w.heap.size ≤ k_) ∧ some k_ ≠ (.slice Ao40 y154.length co40 : Value).ownBlock)) (by (with_reducible repeat (first | apply Kd.V_alloc | apply Kd.V_drewN | apply Kd.V_drew)); exact Kd.V_mono HO150.out (fun _ hk => ⟨⟨hk.1, hk.2.2⟩, hk.2.1⟩)) hg hat)
        have n2_ := Aside0.mk (Kd.V_afterv (ok := (fun k_ => (P0_ k_ ∨ w.heap.size ≤ k_) ∧ some k_ ≠ (.slice Ao40 y154.length co40 : Value).ownBlock)) (by (with_reducible repeat (first | apply Kd.V_alloc | apply Kd.V_drewN | apply Kd.V_drew)); exact Kd.V_mono HO164.out (fun _ hk => ⟨⟨hk.1, hk.2.2⟩, hk.2.1⟩)) hg hat)
        have n3_ := Aside0.mk (Kd.R_after (ok := (fun k_ => (w.heap.size ≤ k_))) ax46 hg hat)
        have n4_ := Aside0.mk (hb); have n5_ := Aside0.mk (ho); clear HO_0; clear HO150; clear HO164; clear HO156; clear HB; clear HO153; have HO_0 := n0_; have HO150 := n1_; have HO164 := n2_; have HO156 := n3_; have HB := n4_; have HO159 := n5_; clear n0_ n1_ n2_ n3_ n4_ n5_; clear ho hb hg hat
        refine hK.out _ _ trivial (fun hHeld => ?_)
        clear hK K
        refine nm 39 ?_
        refine one_ (i := 10) (N := some 43) (ob 12 2047) rfl rfl (one_of HT_.out (by kernel_rfl)) (by decide) (fun K hK => ?_)
        refine Kd.R_append_rows_step Kd.string (w0 := w) w.heap.size (by rfl) (.tmp 39) (.tmp 42) 45 9 (.string ⟨#[]⟩) 16 rfl Tryz.underlying45 info9 rfl (by decide) (by omega) v158 y157 y160 _ _ _ (fun k_ => (w.heap.size ≤ k_) ∧ some k_ ≠ (.slice Ao40 y154.length co40 : Value).ownBlock) (fun _ => False) rfl rfl ?aO ?aR (fun _ _ h => h) (fun _ h => h.elim) ?aF ?aB ?aS ?aL ?_
        (case aR => repeat (first | exact (Kd.V_reads' HO164.out).2.2 | (with_reducible refine Kd.C_alloc ?_ _) | (with_reducible refine Kd.C_drewN ?_ _) | (with_reducible refine Kd.C_drew ?_)))
        (case aB => exact ax19)
        (case aF => exact ax47)
        (case aO => exact (by (with_reducible repeat (first | apply Kd.R_alloc | apply Kd.R_drewN | apply Kd.R_drew)); exact HO159.out))
        (case aS => exact ax22)
        (case aL => have := LMc31.out; omega)
        intro v166 w41 ho hb hg hat
        rw [← Ny165.out] at ho
        have n0_ := Aside0.mk (Kd.V_afterv (ok := (fun k_ => (P0_ k_ ∨ w.heap.size ≤ k_) ∧ some k_ ≠ (.slice Ao40 y154.length co40 : Value).ownBlock)) ax25 hg hat)
        have n1_ := Aside0.mk (Kd.V_afterv (ok := (fun k_ => (P0_ k_ ∨ w.heap.size ≤ k_) ∧ some k_ ≠ (.slice Ao40 y154.length co40 : Value).ownBlock)) ax41 hg hat)
        have n2_ := Aside0.mk (Kd.V_afterv (ok := (fun k_ => (P0_ k_ ∨ w.heap.size ≤ k_) ∧ some k_ ≠ (.slice Ao40 y154.length co40 : Value).ownBlock)) ax42 hg hat)
        have n3_ := Aside0.mk (Kd.R_after (ok := (fun k_ => (w.heap.size ≤ k_))) ax46 hg hat)
        have n4_ := Aside0.mk (hb); have n5_ := Aside0.mk (ho); clear HO_0; clear HO150; clear HO164; clear HO156; clear HB; clear HO159; have HO_0 := n0_; have HO150 := n1_; have HO164 := n2_; have HO156 := n3_; have HB := n4_; have HO167 := n5_; clear n0_ n1_ n2_ n3_ n4_ n5_; clear ho hb hg hat
        refine hK.out _ _ trivial (fun hHeld => ?_)
        clear hK K
        refine nm 43 ?_
        refine pu 11 4 ?_
        refine dn ?_
        try go_wp2
        go_ret
        exact ⟨_, by first | rfl | (simp [errW_none, errW_some] <;> rfl) | (simp [*, errW_none, errW_some] <;> rfl), Kd.V_mono (Kd.R_V (by (with_reducible repeat (first | apply Kd.R_alloc | apply Kd.R_drewN | apply Kd.R_drew)); exact Kd.R_mono HO167.out (fun _ hk => hk.1))) (fun k_ hk => by first | exact ⟨(.inr (hk.1)), hk.2⟩ | exact (.inr (hk))), by repeat (first | (with_reducible first | exact HB.out | apply below_alloc | apply pw_below_drewN | apply below_drew1) | exact HB.out)⟩
       ·rw [if_neg c31] at H
        exact absurd H (by simp)
      ·rw [if_neg c28] at H
       exact absurd H (by simp)
     ·rw [if_neg c26] at H
      exact absurd H (by simp)
    ·rw [if_neg c25] at H
     exact absurd H (by simp)

end Go.Proofs.YtnjjchbhbicmoaaGreatDoor.X

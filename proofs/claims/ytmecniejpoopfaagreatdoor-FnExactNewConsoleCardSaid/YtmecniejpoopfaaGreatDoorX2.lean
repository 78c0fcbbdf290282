-- By gen.py (the session's own program over the kit's printer): functions of the program, each with its contract. Lean checks it.
import Derived.Test.YtmecniejpoopfaaGreatDoorX0
import Derived.Test.YtmecniejpoopfaaGreatDoorX1
namespace Go.Proofs.YtmecniejpoopfaaGreatDoor.X
open Go.RowKit Go.Proofs.YtmecniejpoopfaaGreatDoorW.PrintWords Go.Proofs.YtmecniejpoopfaaGreatDoorW.PrintLast Go.Proofs.YtmecniejpoopfaaGreatDoorW.PrintMore
attribute [local go_sem] max2_int min2_int max_two min_two max_three min_three max_four min_four   -- for this text's walks alone
set_option linter.unusedVariables false
set_option linter.unusedSimpArgs false

/-! ### spec_l2Put: function 57 -/
def spec_l2Put.l0 : Nat → List ByteArray → ByteArray → Int → Option (List ByteArray)
 | 0, _, _, _ => none
 | k + 1, x0, x1, x5 => if x5 < (x0.length : Int) then (if 0 ≤ x5 then ((spec_l2Before.f k (rdOf ByteArray.empty x0 x5) x1).bind fun t109 => (if t109 = true then (spec_l2Put.l0 k x0 x1 (wrap64 (x5 + 1))) else (if (rdOf ByteArray.empty x0 x5).toList = x1.toList then (some x0) else (if x5 ≤ (x0.length : Int) then ((spec_l2Own.f (x0.take (x5 : Int).toNat)).bind fun t116 => ((some (([x1] : List ByteArray) : List ByteArray)).bind fun y119 => (if t116.length + y119.length < 8796093022208 then ((some (t116 ++ y119 : List ByteArray)).bind fun y122 => ((some (x0.drop (x5 : Int).toNat : List ByteArray)).bind fun y125 => (if y122.length + y125.length < 8796093022208 then (some (y122 ++ y125)) else (none)))) else (none)))) else (none))))) else (none)) else (if 0 ≤ x5 then (if x5 ≤ (x0.length : Int) then ((spec_l2Own.f (x0.take (x5 : Int).toNat)).bind fun t138 => ((some (([x1] : List ByteArray) : List ByteArray)).bind fun y141 => (if t138.length + y141.length < 8796093022208 then ((some (t138 ++ y141 : List ByteArray)).bind fun y144 => ((some (x0.drop (x5 : Int).toNat : List ByteArray)).bind fun y147 => (if y144.length + y147.length < 8796093022208 then (some (y144 ++ y147)) else (none)))) else (none)))) else (none)) else (none))
def spec_l2Put.f (k : Nat) (l0 : List ByteArray) (a1 : ByteArray) : Option (List ByteArray) := spec_l2Put.l0 k l0 a1 0
theorem spec_l2Put.mono_l : ∀ k, (∀ y0 y1 y2, LeO (spec_l2Put.l0 k y0 y1 y2) (spec_l2Put.l0 (k + 1) y0 y1 y2))
 | 0 => fun _ _ _ r h => by simp [spec_l2Put.l0] at h
 | k + 1 => by
  have ih0 := spec_l2Put.mono_l k
  ·intro y0 y1 y2
   unfold spec_l2Put.l0
   repeat' first
   | (with_reducible exact ih0 _ _ _)
   | (with_reducible exact spec_l2Before.mono _ _ _)
   | (with_reducible exact LeO.refl _)
   | (with_reducible exact LeO.none _)
   | (with_reducible refine LeO.ite ?_ ?_)
   | (with_reducible refine LeO.bind ?_ (fun _ => ?_))
   | exact ih0 _ _ _
   | exact spec_l2Before.mono _ _ _
   | exact LeO.none _
   | refine LeO.ite ?_ ?_
   | refine LeO.bind ?_ (fun _ => ?_)
theorem spec_l2Put.mono : ∀ a0 a1 k, LeO (spec_l2Put.f k a0 a1) (spec_l2Put.f (k + 1) a0 a1) := by
 intro a0 a1 k
 have ih0 := spec_l2Put.mono_l k
 unfold spec_l2Put.f
 repeat' first
   | (with_reducible exact ih0 _ _ _)
   | (with_reducible exact spec_l2Before.mono _ _ _)
   | (with_reducible exact LeO.refl _)
   | (with_reducible exact LeO.none _)
   | (with_reducible refine LeO.ite ?_ ?_)
   | (with_reducible refine LeO.bind ?_ (fun _ => ?_))
   | exact ih0 _ _ _
   | exact spec_l2Before.mono _ _ _
   | exact LeO.none _
   | refine LeO.ite ?_ ?_
   | refine LeO.bind ?_ (fun _ => ?_)
def spec_l2Put.T6 : Bool × List (List Nat × List Nat) := (true, [([], []), ([], []), ([0, 1], [0, 1]), ([2], [2]), ([], []), ([4], [4]), ([3, 5, 3], [3, 5]), ([], []), ([], []), ([7, 8], [7, 8]), ([6, 9, 6], [6, 9]), ([10, 10, 0, 1, 2, 3, 4, 5, 6, 7, 8, 9, 10], [10])])
def spec_l2Put.B6 : List Nat := [0, 0, 3, 7, 0, 16, 63, 0, 0, 384, 1023, 2047]
theorem spec_l2Put.tab6 : rtab .any (opsOf Tryz.f57 6) = spec_l2Put.T6 := by kernel_rfl
theorem spec_l2Put.bits6 : waitsOk spec_l2Put.T6.2 spec_l2Put.B6 = true := by kernel_rfl
set_option maxHeartbeats 8000000 in
set_option maxRecDepth 100000 in
theorem spec_l2Put.calls (k : Nat) (P0_ : Nat → Prop) (A0 : Option Addr) (c0 : Nat) (l0 : List ByteArray) (a1 : ByteArray) (r : List ByteArray) (w : World) (hs0 : Kd.V Kd.string 9 w w.heap.size (fun k_ => P0_ k_) (.slice A0 l0.length c0) l0) (h : spec_l2Put.f k l0 a1 = some r) :
  Calls Tryz.prog 57 #[.slice A0 l0.length c0, .string a1] w fun e w' => ∃ v0_ : Value, e = .returned (v0_) ∧ Kd.V Kd.string 9 w' w.heap.size (fun k_ => (P0_ k_ ∨ w.heap.size ≤ k_)) v0_ r ∧ Below w.heap.size w w' := by
 have HO0 := Aside0.mk (show Kd.V Kd.string 9 w w.heap.size (fun k_ => (P0_ k_ ∨ w.heap.size ≤ k_)) (.slice A0 l0.length c0) l0 from Kd.V_mono hs0 (fun k_ hk => .inl hk))
 have HB := Aside0.mk (Below.refl w.heap.size w)
 have H : (spec_l2Put.l0 k l0 a1 0) = some r := h
 clear h
 have H' := Aside0.mk H
 clear H
 go_enter Tryz.func57, Tryz.ntmps57
 go_wp2
 go_loopg [5] k (fun kq v5 w' => ∃ (x5_1 : Int), v5 = .int .i64 x5_1 ∧ Aside0 (spec_l2Put.l0 kq l0 a1 x5_1 = some r) ∧ Aside0 (kq ≤ k) ∧ Aside0 (Kd.V Kd.string 9 w' w.heap.size (fun k_ => (P0_ k_ ∨ w.heap.size ≤ k_)) (.slice A0 l0.length c0) l0) ∧ Aside0 (Below w.heap.size w w'))
 case atStart => exact ⟨(0), ax21, H', ⟨Nat.le_refl _⟩, ⟨by (with_reducible repeat (first | apply Kd.V_alloc | apply Kd.V_drewN | apply Kd.V_drew)); exact HO0.out⟩, ⟨by repeat (first | (with_reducible first | exact HB.out | apply below_alloc | apply pw_below_drewN | apply below_drew1) | exact HB.out)⟩⟩
 case round =>
  clear H'
  try clear p2
  obtain ⟨x5_1, rfl, HA, HK1, HO_0, HB⟩ := hrel
  cases gk with
  | zero => exact absurd HA.out (by simp [spec_l2Put.l0])
  | succ k1 =>
   have H := HA.out; clear HA
   simp only [spec_l2Put.l0] at H
   by_cases c3 : x5_1 < (l0.length : Int)
   ·rw [if_pos c3] at H
    have c3b0 : decide (x5_1 < (l0.length : Int)) = true := decide_eq_true c3
    clear c3
    by_cases c4 : 0 ≤ x5_1
    ·rw [if_pos c4] at H
     have c4b0 : decide (0 ≤ x5_1) = true := decide_eq_true c4
     clear c4; replace H := Option.bind_eq_some_iff.mp H
     obtain ⟨t109, A50, H⟩ := H
     replace H : (if t109 = true then (spec_l2Put.l0 k1 l0 a1 (wrap64 (x5_1 + 1))) else (if (rdOf ByteArray.empty l0 x5_1).toList = a1.toList then (some l0) else (if x5_1 ≤ (l0.length : Int) then ((spec_l2Own.f (l0.take (x5_1 : Int).toNat)).bind fun t116 => ((some (([a1] : List ByteArray) : List ByteArray)).bind fun y119 => (if t116.length + y119.length < 8796093022208 then ((some (t116 ++ y119 : List ByteArray)).bind fun y122 => ((some (l0.drop (x5_1 : Int).toNat : List ByteArray)).bind fun y125 => (if y122.length + y125.length < 8796093022208 then (some (y122 ++ y125)) else (none)))) else (none)))) else (none)))) = some r := H
     have A5 := Aside0.mk A50; clear A50
     by_cases c6 : t109 = true
     ·subst c6
      have H1 : (spec_l2Put.l0 k1 l0 a1 (wrap64 (x5_1 + 1))) = some r := by rw [if_pos rfl] at H; exact H
      clear H; have H := H1; clear H1
      have H' := Aside0.mk H
      clear H
      have p108 : 0 ≤ (x5_1 : Int) := of_decide_eq_true ax22
      have q108 : x5_1 < (l0.length : Int) := of_decide_eq_true ax22
      obtain ⟨ad108, e108, hx108_0⟩ := Kd.at_string (Kd.V_reads' HO_0.out).2.2 x5_1 p108 q108
      cases e108; replace p108 := eq_true p108; replace q108 := eq_true q108
      go_wp2_with (first | (go_at_call 78; (with_reducible refine (spec_l2Before.calls k1 (rdOf ByteArray.empty l0 x5_1) a1 true _ A5.out).mono ?_); rintro e w' ⟨rfl, ⟨nd, rfl⟩⟩))
      go_roundg k1
      case measure => have := HK1.out; omega
      case rel => exact ⟨(wrap64 (x5_1 + 1)), ax21, H', ⟨by have := HK1.out; omega⟩, ⟨by (with_reducible repeat (first | apply Kd.V_alloc | apply Kd.V_drewN | apply Kd.V_drew)); exact HO_0.out⟩, ⟨by repeat (first | (with_reducible first | exact HB.out | apply below_alloc | apply pw_below_drewN | apply below_drew1) | exact HB.out)⟩⟩
     ·replace c6 := Bool.eq_false_iff.mpr c6
      subst c6
      have H1 : (if (rdOf ByteArray.empty l0 x5_1).toList = a1.toList then (some l0) else (if x5_1 ≤ (l0.length : Int) then ((spec_l2Own.f (l0.take (x5_1 : Int).toNat)).bind fun t116 => ((some (([a1] : List ByteArray) : List ByteArray)).bind fun y119 => (if t116.length + y119.length < 8796093022208 then ((some (t116 ++ y119 : List ByteArray)).bind fun y122 => ((some (l0.drop (x5_1 : Int).toNat : List ByteArray)).bind fun y125 => (if y122.length + y125.length < 8796093022208 then (some (y122 ++ y125)) else (none)))) else (none)))) else (none))) = some r := by rw [if_neg (show ¬ (false = true) by decide)] at H; exact H
      clear H; have H := H1; clear H1
      by_cases c7 : (rdOf ByteArray.empty l0 x5_1).toList = a1.toList
      ·rw [if_pos c7] at H
       have c7b0 : ((rdOf ByteArray.empty l0 x5_1).toList == a1.toList) = true := beq_iff_eq.mpr c7
       have c7b1 : ((rdOf ByteArray.empty l0 x5_1).toList != a1.toList) = false := bne_eq_false_iff_eq.mpr c7
       clear c7
       obtain rfl := Option.some.inj H
       have p108 : 0 ≤ (x5_1 : Int) := of_decide_eq_true ax22
       have q108 : x5_1 < (l0.length : Int) := of_decide_eq_true ax22
       obtain ⟨ad108, e108, hx108_0⟩ := Kd.at_string (Kd.V_reads' HO_0.out).2.2 x5_1 p108 q108
       cases e108; replace p108 := eq_true p108; replace q108 := eq_true q108
       go_wp2_with (first | (go_at_call 78; (with_reducible refine (spec_l2Before.calls k1 (rdOf ByteArray.empty l0 x5_1) a1 false _ A5.out).mono ?_); rintro e w' ⟨rfl, ⟨nd, rfl⟩⟩; have p110 : 0 ≤ (x5_1 : Int) := of_decide_eq_true ax22; have q110 : x5_1 < (l0.length : Int) := of_decide_eq_true ax22; obtain ⟨ad110, e110, hx110_0⟩ := Kd.at_string (Kd.V_reads' HO_0.out).2.2 x5_1 p110 q110; obtain rfl : ad108 = ad110 := (by injection e110); replace p110 := eq_true p110; replace q110 := eq_true q110))
       go_ret
       exact ⟨_, by first | rfl | (simp [errW_none, errW_some] <;> rfl) | (simp [*, errW_none, errW_some] <;> rfl), by (with_reducible repeat (first | apply Kd.V_alloc | apply Kd.V_drewN | apply Kd.V_drew)); exact HO_0.out, by repeat (first | (with_reducible first | exact HB.out | apply below_alloc | apply pw_below_drewN | apply below_drew1) | exact HB.out)⟩
      ·rw [if_neg c7] at H
       have c7b0 : ((rdOf ByteArray.empty l0 x5_1).toList == a1.toList) = false := beq_eq_false_iff_ne.mpr c7
       have c7b1 : ((rdOf ByteArray.empty l0 x5_1).toList != a1.toList) = true := bne_iff_ne.mpr c7
       have c8b0 := eq_true (of_decide_eq_true ax22 : 0 ≤ x5_1)
       by_cases c9 : x5_1 ≤ (l0.length : Int)
       ·rw [if_pos c9] at H
        have c9b0 := eq_true c9
        have c9b1 : decide (x5_1 ≤ (l0.length : Int)) = true := decide_eq_true c9
        clear c9
        obtain ⟨y111, hy111⟩ : ∃ y_ : List ByteArray, y_ = (l0.take (x5_1 : Int).toNat) := ⟨_, rfl⟩
        replace H : ((spec_l2Own.f y111).bind fun t116 => ((some (([a1] : List ByteArray) : List ByteArray)).bind fun y119 => (if t116.length + y119.length < 8796093022208 then ((some (t116 ++ y119 : List ByteArray)).bind fun y122 => ((some (l0.drop (x5_1 : Int).toNat : List ByteArray)).bind fun y125 => (if y122.length + y125.length < 8796093022208 then (some (y122 ++ y125)) else (none)))) else (none)))) = some r := by first | (rw [hy111]; with_reducible exact H) | (have H2_ := (Option.bind_some _ _).symm.trans H; rw [hy111]; with_reducible exact H2_) | (have H2_ := (Option.bind_some _ _).symm.trans H; with_reducible exact H2_) | with_reducible exact H | (rw [hy111]; exact H) | exact H
        have Ny111 := Aside0.mk hy111; clear hy111; replace H := Option.bind_eq_some_iff.mp H
        obtain ⟨t116, A100, H⟩ := H
        replace H : ((some (([a1] : List ByteArray) : List ByteArray)).bind fun y119 => (if t116.length + y119.length < 8796093022208 then ((some (t116 ++ y119 : List ByteArray)).bind fun y122 => ((some (l0.drop (x5_1 : Int).toNat : List ByteArray)).bind fun y125 => (if y122.length + y125.length < 8796093022208 then (some (y122 ++ y125)) else (none)))) else (none))) = some r := H
        have A10 := Aside0.mk A100; clear A100
        obtain ⟨y119, hy119⟩ : ∃ y_ : List ByteArray, y_ = (([a1] : List ByteArray)) := ⟨_, rfl⟩
        replace H : (if t116.length + y119.length < 8796093022208 then ((some (t116 ++ y119 : List ByteArray)).bind fun y122 => ((some (l0.drop (x5_1 : Int).toNat : List ByteArray)).bind fun y125 => (if y122.length + y125.length < 8796093022208 then (some (y122 ++ y125)) else (none)))) else (none)) = some r := by first | (rw [hy119]; with_reducible exact H) | (have H2_ := (Option.bind_some _ _).symm.trans H; rw [hy119]; with_reducible exact H2_) | (have H2_ := (Option.bind_some _ _).symm.trans H; with_reducible exact H2_) | with_reducible exact H | (rw [hy119]; exact H) | exact H
        have Ny119 := Aside0.mk hy119; clear hy119
        by_cases c11 : t116.length + y119.length < 8796093022208
        ·rw [if_pos c11] at H
         have LMc11 := Aside0.mk c11; clear c11
         obtain ⟨y122, hy122⟩ : ∃ y_ : List ByteArray, y_ = (t116 ++ y119) := ⟨_, rfl⟩
         replace H : ((some (l0.drop (x5_1 : Int).toNat : List ByteArray)).bind fun y125 => (if y122.length + y125.length < 8796093022208 then (some (y122 ++ y125)) else (none))) = some r := by first | (rw [hy122]; with_reducible exact H) | (have H2_ := (Option.bind_some _ _).symm.trans H; rw [hy122]; with_reducible exact H2_) | (have H2_ := (Option.bind_some _ _).symm.trans H; with_reducible exact H2_) | with_reducible exact H | (rw [hy122]; exact H) | exact H
         have Ny122 := Aside0.mk hy122; clear hy122; have c12b0 := eq_true (of_decide_eq_true ax22 : 0 ≤ x5_1); have c13b0 := eq_true (of_decide_eq_true ax22 : x5_1 ≤ (l0.length : Int))
         obtain ⟨y125, hy125⟩ : ∃ y_ : List ByteArray, y_ = (l0.drop (x5_1 : Int).toNat) := ⟨_, rfl⟩
         replace H : (if y122.length + y125.length < 8796093022208 then (some (y122 ++ y125)) else (none)) = some r := by first | (rw [hy125]; with_reducible exact H) | (have H2_ := (Option.bind_some _ _).symm.trans H; rw [hy125]; with_reducible exact H2_) | (have H2_ := (Option.bind_some _ _).symm.trans H; with_reducible exact H2_) | with_reducible exact H | (rw [hy125]; exact H) | exact H
         have Ny125 := Aside0.mk hy125; clear hy125
         by_cases c14 : y122.length + y125.length < 8796093022208
         ·rw [if_pos c14] at H
          have LMc14 := Aside0.mk c14; clear c14
          obtain ⟨y130, hy130⟩ : ∃ y_ : List ByteArray, y_ = (y122 ++ y125) := ⟨_, rfl⟩
          replace H : (some y130) = some r := by first | (rw [hy130]; with_reducible exact H) | (have H2_ := (Option.bind_some _ _).symm.trans H; rw [hy130]; with_reducible exact H2_) | (have H2_ := (Option.bind_some _ _).symm.trans H; with_reducible exact H2_) | with_reducible exact H | (rw [hy130]; exact H) | exact H
          have Ny130 := Aside0.mk hy130; clear hy130
          obtain rfl := Option.some.inj H
          have p108 : 0 ≤ (x5_1 : Int) := of_decide_eq_true ax22
          have q108 : x5_1 < (l0.length : Int) := of_decide_eq_true ax22
          obtain ⟨ad108, e108, hx108_0⟩ := Kd.at_string (Kd.V_reads' HO_0.out).2.2 x5_1 p108 q108
          cases e108; replace p108 := eq_true p108; replace q108 := eq_true q108
          try go_wp2_with (first | (go_at_call 78; (with_reducible refine (spec_l2Before.calls k1 (rdOf ByteArray.empty l0 x5_1) a1 false _ A5.out).mono ?_); rintro e w' ⟨rfl, ⟨nd, rfl⟩⟩; have p110 : 0 ≤ (x5_1 : Int) := of_decide_eq_true ax22; have q110 : x5_1 < (l0.length : Int) := of_decide_eq_true ax22; obtain ⟨ad110, e110, hx110_0⟩ := Kd.at_string (Kd.V_reads' HO_0.out).2.2 x5_1 p110 q110; obtain rfl : ad108 = ad110 := (by injection e110); replace p110 := eq_true p110; replace q110 := eq_true q110))
          (try (rw [drewN_self wr]; generalize hq_ : World.drewN wr _ = wr; have n0_ : Aside0 (Kd.V Kd.string 9 wr w.heap.size (fun k_ => (P0_ k_ ∨ w.heap.size ≤ k_)) (.slice (some ad108) l0.length c0) l0) := ⟨by rw [← hq_]; exact ax30⟩; have n1_ : Aside0 (Below w.heap.size w wr) := ⟨by rw [← hq_]; exact ax25⟩; clear HO_0 HB hq_; have HO_0 := n0_; have HB := n1_; clear n0_ n1_))
          have n0_ := Aside0.mk (Kd.V_drew HO_0.out); have n1_ := Aside0.mk (below_drew1 HB.out); clear HO_0; clear HB; have HO_0 := n0_; have HB := n1_; clear n0_ n1_
          have q16 : (x5_1 : Int) ≤ ((l0.length : Int) : Int) := of_decide_eq_true ax22
          obtain ⟨i016, hi016, _, hsz16, _⟩ := info_parts info9
          have hroom16 : l0.length ≤ c0 := (Kd.V_reads' HO_0.out).2.1
          have hC16 : Kd.F Kd.string _ _ (some ad108) l0.length l0 := (Kd.V_at (base := w.heap.size) HO_0.out).2.2
          have hcut16 := cut_to (P := Tryz.prog) 22 9 .i64 Tryz.underlying22 hi016 (some ad108) l0.length c0 x5_1 (of_decide_eq_true ax22) q16 hroom16
          have hr16 := Kd.F_take (m := (x5_1 : Int).toNat) hC16 (by omega)
          have hy16 : y111.length = (x5_1 : Int).toNat := (by rw [Ny111.out, List.length_take]; omega)
          rw [← Ny111.out] at hr16
          rw [← hy16] at hcut16
          have HO115 := Aside0.mk (show Kd.V Kd.string 9 _ w.heap.size _ (.slice (some ad108) y111.length c0) y111 from Kd.V_mk (by omega) hr16); have HC115 := Aside0.mk (show y111.length ≤ c0 from by omega); clear hr16 hC16 hroom16 hi016 hsz16; have KY16 := Aside0.mk hy16; clear hy16; replace q16 := eq_true q16
          have q17 : (x5_1 : Int) ≤ ((l0.length : Int) : Int) := of_decide_eq_true ax22
          obtain ⟨i017, hi017, _, hsz17, _⟩ := info_parts info9
          have hroom17 : l0.length ≤ c0 := (Kd.V_reads' HO_0.out).2.1
          have hC17 : Kd.F Kd.string _ _ (some ad108) l0.length l0 := (Kd.V_at (base := w.heap.size) HO_0.out).2.2
          have q017 : (0 : Int) ≤ (x5_1 : Int) := of_decide_eq_true ax22
          have hcut17 := cut_from (P := Tryz.prog) 22 9 .i64 Tryz.underlying22 hi017 1 hsz17 (some ad108) l0.length c0 x5_1 q017 q17
          have hr17 := Kd.F_cut (m := (x5_1 : Int).toNat) (c := c0) hC17 (by omega) hroom17
          obtain ⟨A17, hA17⟩ : ∃ A1, A1 = (if c0 = (x5_1 : Int).toNat then (some ad108) else ((some ad108) : Option Addr).map (·.add ((x5_1 : Int).toNat * 1))) := ⟨_, rfl⟩
          obtain ⟨c17, hc17⟩ : ∃ c1, c1 = c0 - (x5_1 : Int).toNat := ⟨_, rfl⟩
          have hy17 : y125.length = l0.length - (x5_1 : Int).toNat := (by rw [Ny125.out, List.length_drop] <;> omega)
          rw [show (l0).drop (x5_1 : Int).toNat = y125 from Ny125.out.symm] at hr17
          replace hr17 : Kd.F Kd.string _ _ A17 y125.length y125 := (by rw [hA17]; exact hr17)
          rw [← hy17, ← hA17, ← hc17] at hcut17
          have HO129 := Aside0.mk (show Kd.V Kd.string 9 _ w.heap.size _ (.slice A17 y125.length c17) y125 from Kd.V_mk (by rw [hy17, hc17]; exact Nat.sub_le_sub_right hroom17 _) hr17)
          have HC129 := Aside0.mk (show y125.length ≤ c17 from by rw [hy17, hc17]; exact Nat.sub_le_sub_right hroom17 _)
          clear hr17 hC17 hroom17 hi017 hsz17 hc17; have KY17 := Aside0.mk hy17; have KA17 := Aside0.mk hA17; clear hy17 hA17; replace q17 := eq_true q17
          refine start_ (n := 12) (S := fun w' => True) (ds := []) (ob 12 0) (by kernel_rfl) rfl rfl trivial (fun hHeld => ?_); refine with_tabW spec_l2Put.tab6 spec_l2Put.bits6 (fun HT_ HW_ => ?_)
          generalize wr.drew = w15 at HO_0 HB HO115 HO129 hHeld ⊢
          refine pure_ (i := 0) (N := some 33) (v := ?_) (a' := ?_) (ob 12 1) rfl rfl (any_of HT_.out (by kernel_rfl)) (fun _ _ _ h => h) (Or.inl ⟨by rfl, ?_⟩) ?_ ?_; rotate_left; exact ax5; rotate_left; exact ax6
          refine pure_ (i := 1) (N := some 34) (v := ?_) (a' := ?_) (ob 12 3) rfl rfl (any_of HT_.out (by kernel_rfl)) (fun _ _ _ h => h) (Or.inl ⟨by rfl, ?_⟩) ?_ ?_; rotate_left; exact ax5; rotate_left; exact ax6
          refine pure_ (i := 2) (N := some 35) (v := ?_) (a' := ?_) (ob 12 7) rfl rfl (any_of HT_.out (by kernel_rfl)) (fun _ _ _ h => h) (Or.inl ⟨by rfl, ?_⟩) ?_ ?_; rotate_left; exact ax5; rotate_left; exact ax6
          refine pure_ (i := 4) (N := some 37) (v := ?_) (a' := ?_) (ob 12 23) rfl rfl (any_of HT_.out (by kernel_rfl)) (fun _ _ _ h => h) (Or.inl ⟨by rfl, ?_⟩) ?_ ?_; rotate_left; exact ax5; rotate_left; exact ax6
          refine pure_ (i := 7) (N := some 40) (v := ?_) (a' := ?_) (ob 12 151) rfl rfl (any_of HT_.out (by kernel_rfl)) (fun _ _ _ h => h) (Or.inl ⟨by rfl, ?_⟩) ?_ ?_; rotate_left; exact ax5; rotate_left; exact ax6
          refine pure_ (i := 8) (N := some 41) (v := ?_) (a' := ?_) (ob 12 407) rfl rfl (any_of HT_.out (by kernel_rfl)) (fun _ _ _ h => h) (Or.inl ⟨by rfl, ?_⟩) ?_ ?_; rotate_left; exact ax5; rotate_left; exact ax6
          refine pure_ (i := 9) (N := some 42) (v := ?_) (a' := ?_) (ob 12 919) rfl rfl (any_of HT_.out (by kernel_rfl)) (fun _ _ _ h => h) (Or.inl ⟨by rfl, ?_⟩) ?_ ?_; rotate_left; exact ax5; rotate_left; exact ax6
          refine join_ (σ := Value × Value) 3 (ob 12 959) (fun s_ => [(36, s_.1), (38, s_.2)]) (fun s_ w' => (Kd.V Kd.string 9 w' w.heap.size (fun k_ => (P0_ k_ ∨ w.heap.size ≤ k_) ∧ some k_ ≠ (s_.1 : Value).ownBlock ∧ some k_ ≠ (s_.2 : Value).ownBlock) (.slice (some ad108) y111.length c0) y111) ∧ (Kd.R Kd.string 9 w' w.heap.size (fun k_ => (w.heap.size ≤ k_) ∧ some k_ ≠ (s_.2 : Value).ownBlock) s_.1 t116) ∧ (Kd.R Kd.string 9 w' w.heap.size (fun k_ => (w.heap.size ≤ k_) ∧ some k_ ≠ (s_.1 : Value).ownBlock) s_.2 y119) ∧ (Kd.V Kd.string 9 w' w.heap.size (fun k_ => (P0_ k_ ∨ w.heap.size ≤ k_) ∧ some k_ ≠ (s_.1 : Value).ownBlock ∧ some k_ ≠ (s_.2 : Value).ownBlock) (.slice A17 y125.length c17) y125) ∧ (Kd.V Kd.string 9 w' w.heap.size (fun k_ => (P0_ k_ ∨ w.heap.size ≤ k_) ∧ some k_ ≠ (s_.1 : Value).ownBlock ∧ some k_ ≠ (s_.2 : Value).ownBlock) (.slice (some ad108) l0.length c0) l0) ∧ (Below w.heap.size w w')) ?_ ?_
          rotate_left
          ·intro hCont
           refine two_ (i := 3) (j := 5) (Ni := some 36) (Nj := some 38) (ob 12 927) (ob 12 951) rfl rfl rfl rfl (two_of HT_.out (by kernel_rfl)) (by decide) (by decide) (fun K hK => ?_) (fun K hK => ?_)
           ·skip
            refine goes_ Tryz.func79 (by kernel_rfl) rfl #[.slice (some ad108) y111.length c0] (by rfl) rfl rfl ax31 ?_
            with_reducible refine (spec_l2Own.calls _ _ y111 t116 _ ?side1 ?side2 A10.out).mono ?_
            (case side1 => exact ax32)
            (case side2 => exact (Kd.V_reads' HO115.out).2.1)
            rintro e w18 ⟨v117, rfl, ho0, hb⟩
            refine ⟨_, rfl, ?_⟩
            have n0_ := Aside0.mk (Kd.V_elder' ax30 (Kd.R_base ho0) hb); have n1_ := Aside0.mk (Kd.V_elder' ax33 (Kd.R_base ho0) hb); have n2_ := Aside0.mk (Kd.V_elder' ax34 (Kd.R_base ho0) hb)
            have n3_ := Aside0.mk (Kd.R_lower (Kd.R_newM (M := fun k_ => (w.heap.size ≤ k_)) ho0 (below_size ax25) (fun k_ h_ => h_)) (below_size ax25))
            have n4_ := Aside0.mk (below_step ax25 hb); clear HO_0; clear HO115; clear HO129; clear HB; have HO_0 := n0_; have HO115 := n1_; have HO129 := n2_; have HO118 := n3_; have HB := n4_; clear n0_ n1_ n2_ n3_ n4_; (try clear hb); (try clear hb2); (try clear hk); (try clear hi); (try clear ho0)
            refine hK.out _ _ trivial (fun hHeld => ?_)
            clear hK K
            refine norm_ (a' := ?_) ?_ ?_
            rotate_left
            ·exact ax7
            refine one_ (i := 5) (N := some 38) (ob 12 959) rfl rfl (one_of HT_.out (by kernel_rfl)) (by decide) (fun K hK => ?_)
            refine Kd.R_lit_step Kd.string _ 9 ?hg (N := 38) ?hd (xs := ([a1] : List ByteArray)) (inner := [.string a1]) (ok := fun _ => True) (okp := fun _ => True) ?hr ?hp (fun _ hk => hk) trivial (Below.refl _ _) (Nat.le_refl _) (by simp) ?_; (case hd => rfl); (case hg => rfl); (case hr => exact ax23); (case hp => exact ax35)
            intro v120 w19 ho20 hb hg_ hnew_
            clear hg_ hnew_
            (first | rw [← Ny119.out] at ho20 | (simp only [Int.reduceToNat] at ho20; rw [← Ny119.out] at ho20))
            have n0_ := Aside0.mk (Kd.V_elder' ax30 (Kd.R_base ho20) hb); have n1_ := Aside0.mk (Kd.V_elder' ax33 (Kd.R_base ho20) hb); have n2_ := Aside0.mk (Kd.V_elder' ax34 (Kd.R_base ho20) hb); have n3_ := Aside0.mk (Kd.R_elder' ax36 (Kd.R_base ho20) hb)
            have n4_ := Aside0.mk (Kd.R_lower (Kd.R_new' (Kd.R_newM (M := fun k_ => (w.heap.size ≤ k_)) ho20 (below_size ax25) (fun k_ h_ => h_)) (Kd.R_lt ax36)) (below_size ax25))
            have n5_ := Aside0.mk (below_step ax25 hb); clear HO_0; clear HO115; clear HO129; clear HO118; clear HB; have HO_0 := n0_; have HO115 := n1_; have HO129 := n2_; have HO118 := n3_; have HO121 := n4_; have HB := n5_; clear n0_ n1_ n2_ n3_ n4_ n5_; clear hb ho20
            refine hK.out _ _ trivial (fun hHeld => ?_)
            clear hK K
            refine norm_ (a' := ?_) ?_ ?_
            rotate_left
            ·exact ax8
            exact norm_ ax37 (hCont (v117, v120) _ ⟨(by (with_reducible repeat (first | apply Kd.V_alloc | apply Kd.V_drewN | apply Kd.V_drew)); exact Kd.V_mono HO115.out (fun _ hk => ⟨hk.1.1, ⟨hk.1.2, hk.2⟩⟩)), ax38, ax39, (by (with_reducible repeat (first | apply Kd.V_alloc | apply Kd.V_drewN | apply Kd.V_drew)); exact Kd.V_mono HO129.out (fun _ hk => ⟨hk.1.1, ⟨hk.1.2, hk.2⟩⟩)), ax40, ax25⟩)
           ·skip
            refine Kd.R_lit_step Kd.string _ 9 ?hg (N := 38) ?hd (xs := ([a1] : List ByteArray)) (inner := [.string a1]) (ok := fun _ => True) (okp := fun _ => True) ?hr ?hp (fun _ hk => hk) trivial (Below.refl _ _) (Nat.le_refl _) (by simp) ?_; (case hd => rfl); (case hg => rfl); (case hr => exact ax23); (case hp => exact ax35)
            intro v120 w18 ho19 hb hg_ hnew_
            clear hg_ hnew_
            (first | rw [← Ny119.out] at ho19 | (simp only [Int.reduceToNat] at ho19; rw [← Ny119.out] at ho19))
            have n0_ := Aside0.mk (Kd.V_elder' ax30 (Kd.R_base ho19) hb); have n1_ := Aside0.mk (Kd.V_elder' ax33 (Kd.R_base ho19) hb); have n2_ := Aside0.mk (Kd.V_elder' ax34 (Kd.R_base ho19) hb)
            have n3_ := Aside0.mk (Kd.R_lower (Kd.R_newM (M := fun k_ => (w.heap.size ≤ k_)) ho19 (below_size ax25) (fun k_ h_ => h_)) (below_size ax25))
            have n4_ := Aside0.mk (below_step ax25 hb); clear HO_0; clear HO115; clear HO129; clear HB; have HO_0 := n0_; have HO115 := n1_; have HO129 := n2_; have HO121 := n3_; have HB := n4_; clear n0_ n1_ n2_ n3_ n4_; clear hb ho19
            refine hK.out _ _ trivial (fun hHeld => ?_)
            clear hK K
            refine norm_ (a' := ?_) ?_ ?_
            rotate_left
            ·exact ax8
            refine one_ (i := 3) (N := some 36) (ob 12 959) rfl rfl (one_of HT_.out (by kernel_rfl)) (by decide) (fun K hK => ?_)
            refine goes_ Tryz.func79 (by kernel_rfl) rfl #[.slice (some ad108) y111.length c0] (by rfl) rfl rfl ax31 ?_
            with_reducible refine (spec_l2Own.calls _ _ y111 t116 _ ?side1 ?side2 A10.out).mono ?_
            (case side1 => exact ax32)
            (case side2 => exact (Kd.V_reads' HO115.out).2.1)
            rintro e w20 ⟨v117, rfl, ho0, hb⟩
            refine ⟨_, rfl, ?_⟩
            have n0_ := Aside0.mk (Kd.V_elder' ax30 (Kd.R_base ho0) hb); have n1_ := Aside0.mk (Kd.V_elder' ax33 (Kd.R_base ho0) hb); have n2_ := Aside0.mk (Kd.V_elder' ax34 (Kd.R_base ho0) hb); have n3_ := Aside0.mk (Kd.R_elder' ax41 (Kd.R_base ho0) hb)
            have n4_ := Aside0.mk (Kd.R_lower (Kd.R_new' (Kd.R_newM (M := fun k_ => (w.heap.size ≤ k_)) ho0 (below_size ax25) (fun k_ h_ => h_)) (Kd.R_lt ax41)) (below_size ax25))
            have n5_ := Aside0.mk (below_step ax25 hb); clear HO_0; clear HO115; clear HO129; clear HO121; clear HB; have HO_0 := n0_; have HO115 := n1_; have HO129 := n2_; have HO121 := n3_; have HO118 := n4_; have HB := n5_; clear n0_ n1_ n2_ n3_ n4_ n5_; (try clear hb); (try clear hb2); (try clear hk); (try clear hi); (try clear ho0)
            refine hK.out _ _ trivial (fun hHeld => ?_)
            clear hK K
            refine norm_ (a' := ?_) ?_ ?_
            rotate_left
            ·exact ax7
            exact norm_ ax37 (hCont (v117, v120) _ ⟨(by (with_reducible repeat (first | apply Kd.V_alloc | apply Kd.V_drewN | apply Kd.V_drew)); exact Kd.V_mono HO115.out (fun _ hk => ⟨hk.1.1, ⟨hk.2, hk.1.2⟩⟩)), ax38, ax39, (by (with_reducible repeat (first | apply Kd.V_alloc | apply Kd.V_drewN | apply Kd.V_drew)); exact Kd.V_mono HO129.out (fun _ hk => ⟨hk.1.1, ⟨hk.2, hk.1.2⟩⟩)), ax42, ax25⟩)
          rintro ⟨v117, v120⟩ w21 ⟨h0_, h1_, h2_, h3_, h4_, h5_⟩
          have n0_ : Aside0 (Kd.V Kd.string 9 w21 w.heap.size (fun k_ => (P0_ k_ ∨ w.heap.size ≤ k_) ∧ some k_ ≠ (v117 : Value).ownBlock ∧ some k_ ≠ (v120 : Value).ownBlock) (.slice (some ad108) y111.length c0) y111) := ⟨h0_⟩
          have n1_ : Aside0 (Kd.R Kd.string 9 w21 w.heap.size (fun k_ => (w.heap.size ≤ k_) ∧ some k_ ≠ (v120 : Value).ownBlock) v117 t116) := ⟨h1_⟩
          have n2_ : Aside0 (Kd.R Kd.string 9 w21 w.heap.size (fun k_ => (w.heap.size ≤ k_) ∧ some k_ ≠ (v117 : Value).ownBlock) v120 y119) := ⟨h2_⟩
          have n3_ : Aside0 (Kd.V Kd.string 9 w21 w.heap.size (fun k_ => (P0_ k_ ∨ w.heap.size ≤ k_) ∧ some k_ ≠ (v117 : Value).ownBlock ∧ some k_ ≠ (v120 : Value).ownBlock) (.slice A17 y125.length c17) y125) := ⟨h3_⟩
          have n4_ : Aside0 (Kd.V Kd.string 9 w21 w.heap.size (fun k_ => (P0_ k_ ∨ w.heap.size ≤ k_) ∧ some k_ ≠ (v117 : Value).ownBlock ∧ some k_ ≠ (v120 : Value).ownBlock) (.slice (some ad108) l0.length c0) l0) := ⟨h4_⟩
          have n5_ : Aside0 (Below w.heap.size w w21) := ⟨h5_⟩
          clear HO_0; clear HB; clear h0_ h1_ h2_ h3_ h4_ h5_; have HO115 := n0_; have HO118 := n1_; have HO121 := n2_; have HO129 := n3_; have HO_0 := n4_; have HB := n5_; clear n0_ n1_ n2_ n3_ n4_ n5_; have hHeld := trivial
          obtain ⟨Ao23, co23, eo23⟩ := Kd.R_slice HO121.out
          (first | subst eo23 | (injection eo23 with f1_ f2_ f3_; have f4_ := f1_.symm; have f5_ := f3_.symm; clear f1_ f2_ f3_; subst f4_; subst f5_))
          refine norm_ (a' := ?_) ?_ ?_
          rotate_left
          ·exact ax9
          refine one_ (i := 6) (N := some 39) (ob 12 1023) rfl rfl (one_of HT_.out (by kernel_rfl)) (by decide) (fun K hK => ?_)
          refine Kd.R_append_rows_step Kd.string (w0 := w) w.heap.size (by rfl) (.tmp 36) (.tmp 38) 22 9 (.string ⟨#[]⟩) 16 rfl Tryz.underlying22 info9 rfl (by decide) (by omega) v117 t116 y119 _ _ _ (fun k_ => (w.heap.size ≤ k_) ∧ some k_ ≠ (.slice Ao23 y119.length co23 : Value).ownBlock) (fun _ => False) rfl rfl ?aO ?aR (fun _ _ h => h) (fun _ h => h.elim) ?aF ?aB ?aS ?aL ?_
          (case aR => repeat (first | exact (Kd.R_reads' HO121.out).2.2 | (with_reducible refine Kd.C_alloc ?_ _) | (with_reducible refine Kd.C_drewN ?_ _) | (with_reducible refine Kd.C_drew ?_)))
          (case aB => exact ax27)
          (case aF => exact ax43)
          (case aO => exact ax36)
          (case aS => exact ax29)
          (case aL => have := LMc11.out; omega)
          intro v123 w22 ho hb hg hat
          rw [← Ny122.out] at ho
          have n0_ := Aside0.mk (Kd.V_afterv (ok := (fun k_ => (P0_ k_ ∨ w.heap.size ≤ k_) ∧ some k_ ≠ (.slice Ao23 y119.length co23 : Value).ownBlock)) ax44 hg hat)
          have n1_ := Aside0.mk (Kd.V_afterv (ok := (fun k_ => (P0_ k_ ∨ w.heap.size ≤ k_) ∧ some k_ ≠ (.slice Ao23 y119.length co23 : Value).ownBlock)) (by (with_reducible repeat (first | apply Kd.V_alloc | apply Kd.V_drewN | apply Kd.V_drew)); exact Kd.V_mono HO115.out (fun _ hk => ⟨⟨hk.1, hk.2.2⟩, hk.2.1⟩)) hg hat)
          have n2_ := Aside0.mk (Kd.V_afterv (ok := (fun k_ => (P0_ k_ ∨ w.heap.size ≤ k_) ∧ some k_ ≠ (.slice Ao23 y119.length co23 : Value).ownBlock)) (by (with_reducible repeat (first | apply Kd.V_alloc | apply Kd.V_drewN | apply Kd.V_drew)); exact Kd.V_mono HO129.out (fun _ hk => ⟨⟨hk.1, hk.2.2⟩, hk.2.1⟩)) hg hat)
          have n3_ := Aside0.mk (Kd.R_after (ok := (fun k_ => (w.heap.size ≤ k_))) ax41 hg hat)
          have n4_ := Aside0.mk (hb); have n5_ := Aside0.mk (ho); clear HO_0; clear HO115; clear HO129; clear HO121; clear HB; clear HO118; have HO_0 := n0_; have HO115 := n1_; have HO129 := n2_; have HO121 := n3_; have HB := n4_; have HO124 := n5_; clear n0_ n1_ n2_ n3_ n4_ n5_; clear ho hb hg hat
          refine hK.out _ _ trivial (fun hHeld => ?_)
          clear hK K
          refine norm_ (a' := ?_) ?_ ?_
          rotate_left
          ·show Act.put _ (some 39) _ = _
           simp only [Act.put, List.setIfInBounds_toArray, List.set_cons_zero, List.set_cons_succ, i64_w, i32_w]
           rfl
          refine one_ (i := 10) (N := some 43) (ob 12 2047) rfl rfl (one_of HT_.out (by kernel_rfl)) (by decide) (fun K hK => ?_)
          refine Kd.R_append_rows_step Kd.string (w0 := w) w.heap.size (by rfl) (.tmp 39) (.tmp 42) 22 9 (.string ⟨#[]⟩) 16 rfl Tryz.underlying22 info9 rfl (by decide) (by omega) v123 y122 y125 _ _ _ (fun k_ => (w.heap.size ≤ k_) ∧ some k_ ≠ (.slice Ao23 y119.length co23 : Value).ownBlock) (fun _ => False) rfl rfl ?aO ?aR (fun _ _ h => h) (fun _ h => h.elim) ?aF ?aB ?aS ?aL ?_
          (case aR => repeat (first | exact (Kd.V_reads' HO129.out).2.2 | (with_reducible refine Kd.C_alloc ?_ _) | (with_reducible refine Kd.C_drewN ?_ _) | (with_reducible refine Kd.C_drew ?_)))
          (case aB => exact ax27)
          (case aF => exact ax43)
          (case aO => exact (by (with_reducible repeat (first | apply Kd.R_alloc | apply Kd.R_drewN | apply Kd.R_drew)); exact HO124.out))
          (case aS => exact ax29)
          (case aL => have := LMc14.out; omega)
          intro v131 w24 ho hb hg hat
          rw [← Ny130.out] at ho
          have n0_ := Aside0.mk (Kd.V_afterv (ok := (fun k_ => (P0_ k_ ∨ w.heap.size ≤ k_) ∧ some k_ ≠ (.slice Ao23 y119.length co23 : Value).ownBlock)) ax30 hg hat)
          have n1_ := Aside0.mk (Kd.V_afterv (ok := (fun k_ => (P0_ k_ ∨ w.heap.size ≤ k_) ∧ some k_ ≠ (.slice Ao23 y119.length co23 : Value).ownBlock)) ax33 hg hat)
          have n2_ := Aside0.mk (Kd.V_afterv (ok := (fun k_ => (P0_ k_ ∨ w.heap.size ≤ k_) ∧ some k_ ≠ (.slice Ao23 y119.length co23 : Value).ownBlock)) ax34 hg hat)
          have n3_ := Aside0.mk (Kd.R_after (ok := (fun k_ => (w.heap.size ≤ k_))) ax41 hg hat)
          have n4_ := Aside0.mk (hb); have n5_ := Aside0.mk (ho); clear HO_0; clear HO115; clear HO129; clear HO121; clear HB; clear HO124; have HO_0 := n0_; have HO115 := n1_; have HO129 := n2_; have HO121 := n3_; have HB := n4_; have HO132 := n5_; clear n0_ n1_ n2_ n3_ n4_ n5_; clear ho hb hg hat
          refine hK.out _ _ trivial (fun hHeld => ?_)
          clear hK K
          refine norm_ (a' := ?_) ?_ ?_
          rotate_left
          ·exact ax10
          refine pure_ (i := 11) (N := some 4) (v := ?_) (a' := ?_) (ob 12 4095) rfl rfl (any_of HT_.out (by kernel_rfl)) (fun _ _ _ h => h) (Or.inl ⟨by rfl, ?_⟩) ?_ ?_; rotate_left; exact ax5; rotate_left; exact ax6
          refine done_ (done_of HT_.out (by kernel_rfl)) ?_
          try go_wp2
          go_ret
          exact ⟨_, by first | rfl | (simp [errW_none, errW_some] <;> rfl) | (simp [*, errW_none, errW_some] <;> rfl), Kd.V_mono (Kd.R_V (by (with_reducible repeat (first | apply Kd.R_alloc | apply Kd.R_drewN | apply Kd.R_drew)); exact Kd.R_mono HO132.out (fun _ hk => hk.1))) (fun k_ hk => by first | exact ⟨(.inr (hk.1)), hk.2⟩ | exact (.inr (hk))), by repeat (first | (with_reducible first | exact HB.out | apply below_alloc | apply pw_below_drewN | apply below_drew1) | exact HB.out)⟩
         ·rw [if_neg c14] at H
          exact absurd H (by simp)
        ·exact ax11
       ·exact ax3
    ·exact ax12
   ·rw [if_neg c3] at H
    have c3b0 : decide (x5_1 < (l0.length : Int)) = false := decide_eq_false c3
    clear c3
    by_cases c25 : 0 ≤ x5_1
    ·rw [if_pos c25] at H
     have c25b0 := eq_true c25
     have c25b1 : decide (0 ≤ x5_1) = true := decide_eq_true c25
     clear c25
     by_cases c26 : x5_1 ≤ (l0.length : Int)
     ·rw [if_pos c26] at H
      have c26b0 := eq_true c26
      have c26b1 : decide (x5_1 ≤ (l0.length : Int)) = true := decide_eq_true c26
      clear c26
      obtain ⟨y133, hy133⟩ : ∃ y_ : List ByteArray, y_ = (l0.take (x5_1 : Int).toNat) := ⟨_, rfl⟩
      replace H : ((spec_l2Own.f y133).bind fun t138 => ((some (([a1] : List ByteArray) : List ByteArray)).bind fun y141 => (if t138.length + y141.length < 8796093022208 then ((some (t138 ++ y141 : List ByteArray)).bind fun y144 => ((some (l0.drop (x5_1 : Int).toNat : List ByteArray)).bind fun y147 => (if y144.length + y147.length < 8796093022208 then (some (y144 ++ y147)) else (none)))) else (none)))) = some r := by first | (rw [hy133]; with_reducible exact H) | (have H2_ := (Option.bind_some _ _).symm.trans H; rw [hy133]; with_reducible exact H2_) | (have H2_ := (Option.bind_some _ _).symm.trans H; with_reducible exact H2_) | with_reducible exact H | (rw [hy133]; exact H) | exact H
      have Ny133 := Aside0.mk hy133; clear hy133; replace H := Option.bind_eq_some_iff.mp H
      obtain ⟨t138, A270, H⟩ := H
      replace H : ((some (([a1] : List ByteArray) : List ByteArray)).bind fun y141 => (if t138.length + y141.length < 8796093022208 then ((some (t138 ++ y141 : List ByteArray)).bind fun y144 => ((some (l0.drop (x5_1 : Int).toNat : List ByteArray)).bind fun y147 => (if y144.length + y147.length < 8796093022208 then (some (y144 ++ y147)) else (none)))) else (none))) = some r := H
      have A27 := Aside0.mk A270; clear A270
      obtain ⟨y141, hy141⟩ : ∃ y_ : List ByteArray, y_ = (([a1] : List ByteArray)) := ⟨_, rfl⟩
      replace H : (if t138.length + y141.length < 8796093022208 then ((some (t138 ++ y141 : List ByteArray)).bind fun y144 => ((some (l0.drop (x5_1 : Int).toNat : List ByteArray)).bind fun y147 => (if y144.length + y147.length < 8796093022208 then (some (y144 ++ y147)) else (none)))) else (none)) = some r := by first | (rw [hy141]; with_reducible exact H) | (have H2_ := (Option.bind_some _ _).symm.trans H; rw [hy141]; with_reducible exact H2_) | (have H2_ := (Option.bind_some _ _).symm.trans H; with_reducible exact H2_) | with_reducible exact H | (rw [hy141]; exact H) | exact H
      have Ny141 := Aside0.mk hy141; clear hy141
      by_cases c28 : t138.length + y141.length < 8796093022208
      ·rw [if_pos c28] at H
       have LMc28 := Aside0.mk c28; clear c28
       obtain ⟨y144, hy144⟩ : ∃ y_ : List ByteArray, y_ = (t138 ++ y141) := ⟨_, rfl⟩
       replace H : ((some (l0.drop (x5_1 : Int).toNat : List ByteArray)).bind fun y147 => (if y144.length + y147.length < 8796093022208 then (some (y144 ++ y147)) else (none))) = some r := by first | (rw [hy144]; with_reducible exact H) | (have H2_ := (Option.bind_some _ _).symm.trans H; rw [hy144]; with_reducible exact H2_) | (have H2_ := (Option.bind_some _ _).symm.trans H; with_reducible exact H2_) | with_reducible exact H | (rw [hy144]; exact H) | exact H
       have Ny144 := Aside0.mk hy144; clear hy144; have c29b0 := eq_true (of_decide_eq_true ax22 : 0 ≤ x5_1); have c30b0 := eq_true (of_decide_eq_true ax22 : x5_1 ≤ (l0.length : Int))
       obtain ⟨y147, hy147⟩ : ∃ y_ : List ByteArray, y_ = (l0.drop (x5_1 : Int).toNat) := ⟨_, rfl⟩
       replace H : (if y144.length + y147.length < 8796093022208 then (some (y144 ++ y147)) else (none)) = some r := by first | (rw [hy147]; with_reducible exact H) | (have H2_ := (Option.bind_some _ _).symm.trans H; rw [hy147]; with_reducible exact H2_) | (have H2_ := (Option.bind_some _ _).symm.trans H; with_reducible exact H2_) | with_reducible exact H | (rw [hy147]; exact H) | exact H
       have Ny147 := Aside0.mk hy147; clear hy147
       by_cases c31 : y144.length + y147.length < 8796093022208
       ·rw [if_pos c31] at H
        have LMc31 := Aside0.mk c31; clear c31
        obtain ⟨y152, hy152⟩ : ∃ y_ : List ByteArray, y_ = (y144 ++ y147) := ⟨_, rfl⟩
        replace H : (some y152) = some r := by first | (rw [hy152]; with_reducible exact H) | (have H2_ := (Option.bind_some _ _).symm.trans H; rw [hy152]; with_reducible exact H2_) | (have H2_ := (Option.bind_some _ _).symm.trans H; with_reducible exact H2_) | with_reducible exact H | (rw [hy152]; exact H) | exact H
        have Ny152 := Aside0.mk hy152; clear hy152
        obtain rfl := Option.some.inj H
        try go_wp2
        have n0_ := Aside0.mk (Kd.V_drew HO_0.out); have n1_ := Aside0.mk (below_drew1 HB.out); clear HO_0; clear HB; have HO_0 := n0_; have HB := n1_; clear n0_ n1_
        have q33 : (x5_1 : Int) ≤ ((l0.length : Int) : Int) := of_decide_eq_true ax22
        obtain ⟨i033, hi033, _, hsz33, _⟩ := info_parts info9
        have hroom33 : l0.length ≤ c0 := (Kd.V_reads' HO_0.out).2.1
        have hC33 : Kd.F Kd.string _ _ A0 l0.length l0 := (Kd.V_at (base := w.heap.size) HO_0.out).2.2
        have hcut33 := cut_to (P := Tryz.prog) 22 9 .i64 Tryz.underlying22 hi033 A0 l0.length c0 x5_1 (of_decide_eq_true ax22) q33 hroom33
        have hr33 := Kd.F_take (m := (x5_1 : Int).toNat) hC33 (by omega)
        have hy33 : y133.length = (x5_1 : Int).toNat := (by rw [Ny133.out, List.length_take]; omega)
        rw [← Ny133.out] at hr33
        rw [← hy33] at hcut33
        have HO137 := Aside0.mk (show Kd.V Kd.string 9 _ w.heap.size _ (.slice A0 y133.length c0) y133 from Kd.V_mk (by omega) hr33); have HC137 := Aside0.mk (show y133.length ≤ c0 from by omega); clear hr33 hC33 hroom33 hi033 hsz33; have KY33 := Aside0.mk hy33; clear hy33; replace q33 := eq_true q33
        have q34 : (x5_1 : Int) ≤ ((l0.length : Int) : Int) := of_decide_eq_true ax22
        obtain ⟨i034, hi034, _, hsz34, _⟩ := info_parts info9
        have hroom34 : l0.length ≤ c0 := (Kd.V_reads' HO_0.out).2.1
        have hC34 : Kd.F Kd.string _ _ A0 l0.length l0 := (Kd.V_at (base := w.heap.size) HO_0.out).2.2
        have q034 : (0 : Int) ≤ (x5_1 : Int) := of_decide_eq_true ax22
        have hcut34 := cut_from (P := Tryz.prog) 22 9 .i64 Tryz.underlying22 hi034 1 hsz34 A0 l0.length c0 x5_1 q034 q34
        have hr34 := Kd.F_cut (m := (x5_1 : Int).toNat) (c := c0) hC34 (by omega) hroom34
        obtain ⟨A34, hA34⟩ : ∃ A1, A1 = (if c0 = (x5_1 : Int).toNat then A0 else (A0 : Option Addr).map (·.add ((x5_1 : Int).toNat * 1))) := ⟨_, rfl⟩
        obtain ⟨c34, hc34⟩ : ∃ c1, c1 = c0 - (x5_1 : Int).toNat := ⟨_, rfl⟩
        have hy34 : y147.length = l0.length - (x5_1 : Int).toNat := (by rw [Ny147.out, List.length_drop] <;> omega)
        rw [show (l0).drop (x5_1 : Int).toNat = y147 from Ny147.out.symm] at hr34
        replace hr34 : Kd.F Kd.string _ _ A34 y147.length y147 := (by rw [hA34]; exact hr34)
        rw [← hy34, ← hA34, ← hc34] at hcut34
        have HO151 := Aside0.mk (show Kd.V Kd.string 9 _ w.heap.size _ (.slice A34 y147.length c34) y147 from Kd.V_mk (by rw [hy34, hc34]; exact Nat.sub_le_sub_right hroom34 _) hr34)
        have HC151 := Aside0.mk (show y147.length ≤ c34 from by rw [hy34, hc34]; exact Nat.sub_le_sub_right hroom34 _)
        clear hr34 hC34 hroom34 hi034 hsz34 hc34; have KY34 := Aside0.mk hy34; have KA34 := Aside0.mk hA34; clear hy34 hA34; replace q34 := eq_true q34
        refine start_ (n := 12) (S := fun w' => True) (ds := []) (ob 12 0) (by kernel_rfl) rfl rfl trivial (fun hHeld => ?_); refine with_tabW spec_l2Put.tab6 spec_l2Put.bits6 (fun HT_ HW_ => ?_)
        generalize wr.drew = w32 at HO_0 HB HO137 HO151 hHeld ⊢
        refine pure_ (i := 0) (N := some 33) (v := ?_) (a' := ?_) (ob 12 1) rfl rfl (any_of HT_.out (by kernel_rfl)) (fun _ _ _ h => h) (Or.inl ⟨by rfl, ?_⟩) ?_ ?_; rotate_left; exact ax5; rotate_left; exact ax6
        refine pure_ (i := 1) (N := some 34) (v := ?_) (a' := ?_) (ob 12 3) rfl rfl (any_of HT_.out (by kernel_rfl)) (fun _ _ _ h => h) (Or.inl ⟨by rfl, ?_⟩) ?_ ?_; rotate_left; exact ax5; rotate_left; exact ax6
        refine pure_ (i := 2) (N := some 35) (v := ?_) (a' := ?_) (ob 12 7) rfl rfl (any_of HT_.out (by kernel_rfl)) (fun _ _ _ h => h) (Or.inl ⟨by rfl, ?_⟩) ?_ ?_; rotate_left; exact ax5; rotate_left; exact ax6
        refine pure_ (i := 4) (N := some 37) (v := ?_) (a' := ?_) (ob 12 23) rfl rfl (any_of HT_.out (by kernel_rfl)) (fun _ _ _ h => h) (Or.inl ⟨by rfl, ?_⟩) ?_ ?_; rotate_left; exact ax5; rotate_left; exact ax6
        refine pure_ (i := 7) (N := some 40) (v := ?_) (a' := ?_) (ob 12 151) rfl rfl (any_of HT_.out (by kernel_rfl)) (fun _ _ _ h => h) (Or.inl ⟨by rfl, ?_⟩) ?_ ?_; rotate_left; exact ax5; rotate_left; exact ax6
        refine pure_ (i := 8) (N := some 41) (v := ?_) (a' := ?_) (ob 12 407) rfl rfl (any_of HT_.out (by kernel_rfl)) (fun _ _ _ h => h) (Or.inl ⟨by rfl, ?_⟩) ?_ ?_; rotate_left; exact ax5; rotate_left; exact ax6
        refine pure_ (i := 9) (N := some 42) (v := ?_) (a' := ?_) (ob 12 919) rfl rfl (any_of HT_.out (by kernel_rfl)) (fun _ _ _ h => h) (Or.inl ⟨by rfl, ?_⟩) ?_ ?_; rotate_left; exact ax5; rotate_left; exact ax6
        refine join_ (σ := Value × Value) 3 (ob 12 959) (fun s_ => [(36, s_.1), (38, s_.2)]) (fun s_ w' => (Kd.V Kd.string 9 w' w.heap.size (fun k_ => (P0_ k_ ∨ w.heap.size ≤ k_) ∧ some k_ ≠ (s_.1 : Value).ownBlock ∧ some k_ ≠ (s_.2 : Value).ownBlock) (.slice A0 y133.length c0) y133) ∧ (Kd.R Kd.string 9 w' w.heap.size (fun k_ => (w.heap.size ≤ k_) ∧ some k_ ≠ (s_.2 : Value).ownBlock) s_.1 t138) ∧ (Kd.R Kd.string 9 w' w.heap.size (fun k_ => (w.heap.size ≤ k_) ∧ some k_ ≠ (s_.1 : Value).ownBlock) s_.2 y141) ∧ (Kd.V Kd.string 9 w' w.heap.size (fun k_ => (P0_ k_ ∨ w.heap.size ≤ k_) ∧ some k_ ≠ (s_.1 : Value).ownBlock ∧ some k_ ≠ (s_.2 : Value).ownBlock) (.slice A34 y147.length c34) y147) ∧ (Kd.V Kd.string 9 w' w.heap.size (fun k_ => (P0_ k_ ∨ w.heap.size ≤ k_) ∧ some k_ ≠ (s_.1 : Value).ownBlock ∧ some k_ ≠ (s_.2 : Value).ownBlock) (.slice A0 l0.length c0) l0) ∧ (Below w.heap.size w w')) ?_ ?_
        rotate_left
        ·intro hCont
         refine two_ (i := 3) (j := 5) (Ni := some 36) (Nj := some 38) (ob 12 927) (ob 12 951) rfl rfl rfl rfl (two_of HT_.out (by kernel_rfl)) (by decide) (by decide) (fun K hK => ?_) (fun K hK => ?_)
         ·skip
          refine goes_ Tryz.func79 (by kernel_rfl) rfl #[.slice A0 y133.length c0] (by rfl) rfl rfl ax31 ?_
          with_reducible refine (spec_l2Own.calls _ _ y133 t138 _ ?side1 ?side2 A27.out).mono ?_
          (case side1 => exact ax45)
          (case side2 => exact (Kd.V_reads' HO137.out).2.1)
          rintro e w35 ⟨v139, rfl, ho0, hb⟩
          refine ⟨_, rfl, ?_⟩
          have n0_ := Aside0.mk (Kd.V_elder' ax30 (Kd.R_base ho0) hb); have n1_ := Aside0.mk (Kd.V_elder' ax46 (Kd.R_base ho0) hb); have n2_ := Aside0.mk (Kd.V_elder' ax47 (Kd.R_base ho0) hb)
          have n3_ := Aside0.mk (Kd.R_lower (Kd.R_newM (M := fun k_ => (w.heap.size ≤ k_)) ho0 (below_size ax25) (fun k_ h_ => h_)) (below_size ax25))
          have n4_ := Aside0.mk (below_step ax25 hb); clear HO_0; clear HO137; clear HO151; clear HB; have HO_0 := n0_; have HO137 := n1_; have HO151 := n2_; have HO140 := n3_; have HB := n4_; clear n0_ n1_ n2_ n3_ n4_; (try clear hb); (try clear hb2); (try clear hk); (try clear hi); (try clear ho0)
          refine hK.out _ _ trivial (fun hHeld => ?_)
          clear hK K
          refine norm_ (a' := ?_) ?_ ?_
          rotate_left
          ·exact ax7
          refine one_ (i := 5) (N := some 38) (ob 12 959) rfl rfl (one_of HT_.out (by kernel_rfl)) (by decide) (fun K hK => ?_)
          refine Kd.R_lit_step Kd.string _ 9 ?hg (N := 38) ?hd (xs := ([a1] : List ByteArray)) (inner := [.string a1]) (ok := fun _ => True) (okp := fun _ => True) ?hr ?hp (fun _ hk => hk) trivial (Below.refl _ _) (Nat.le_refl _) (by simp) ?_; (case hd => rfl); (case hg => rfl); (case hr => exact ax23); (case hp => exact ax35)
          intro v142 w36 ho37 hb hg_ hnew_
          clear hg_ hnew_
          (first | rw [← Ny141.out] at ho37 | (simp only [Int.reduceToNat] at ho37; rw [← Ny141.out] at ho37))
          have n0_ := Aside0.mk (Kd.V_elder' ax30 (Kd.R_base ho37) hb); have n1_ := Aside0.mk (Kd.V_elder' ax46 (Kd.R_base ho37) hb); have n2_ := Aside0.mk (Kd.V_elder' ax47 (Kd.R_base ho37) hb); have n3_ := Aside0.mk (Kd.R_elder' ax48 (Kd.R_base ho37) hb)
          have n4_ := Aside0.mk (Kd.R_lower (Kd.R_new' (Kd.R_newM (M := fun k_ => (w.heap.size ≤ k_)) ho37 (below_size ax25) (fun k_ h_ => h_)) (Kd.R_lt ax48)) (below_size ax25))
          have n5_ := Aside0.mk (below_step ax25 hb); clear HO_0; clear HO137; clear HO151; clear HO140; clear HB; have HO_0 := n0_; have HO137 := n1_; have HO151 := n2_; have HO140 := n3_; have HO143 := n4_; have HB := n5_; clear n0_ n1_ n2_ n3_ n4_ n5_; clear hb ho37
          refine hK.out _ _ trivial (fun hHeld => ?_)
          clear hK K
          refine norm_ (a' := ?_) ?_ ?_
          rotate_left
          ·exact ax8
          exact norm_ ax37 (hCont (v139, v142) _ ⟨(by (with_reducible repeat (first | apply Kd.V_alloc | apply Kd.V_drewN | apply Kd.V_drew)); exact Kd.V_mono HO137.out (fun _ hk => ⟨hk.1.1, ⟨hk.1.2, hk.2⟩⟩)), ax49, ax50, (by (with_reducible repeat (first | apply Kd.V_alloc | apply Kd.V_drewN | apply Kd.V_drew)); exact Kd.V_mono HO151.out (fun _ hk => ⟨hk.1.1, ⟨hk.1.2, hk.2⟩⟩)), ax40, ax25⟩)
         ·skip
          refine Kd.R_lit_step Kd.string _ 9 ?hg (N := 38) ?hd (xs := ([a1] : List ByteArray)) (inner := [.string a1]) (ok := fun _ => True) (okp := fun _ => True) ?hr ?hp (fun _ hk => hk) trivial (Below.refl _ _) (Nat.le_refl _) (by simp) ?_; (case hd => rfl); (case hg => rfl); (case hr => exact ax23); (case hp => exact ax35)
          intro v142 w35 ho36 hb hg_ hnew_
          clear hg_ hnew_
          (first | rw [← Ny141.out] at ho36 | (simp only [Int.reduceToNat] at ho36; rw [← Ny141.out] at ho36))
          have n0_ := Aside0.mk (Kd.V_elder' ax30 (Kd.R_base ho36) hb); have n1_ := Aside0.mk (Kd.V_elder' ax46 (Kd.R_base ho36) hb); have n2_ := Aside0.mk (Kd.V_elder' ax47 (Kd.R_base ho36) hb)
          have n3_ := Aside0.mk (Kd.R_lower (Kd.R_newM (M := fun k_ => (w.heap.size ≤ k_)) ho36 (below_size ax25) (fun k_ h_ => h_)) (below_size ax25))
          have n4_ := Aside0.mk (below_step ax25 hb); clear HO_0; clear HO137; clear HO151; clear HB; have HO_0 := n0_; have HO137 := n1_; have HO151 := n2_; have HO143 := n3_; have HB := n4_; clear n0_ n1_ n2_ n3_ n4_; clear hb ho36
          refine hK.out _ _ trivial (fun hHeld => ?_)
          clear hK K
          refine norm_ (a' := ?_) ?_ ?_
          rotate_left
          ·exact ax8
          refine one_ (i := 3) (N := some 36) (ob 12 959) rfl rfl (one_of HT_.out (by kernel_rfl)) (by decide) (fun K hK => ?_)
          refine goes_ Tryz.func79 (by kernel_rfl) rfl #[.slice A0 y133.length c0] (by rfl) rfl rfl ax31 ?_
          with_reducible refine (spec_l2Own.calls _ _ y133 t138 _ ?side1 ?side2 A27.out).mono ?_
          (case side1 => exact ax45)
          (case side2 => exact (Kd.V_reads' HO137.out).2.1)
          rintro e w37 ⟨v139, rfl, ho0, hb⟩
          refine ⟨_, rfl, ?_⟩
          have n0_ := Aside0.mk (Kd.V_elder' ax30 (Kd.R_base ho0) hb); have n1_ := Aside0.mk (Kd.V_elder' ax46 (Kd.R_base ho0) hb); have n2_ := Aside0.mk (Kd.V_elder' ax47 (Kd.R_base ho0) hb); have n3_ := Aside0.mk (Kd.R_elder' ax51 (Kd.R_base ho0) hb)
          have n4_ := Aside0.mk (Kd.R_lower (Kd.R_new' (Kd.R_newM (M := fun k_ => (w.heap.size ≤ k_)) ho0 (below_size ax25) (fun k_ h_ => h_)) (Kd.R_lt ax51)) (below_size ax25))
          have n5_ := Aside0.mk (below_step ax25 hb); clear HO_0; clear HO137; clear HO151; clear HO143; clear HB; have HO_0 := n0_; have HO137 := n1_; have HO151 := n2_; have HO143 := n3_; have HO140 := n4_; have HB := n5_; clear n0_ n1_ n2_ n3_ n4_ n5_; (try clear hb); (try clear hb2); (try clear hk); (try clear hi); (try clear ho0)
          refine hK.out _ _ trivial (fun hHeld => ?_)
          clear hK K
          refine norm_ (a' := ?_) ?_ ?_
          rotate_left
          ·exact ax7
          exact norm_ ax37 (hCont (v139, v142) _ ⟨(by (with_reducible repeat (first | apply Kd.V_alloc | apply Kd.V_drewN | apply Kd.V_drew)); exact Kd.V_mono HO137.out (fun _ hk => ⟨hk.1.1, ⟨hk.2, hk.1.2⟩⟩)), ax49, ax50, (by (with_reducible repeat (first | apply Kd.V_alloc | apply Kd.V_drewN | apply Kd.V_drew)); exact Kd.V_mono HO151.out (fun _ hk => ⟨hk.1.1, ⟨hk.2, hk.1.2⟩⟩)), ax42, ax25⟩)
        rintro ⟨v139, v142⟩ w38 ⟨h0_, h1_, h2_, h3_, h4_, h5_⟩
        have n0_ : Aside0 (Kd.V Kd.string 9 w38 w.heap.size (fun k_ => (P0_ k_ ∨ w.heap.size ≤ k_) ∧ some k_ ≠ (v139 : Value).ownBlock ∧ some k_ ≠ (v142 : Value).ownBlock) (.slice A0 y133.length c0) y133) := ⟨h0_⟩
        have n1_ : Aside0 (Kd.R Kd.string 9 w38 w.heap.size (fun k_ => (w.heap.size ≤ k_) ∧ some k_ ≠ (v142 : Value).ownBlock) v139 t138) := ⟨h1_⟩
        have n2_ : Aside0 (Kd.R Kd.string 9 w38 w.heap.size (fun k_ => (w.heap.size ≤ k_) ∧ some k_ ≠ (v139 : Value).ownBlock) v142 y141) := ⟨h2_⟩
        have n3_ : Aside0 (Kd.V Kd.string 9 w38 w.heap.size (fun k_ => (P0_ k_ ∨ w.heap.size ≤ k_) ∧ some k_ ≠ (v139 : Value).ownBlock ∧ some k_ ≠ (v142 : Value).ownBlock) (.slice A34 y147.length c34) y147) := ⟨h3_⟩
        have n4_ : Aside0 (Kd.V Kd.string 9 w38 w.heap.size (fun k_ => (P0_ k_ ∨ w.heap.size ≤ k_) ∧ some k_ ≠ (v139 : Value).ownBlock ∧ some k_ ≠ (v142 : Value).ownBlock) (.slice A0 l0.length c0) l0) := ⟨h4_⟩
        have n5_ : Aside0 (Below w.heap.size w w38) := ⟨h5_⟩
        clear HO_0; clear HB; clear h0_ h1_ h2_ h3_ h4_ h5_; have HO137 := n0_; have HO140 := n1_; have HO143 := n2_; have HO151 := n3_; have HO_0 := n4_; have HB := n5_; clear n0_ n1_ n2_ n3_ n4_ n5_; have hHeld := trivial
        obtain ⟨Ao40, co40, eo40⟩ := Kd.R_slice HO143.out
        (first | subst eo40 | (injection eo40 with f1_ f2_ f3_; have f4_ := f1_.symm; have f5_ := f3_.symm; clear f1_ f2_ f3_; subst f4_; subst f5_))
        refine norm_ (a' := ?_) ?_ ?_
        rotate_left
        ·exact ax9
        refine one_ (i := 6) (N := some 39) (ob 12 1023) rfl rfl (one_of HT_.out (by kernel_rfl)) (by decide) (fun K hK => ?_)
        refine Kd.R_append_rows_step Kd.string (w0 := w) w.heap.size (by rfl) (.tmp 36) (.tmp 38) 22 9 (.string ⟨#[]⟩) 16 rfl Tryz.underlying22 info9 rfl (by decide) (by omega) v139 t138 y141 _ _ _ (fun k_ => (w.heap.size ≤ k_) ∧ some k_ ≠ (.slice Ao40 y141.length co40 : Value).ownBlock) (fun _ => False) rfl rfl ?aO ?aR (fun _ _ h => h) (fun _ h => h.elim) ?aF ?aB ?aS ?aL ?_
        (case aR => repeat (first | exact (Kd.R_reads' HO143.out).2.2 | (with_reducible refine Kd.C_alloc ?_ _) | (with_reducible refine Kd.C_drewN ?_ _) | (with_reducible refine Kd.C_drew ?_)))
        (case aB => exact ax27)
        (case aF => exact ax52)
        (case aO => exact ax48)
        (case aS => exact ax29)
        (case aL => have := LMc28.out; omega)
        intro v145 w39 ho hb hg hat
        rw [← Ny144.out] at ho
        have n0_ := Aside0.mk (Kd.V_afterv (ok := (fun k_ => (P0_ k_ ∨ w.heap.size ≤ k_) ∧ some k_ ≠ (.slice Ao40 y141.length co40 : Value).ownBlock)) ax44 hg hat)
        have n1_ := Aside0.mk (Kd.V_afterv (ok := (fun k_ => (P0_ k_ ∨ w.heap.size ≤ k_) ∧ some k_ ≠ (.slice Ao40 y141.length co40 : Value).ownBlock)) (by (with_reducible repeat (first | apply Kd.V_alloc | apply Kd.V_drewN | apply Kd.V_drew)); exact Kd.V_mono HO137.out (fun _ hk => ⟨⟨hk.1, hk.2.2⟩, hk.2.1⟩)) hg hat)
        have n2_ := Aside0.mk (Kd.V_afterv (ok := (fun k_ => (P0_ k_ ∨ w.heap.size ≤ k_) ∧ some k_ ≠ (.slice Ao40 y141.length co40 : Value).ownBlock)) (by (with_reducible repeat (first | apply Kd.V_alloc | apply Kd.V_drewN | apply Kd.V_drew)); exact Kd.V_mono HO151.out (fun _ hk => ⟨⟨hk.1, hk.2.2⟩, hk.2.1⟩)) hg hat)
        have n3_ := Aside0.mk (Kd.R_after (ok := (fun k_ => (w.heap.size ≤ k_))) ax51 hg hat)
        have n4_ := Aside0.mk (hb); have n5_ := Aside0.mk (ho); clear HO_0; clear HO137; clear HO151; clear HO143; clear HB; clear HO140; have HO_0 := n0_; have HO137 := n1_; have HO151 := n2_; have HO143 := n3_; have HB := n4_; have HO146 := n5_; clear n0_ n1_ n2_ n3_ n4_ n5_; clear ho hb hg hat
        refine hK.out _ _ trivial (fun hHeld => ?_)
        clear hK K
        refine norm_ (a' := ?_) ?_ ?_
        rotate_left
        ·show Act.put _ (some 39) _ = _
         simp only [Act.put, List.setIfInBounds_toArray, List.set_cons_zero, List.set_cons_succ, i64_w, i32_w]
         rfl
        refine one_ (i := 10) (N := some 43) (ob 12 2047) rfl rfl (one_of HT_.out (by kernel_rfl)) (by decide) (fun K hK => ?_)
        refine Kd.R_append_rows_step Kd.string (w0 := w) w.heap.size (by rfl) (.tmp 39) (.tmp 42) 22 9 (.string ⟨#[]⟩) 16 rfl Tryz.underlying22 info9 rfl (by decide) (by omega) v145 y144 y147 _ _ _ (fun k_ => (w.heap.size ≤ k_) ∧ some k_ ≠ (.slice Ao40 y141.length co40 : Value).ownBlock) (fun _ => False) rfl rfl ?aO ?aR (fun _ _ h => h) (fun _ h => h.elim) ?aF ?aB ?aS ?aL ?_
        (case aR => repeat (first | exact (Kd.V_reads' HO151.out).2.2 | (with_reducible refine Kd.C_alloc ?_ _) | (with_reducible refine Kd.C_drewN ?_ _) | (with_reducible refine Kd.C_drew ?_)))
        (case aB => exact ax27)
        (case aF => exact ax52)
        (case aO => exact (by (with_reducible repeat (first | apply Kd.R_alloc | apply Kd.R_drewN | apply Kd.R_drew)); exact HO146.out))
        (case aS => exact ax29)
        (case aL => have := LMc31.out; omega)
        intro v153 w41 ho hb hg hat
        rw [← Ny152.out] at ho
        have n0_ := Aside0.mk (Kd.V_afterv (ok := (fun k_ => (P0_ k_ ∨ w.heap.size ≤ k_) ∧ some k_ ≠ (.slice Ao40 y141.length co40 : Value).ownBlock)) ax30 hg hat)
        have n1_ := Aside0.mk (Kd.V_afterv (ok := (fun k_ => (P0_ k_ ∨ w.heap.size ≤ k_) ∧ some k_ ≠ (.slice Ao40 y141.length co40 : Value).ownBlock)) ax46 hg hat)
        have n2_ := Aside0.mk (Kd.V_afterv (ok := (fun k_ => (P0_ k_ ∨ w.heap.size ≤ k_) ∧ some k_ ≠ (.slice Ao40 y141.length co40 : Value).ownBlock)) ax47 hg hat)
        have n3_ := Aside0.mk (Kd.R_after (ok := (fun k_ => (w.heap.size ≤ k_))) ax51 hg hat)
        have n4_ := Aside0.mk (hb); have n5_ := Aside0.mk (ho); clear HO_0; clear HO137; clear HO151; clear HO143; clear HB; clear HO146; have HO_0 := n0_; have HO137 := n1_; have HO151 := n2_; have HO143 := n3_; have HB := n4_; have HO154 := n5_; clear n0_ n1_ n2_ n3_ n4_ n5_; clear ho hb hg hat
        refine hK.out _ _ trivial (fun hHeld => ?_)
        clear hK K
        refine norm_ (a' := ?_) ?_ ?_
        rotate_left
        ·exact ax10
        refine pure_ (i := 11) (N := some 4) (v := ?_) (a' := ?_) (ob 12 4095) rfl rfl (any_of HT_.out (by kernel_rfl)) (fun _ _ _ h => h) (Or.inl ⟨by rfl, ?_⟩) ?_ ?_; rotate_left; exact ax5; rotate_left; exact ax6
        refine done_ (done_of HT_.out (by kernel_rfl)) ?_
        try go_wp2
        go_ret
        exact ⟨_, by first | rfl | (simp [errW_none, errW_some] <;> rfl) | (simp [*, errW_none, errW_some] <;> rfl), Kd.V_mono (Kd.R_V (by (with_reducible repeat (first | apply Kd.R_alloc | apply Kd.R_drewN | apply Kd.R_drew)); exact Kd.R_mono HO154.out (fun _ hk => hk.1))) (fun k_ hk => by first | exact ⟨(.inr (hk.1)), hk.2⟩ | exact (.inr (hk))), by repeat (first | (with_reducible first | exact HB.out | apply below_alloc | apply pw_below_drewN | apply below_drew1) | exact HB.out)⟩
       ·rw [if_neg c31] at H
        exact absurd H (by simp)
      ·rw [if_neg c28] at H
       exact absurd H (by simp)
     ·rw [if_neg c26] at H
      exact absurd H (by simp)
    ·rw [if_neg c25] at H
     exact absurd H (by simp)

end Go.Proofs.YtmecniejpoopfaaGreatDoor.X

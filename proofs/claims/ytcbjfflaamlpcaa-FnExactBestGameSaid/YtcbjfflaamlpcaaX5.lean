-- By gen.py (the session's own program over the kit's printer): functions of the program, each with its contract. Lean checks it.
import Derived.Test.YtcbjfflaamlpcaaX0
import Derived.Test.YtcbjfflaamlpcaaX3
import Derived.Test.YtcbjfflaamlpcaaX4
namespace Go.Proofs.Ytcbjfflaamlpcaa.X
open Go.RowKit Go.Proofs.YtcbjfflaamlpcaaW.PrintWords Go.Proofs.YtcbjfflaamlpcaaW.PrintLast Go.Proofs.YtcbjfflaamlpcaaW.PrintMore
attribute [local go_sem] max2_int min2_int max_two min_two max_three min_three max_four min_four   -- for this text's walks alone
set_option linter.unusedVariables false
set_option linter.unusedSimpArgs false

/-! ### spec_l2Put: function 82 -/
def spec_l2Put.l0 : Nat → List ByteArray → ByteArray → Int → Option (List ByteArray)
 | 0, _, _, _ => none
 | k + 1, x0, x1, x5 => if x5 < (x0.length : Int) then (if 0 ≤ x5 then ((spec_l2Before.f k (rdOf ByteArray.empty x0 x5) x1).bind fun t151 => (if t151 = true then (spec_l2Put.l0 k x0 x1 (wrap64 (x5 + 1))) else (if (rdOf ByteArray.empty x0 x5).toList = x1.toList then (some x0) else (if x5 ≤ (x0.length : Int) then ((spec_l2Own.f (x0.take (x5 : Int).toNat)).bind fun t158 => ((some (([x1] : List ByteArray) : List ByteArray)).bind fun y161 => (if t158.length + y161.length < 8796093022208 then ((some (t158 ++ y161 : List ByteArray)).bind fun y164 => ((some (x0.drop (x5 : Int).toNat : List ByteArray)).bind fun y167 => (if y164.length + y167.length < 8796093022208 then (some (y164 ++ y167)) else (none)))) else (none)))) else (none))))) else (none)) else (if 0 ≤ x5 then (if x5 ≤ (x0.length : Int) then ((spec_l2Own.f (x0.take (x5 : Int).toNat)).bind fun t180 => ((some (([x1] : List ByteArray) : List ByteArray)).bind fun y183 => (if t180.length + y183.length < 8796093022208 then ((some (t180 ++ y183 : List ByteArray)).bind fun y186 => ((some (x0.drop (x5 : Int).toNat : List ByteArray)).bind fun y189 => (if y186.length + y189.length < 8796093022208 then (some (y186 ++ y189)) else (none)))) else (none)))) else (none)) else (none))
def spec_l2Put.f (k : Nat) (l0 : List ByteArray) (a1 : ByteArray) : Option (List ByteArray) := spec_l2Put.l0 k l0 a1 0
theorem spec_l2Put.mono_l : ∀ k, (∀ y0 y1 y2, LeO (spec_l2Put.l0 k y0 y1 y2) (spec_l2Put.l0 (k + 1) y0 y1 y2))
 | 0 => fun _ _ _ r h => by simp [spec_l2Put.l0] at h
 | k + 1 => by
  have ih0 := spec_l2Put.mono_l k
  ·intro y0 y1 y2
   unfold spec_l2Put.l0
   repeat' first
   | (with_reducible exact ih0 _ _ _)
   | (with_reducible exact spec_l2Before.mono _ _ _)
   | (with_reducible exact LeO.refl _)
   | (with_reducible exact LeO.none _)
   | (with_reducible refine LeO.ite ?_ ?_)
   | (with_reducible refine LeO.bind ?_ (fun _ => ?_))
   | exact ih0 _ _ _
   | exact spec_l2Before.mono _ _ _
   | exact LeO.none _
   | refine LeO.ite ?_ ?_
   | refine LeO.bind ?_ (fun _ => ?_)
theorem spec_l2Put.mono : ∀ a0 a1 k, LeO (spec_l2Put.f k a0 a1) (spec_l2Put.f (k + 1) a0 a1) := by
 intro a0 a1 k
 have ih0 := spec_l2Put.mono_l k
 unfold spec_l2Put.f
 repeat' first
   | (with_reducible exact ih0 _ _ _)
   | (with_reducible exact spec_l2Before.mono _ _ _)
   | (with_reducible exact LeO.refl _)
   | (with_reducible exact LeO.none _)
   | (with_reducible refine LeO.ite ?_ ?_)
   | (with_reducible refine LeO.bind ?_ (fun _ => ?_))
   | exact ih0 _ _ _
   | exact spec_l2Before.mono _ _ _
   | exact LeO.none _
   | refine LeO.ite ?_ ?_
   | refine LeO.bind ?_ (fun _ => ?_)
def spec_l2Put.T6 : Bool × List (List Nat × List Nat) := (true, [([], []), ([], []), ([0, 1], [0, 1]), ([2], [2]), ([], []), ([4], [4]), ([3, 5, 3], [3, 5]), ([], []), ([], []), ([7, 8], [7, 8]), ([6, 9, 6], [6, 9]), ([10, 10, 0, 1, 2, 3, 4, 5, 6, 7, 8, 9, 10], [10])])
def spec_l2Put.B6 : List Nat := [0, 0, 3, 7, 0, 16, 63, 0, 0, 384, 1023, 2047]
theorem spec_l2Put.tab6 : rtab .any (opsOf Try.f82 6) = spec_l2Put.T6 := by kernel_rfl
theorem spec_l2Put.bits6 : waitsOk spec_l2Put.T6.2 spec_l2Put.B6 = true := by kernel_rfl
set_option maxHeartbeats 8000000 in
set_option maxRecDepth 100000 in
theorem spec_l2Put.calls (k : Nat) (P0_ : Nat → Prop) (A0 : Option Addr) (c0 : Nat) (l0 : List ByteArray) (a1 : ByteArray) (r : List ByteArray) (w : World) (hs0 : Kd.V Kd.string 9 w w.heap.size (fun k_ => P0_ k_) (.slice A0 l0.length c0) l0) (h : spec_l2Put.f k l0 a1 = some r) :
  Calls Try.prog 82 #[.slice A0 l0.length c0, .string a1] w fun e w' => ∃ v0_ : Value, e = .returned (v0_) ∧ Kd.V Kd.string 9 w' w.heap.size (fun k_ => (P0_ k_ ∨ w.heap.size ≤ k_)) v0_ r ∧ Below w.heap.size w w' := by
 have HO0 := Aside0.mk (show Kd.V Kd.string 9 w w.heap.size (fun k_ => (P0_ k_ ∨ w.heap.size ≤ k_)) (.slice A0 l0.length c0) l0 from Kd.V_mono hs0 (fun k_ hk => .inl hk))
 have HB := Aside0.mk (Below.refl w.heap.size w)
 have H : (spec_l2Put.l0 k l0 a1 0) = some r := h
 clear h
 have H' := Aside0.mk H
 clear H
 go_enter Try.func82, Try.ntmps82
 go_wp2
 go_loopg [5] k (fun kq v5 w' => ∃ (x5_1 : Int), v5 = .int .i64 x5_1 ∧ Aside0 (spec_l2Put.l0 kq l0 a1 x5_1 = some r) ∧ Aside0 (kq ≤ k) ∧ Aside0 (Kd.V Kd.string 9 w' w.heap.size (fun k_ => (P0_ k_ ∨ w.heap.size ≤ k_)) (.slice A0 l0.length c0) l0) ∧ Aside0 (Below w.heap.size w w'))
 case atStart => exact ⟨(0), ax37, H', ⟨Nat.le_refl _⟩, ⟨by (with_reducible repeat (first | apply Kd.V_alloc | apply Kd.V_drewN | apply Kd.V_drew)); exact HO0.out⟩, ⟨by repeat (first | (with_reducible first | exact HB.out | apply below_alloc | apply pw_below_drewN | apply below_drew1) | exact HB.out)⟩⟩
 case round =>
  clear H'
  try clear p2
  obtain ⟨x5_1, rfl, HA, HK1, HO_0, HB⟩ := hrel
  cases gk with
  | zero => exact absurd HA.out (by simp [spec_l2Put.l0])
  | succ k1 =>
   have H := HA.out; clear HA
   simp only [spec_l2Put.l0] at H
   by_cases c3 : x5_1 < (l0.length : Int)
   ·rw [if_pos c3] at H
    have c3b0 : decide (x5_1 < (l0.length : Int)) = true := decide_eq_true c3
    clear c3
    by_cases c4 : 0 ≤ x5_1
    ·rw [if_pos c4] at H
     have c4b0 : decide (0 ≤ x5_1) = true := decide_eq_true c4
     clear c4; replace H := Option.bind_eq_some_iff.mp H
     obtain ⟨t151, A50, H⟩ := H
     replace H : (if t151 = true then (spec_l2Put.l0 k1 l0 a1 (wrap64 (x5_1 + 1))) else (if (rdOf ByteArray.empty l0 x5_1).toList = a1.toList then (some l0) else (if x5_1 ≤ (l0.length : Int) then ((spec_l2Own.f (l0.take (x5_1 : Int).toNat)).bind fun t158 => ((some (([a1] : List ByteArray) : List ByteArray)).bind fun y161 => (if t158.length + y161.length < 8796093022208 then ((some (t158 ++ y161 : List ByteArray)).bind fun y164 => ((some (l0.drop (x5_1 : Int).toNat : List ByteArray)).bind fun y167 => (if y164.length + y167.length < 8796093022208 then (some (y164 ++ y167)) else (none)))) else (none)))) else (none)))) = some r := H
     have A5 := Aside0.mk A50; clear A50
     by_cases c6 : t151 = true
     ·subst c6
      have H1 : (spec_l2Put.l0 k1 l0 a1 (wrap64 (x5_1 + 1))) = some r := by rw [if_pos rfl] at H; exact H
      clear H; have H := H1; clear H1
      have H' := Aside0.mk H
      clear H
      have p150 : 0 ≤ (x5_1 : Int) := of_decide_eq_true ax36
      have q150 : x5_1 < (l0.length : Int) := of_decide_eq_true ax36
      obtain ⟨ad150, e150, hx150_0⟩ := Kd.at_string (Kd.V_reads' HO_0.out).2.2 x5_1 p150 q150
      cases e150; replace p150 := eq_true p150; replace q150 := eq_true q150
      go_wp2_with (first | (go_at_call 96; (with_reducible refine (spec_l2Before.calls k1 (rdOf ByteArray.empty l0 x5_1) a1 true _ A5.out).mono ?_); rintro e w' ⟨rfl, ⟨nd, rfl⟩⟩))
      go_roundg k1
      case measure => have := HK1.out; omega
      case rel => exact ⟨(wrap64 (x5_1 + 1)), ax37, H', ⟨by have := HK1.out; omega⟩, ⟨by (with_reducible repeat (first | apply Kd.V_alloc | apply Kd.V_drewN | apply Kd.V_drew)); exact HO_0.out⟩, ⟨by repeat (first | (with_reducible first | exact HB.out | apply below_alloc | apply pw_below_drewN | apply below_drew1) | exact HB.out)⟩⟩
     ·replace c6 := Bool.eq_false_iff.mpr c6
      subst c6
      have H1 : (if (rdOf ByteArray.empty l0 x5_1).toList = a1.toList then (some l0) else (if x5_1 ≤ (l0.length : Int) then ((spec_l2Own.f (l0.take (x5_1 : Int).toNat)).bind fun t158 => ((some (([a1] : List ByteArray) : List ByteArray)).bind fun y161 => (if t158.length + y161.length < 8796093022208 then ((some (t158 ++ y161 : List ByteArray)).bind fun y164 => ((some (l0.drop (x5_1 : Int).toNat : List ByteArray)).bind fun y167 => (if y164.length + y167.length < 8796093022208 then (some (y164 ++ y167)) else (none)))) else (none)))) else (none))) = some r := by rw [if_neg (show ¬ (false = true) by decide)] at H; exact H
      clear H; have H := H1; clear H1
      by_cases c7 : (rdOf ByteArray.empty l0 x5_1).toList = a1.toList
      ·rw [if_pos c7] at H
       have c7b0 : ((rdOf ByteArray.empty l0 x5_1).toList == a1.toList) = true := beq_iff_eq.mpr c7
       have c7b1 : ((rdOf ByteArray.empty l0 x5_1).toList != a1.toList) = false := bne_eq_false_iff_eq.mpr c7
       clear c7
       obtain rfl := Option.some.inj H
       have p150 : 0 ≤ (x5_1 : Int) := of_decide_eq_true ax36
       have q150 : x5_1 < (l0.length : Int) := of_decide_eq_true ax36
       obtain ⟨ad150, e150, hx150_0⟩ := Kd.at_string (Kd.V_reads' HO_0.out).2.2 x5_1 p150 q150
       cases e150; replace p150 := eq_true p150; replace q150 := eq_true q150
       go_wp2_with (first | (go_at_call 96; (with_reducible refine (spec_l2Before.calls k1 (rdOf ByteArray.empty l0 x5_1) a1 false _ A5.out).mono ?_); rintro e w' ⟨rfl, ⟨nd, rfl⟩⟩; have p152 : 0 ≤ (x5_1 : Int) := of_decide_eq_true ax36; have q152 : x5_1 < (l0.length : Int) := of_decide_eq_true ax36; obtain ⟨ad152, e152, hx152_0⟩ := Kd.at_string (Kd.V_reads' HO_0.out).2.2 x5_1 p152 q152; obtain rfl : ad150 = ad152 := (by injection e152); replace p152 := eq_true p152; replace q152 := eq_true q152))
       go_ret
       exact ⟨_, by first | rfl | (simp [errW_none, errW_some] <;> rfl) | (simp [*, errW_none, errW_some] <;> rfl), by (with_reducible repeat (first | apply Kd.V_alloc | apply Kd.V_drewN | apply Kd.V_drew)); exact HO_0.out, by repeat (first | (with_reducible first | exact HB.out | apply below_alloc | apply pw_below_drewN | apply below_drew1) | exact HB.out)⟩
      ·rw [if_neg c7] at H
       have c7b0 : ((rdOf ByteArray.empty l0 x5_1).toList == a1.toList) = false := beq_eq_false_iff_ne.mpr c7
       have c7b1 : ((rdOf ByteArray.empty l0 x5_1).toList != a1.toList) = true := bne_iff_ne.mpr c7
       have c8b0 := eq_true (of_decide_eq_true ax36 : 0 ≤ x5_1)
       by_cases c9 : x5_1 ≤ (l0.length : Int)
       ·rw [if_pos c9] at H
        have c9b0 := eq_true c9
        have c9b1 : decide (x5_1 ≤ (l0.length : Int)) = true := decide_eq_true c9
        clear c9
        obtain ⟨y153, hy153⟩ : ∃ y_ : List ByteArray, y_ = (l0.take (x5_1 : Int).toNat) := ⟨_, rfl⟩
        replace H : ((spec_l2Own.f y153).bind fun t158 => ((some (([a1] : List ByteArray) : List ByteArray)).bind fun y161 => (if t158.length + y161.length < 8796093022208 then ((some (t158 ++ y161 : List ByteArray)).bind fun y164 => ((some (l0.drop (x5_1 : Int).toNat : List ByteArray)).bind fun y167 => (if y164.length + y167.length < 8796093022208 then (some (y164 ++ y167)) else (none)))) else (none)))) = some r := by first | (rw [hy153]; with_reducible exact H) | (have H2_ := (Option.bind_some _ _).symm.trans H; rw [hy153]; with_reducible exact H2_) | (have H2_ := (Option.bind_some _ _).symm.trans H; with_reducible exact H2_) | with_reducible exact H | (rw [hy153]; exact H) | exact H
        have Ny153 := Aside0.mk hy153; clear hy153; replace H := Option.bind_eq_some_iff.mp H
        obtain ⟨t158, A100, H⟩ := H
        replace H : ((some (([a1] : List ByteArray) : List ByteArray)).bind fun y161 => (if t158.length + y161.length < 8796093022208 then ((some (t158 ++ y161 : List ByteArray)).bind fun y164 => ((some (l0.drop (x5_1 : Int).toNat : List ByteArray)).bind fun y167 => (if y164.length + y167.length < 8796093022208 then (some (y164 ++ y167)) else (none)))) else (none))) = some r := H
        have A10 := Aside0.mk A100; clear A100
        obtain ⟨y161, hy161⟩ : ∃ y_ : List ByteArray, y_ = (([a1] : List ByteArray)) := ⟨_, rfl⟩
        replace H : (if t158.length + y161.length < 8796093022208 then ((some (t158 ++ y161 : List ByteArray)).bind fun y164 => ((some (l0.drop (x5_1 : Int).toNat : List ByteArray)).bind fun y167 => (if y164.length + y167.length < 8796093022208 then (some (y164 ++ y167)) else (none)))) else (none)) = some r := by first | (rw [hy161]; with_reducible exact H) | (have H2_ := (Option.bind_some _ _).symm.trans H; rw [hy161]; with_reducible exact H2_) | (have H2_ := (Option.bind_some _ _).symm.trans H; with_reducible exact H2_) | with_reducible exact H | (rw [hy161]; exact H) | exact H
        have Ny161 := Aside0.mk hy161; clear hy161
        by_cases c11 : t158.length + y161.length < 8796093022208
        ·rw [if_pos c11] at H
         have LMc11 := Aside0.mk c11; clear c11
         obtain ⟨y164, hy164⟩ : ∃ y_ : List ByteArray, y_ = (t158 ++ y161) := ⟨_, rfl⟩
         replace H : ((some (l0.drop (x5_1 : Int).toNat : List ByteArray)).bind fun y167 => (if y164.length + y167.length < 8796093022208 then (some (y164 ++ y167)) else (none))) = some r := by first | (rw [hy164]; with_reducible exact H) | (have H2_ := (Option.bind_some _ _).symm.trans H; rw [hy164]; with_reducible exact H2_) | (have H2_ := (Option.bind_some _ _).symm.trans H; with_reducible exact H2_) | with_reducible exact H | (rw [hy164]; exact H) | exact H
         have Ny164 := Aside0.mk hy164; clear hy164; have c12b0 := eq_true (of_decide_eq_true ax36 : 0 ≤ x5_1); have c13b0 := eq_true (of_decide_eq_true ax36 : x5_1 ≤ (l0.length : Int))
         obtain ⟨y167, hy167⟩ : ∃ y_ : List ByteArray, y_ = (l0.drop (x5_1 : Int).toNat) := ⟨_, rfl⟩
         replace H : (if y164.length + y167.length < 8796093022208 then (some (y164 ++ y167)) else (none)) = some r := by first | (rw [hy167]; with_reducible exact H) | (have H2_ := (Option.bind_some _ _).symm.trans H; rw [hy167]; with_reducible exact H2_) | (have H2_ := (Option.bind_some _ _).symm.trans H; with_reducible exact H2_) | with_reducible exact H | (rw [hy167]; exact H) | exact H
         have Ny167 := Aside0.mk hy167; clear hy167
         by_cases c14 : y164.length + y167.length < 8796093022208
         ·rw [if_pos c14] at H
          have LMc14 := Aside0.mk c14; clear c14
          obtain ⟨y172, hy172⟩ : ∃ y_ : List ByteArray, y_ = (y164 ++ y167) := ⟨_, rfl⟩
          replace H : (some y172) = some r := by first | (rw [hy172]; with_reducible exact H) | (have H2_ := (Option.bind_some _ _).symm.trans H; rw [hy172]; with_reducible exact H2_) | (have H2_ := (Option.bind_some _ _).symm.trans H; with_reducible exact H2_) | with_reducible exact H | (rw [hy172]; exact H) | exact H
          have Ny172 := Aside0.mk hy172; clear hy172
          obtain rfl := Option.some.inj H
          have p150 : 0 ≤ (x5_1 : Int) := of_decide_eq_true ax36
          have q150 : x5_1 < (l0.length : Int) := of_decide_eq_true ax36
          obtain ⟨ad150, e150, hx150_0⟩ := Kd.at_string (Kd.V_reads' HO_0.out).2.2 x5_1 p150 q150
          cases e150; replace p150 := eq_true p150; replace q150 := eq_true q150
          try go_wp2_with (first | (go_at_call 96; (with_reducible refine (spec_l2Before.calls k1 (rdOf ByteArray.empty l0 x5_1) a1 false _ A5.out).mono ?_); rintro e w' ⟨rfl, ⟨nd, rfl⟩⟩; have p152 : 0 ≤ (x5_1 : Int) := of_decide_eq_true ax36; have q152 : x5_1 < (l0.length : Int) := of_decide_eq_true ax36; obtain ⟨ad152, e152, hx152_0⟩ := Kd.at_string (Kd.V_reads' HO_0.out).2.2 x5_1 p152 q152; obtain rfl : ad150 = ad152 := (by injection e152); replace p152 := eq_true p152; replace q152 := eq_true q152))
          (try (rw [drewN_self wr]; generalize hq_ : World.drewN wr _ = wr; have n0_ : Aside0 (Kd.V Kd.string 9 wr w.heap.size (fun k_ => (P0_ k_ ∨ w.heap.size ≤ k_)) (.slice (some ad150) l0.length c0) l0) := ⟨by rw [← hq_]; exact ax79⟩; have n1_ : Aside0 (Below w.heap.size w wr) := ⟨by rw [← hq_]; exact ax23⟩; clear HO_0 HB hq_; have HO_0 := n0_; have HB := n1_; clear n0_ n1_))
          have n0_ := Aside0.mk (Kd.V_drew HO_0.out); have n1_ := Aside0.mk (below_drew1 HB.out); clear HO_0; clear HB; have HO_0 := n0_; have HB := n1_; clear n0_ n1_
          have q16 : (x5_1 : Int) ≤ ((l0.length : Int) : Int) := of_decide_eq_true ax36
          obtain ⟨i016, hi016, _, hsz16, _⟩ := info_parts info9
          have hroom16 : l0.length ≤ c0 := (Kd.V_reads' HO_0.out).2.1
          have hC16 : Kd.F Kd.string _ _ (some ad150) l0.length l0 := (Kd.V_at (base := w.heap.size) HO_0.out).2.2
          have hcut16 := cut_to (P := Try.prog) 40 9 .i64 Try.underlying40 hi016 (some ad150) l0.length c0 x5_1 (of_decide_eq_true ax36) q16 hroom16
          have hr16 := Kd.F_take (m := (x5_1 : Int).toNat) hC16 (by omega)
          have hy16 : y153.length = (x5_1 : Int).toNat := (by rw [Ny153.out, List.length_take]; omega)
          rw [← Ny153.out] at hr16
          rw [← hy16] at hcut16
          have HO157 := Aside0.mk (show Kd.V Kd.string 9 _ w.heap.size _ (.slice (some ad150) y153.length c0) y153 from Kd.V_mk (by omega) hr16); have HC157 := Aside0.mk (show y153.length ≤ c0 from by omega); clear hr16 hC16 hroom16 hi016 hsz16; have KY16 := Aside0.mk hy16; clear hy16; replace q16 := eq_true q16
          have q17 : (x5_1 : Int) ≤ ((l0.length : Int) : Int) := of_decide_eq_true ax36
          obtain ⟨i017, hi017, _, hsz17, _⟩ := info_parts info9
          have hroom17 : l0.length ≤ c0 := (Kd.V_reads' HO_0.out).2.1
          have hC17 : Kd.F Kd.string _ _ (some ad150) l0.length l0 := (Kd.V_at (base := w.heap.size) HO_0.out).2.2
          have q017 : (0 : Int) ≤ (x5_1 : Int) := of_decide_eq_true ax36
          have hcut17 := cut_from (P := Try.prog) 40 9 .i64 Try.underlying40 hi017 1 hsz17 (some ad150) l0.length c0 x5_1 q017 q17
          have hr17 := Kd.F_cut (m := (x5_1 : Int).toNat) (c := c0) hC17 (by omega) hroom17
          obtain ⟨A17, hA17⟩ : ∃ A1, A1 = (if c0 = (x5_1 : Int).toNat then (some ad150) else ((some ad150) : Option Addr).map (·.add ((x5_1 : Int).toNat * 1))) := ⟨_, rfl⟩
          obtain ⟨c17, hc17⟩ : ∃ c1, c1 = c0 - (x5_1 : Int).toNat := ⟨_, rfl⟩
          have hy17 : y167.length = l0.length - (x5_1 : Int).toNat := (by rw [Ny167.out, List.length_drop] <;> omega)
          rw [show (l0).drop (x5_1 : Int).toNat = y167 from Ny167.out.symm] at hr17
          replace hr17 : Kd.F Kd.string _ _ A17 y167.length y167 := (by rw [hA17]; exact hr17)
          rw [← hy17, ← hA17, ← hc17] at hcut17
          have HO171 := Aside0.mk (show Kd.V Kd.string 9 _ w.heap.size _ (.slice A17 y167.length c17) y167 from Kd.V_mk (by rw [hy17, hc17]; exact Nat.sub_le_sub_right hroom17 _) hr17)
          have HC171 := Aside0.mk (show y167.length ≤ c17 from by rw [hy17, hc17]; exact Nat.sub_le_sub_right hroom17 _)
          clear hr17 hC17 hroom17 hi017 hsz17 hc17; have KY17 := Aside0.mk hy17; have KA17 := Aside0.mk hA17; clear hy17 hA17; replace q17 := eq_true q17
          refine start_ (n := 12) (S := fun w' => True) (ds := []) (ob 12 0) (by kernel_rfl) rfl rfl trivial (fun hHeld => ?_); refine with_tabW spec_l2Put.tab6 spec_l2Put.bits6 (fun HT_ HW_ => ?_)
          generalize wr.drew = w15 at HO_0 HB HO157 HO171 hHeld ⊢
          refine pure_ (i := 0) (N := some 33) (v := ?_) (a' := ?_) (ob 12 1) rfl rfl (any_of HT_.out (by kernel_rfl)) (fun _ _ _ h => h) (Or.inl ⟨by rfl, ?_⟩) ?_ ?_; rotate_left; exact ax3; rotate_left; exact ax4
          refine pure_ (i := 1) (N := some 34) (v := ?_) (a' := ?_) (ob 12 3) rfl rfl (any_of HT_.out (by kernel_rfl)) (fun _ _ _ h => h) (Or.inl ⟨by rfl, ?_⟩) ?_ ?_; rotate_left; exact ax3; rotate_left; exact ax4
          refine pure_ (i := 2) (N := some 35) (v := ?_) (a' := ?_) (ob 12 7) rfl rfl (any_of HT_.out (by kernel_rfl)) (fun _ _ _ h => h) (Or.inl ⟨by rfl, ?_⟩) ?_ ?_; rotate_left; exact ax3; rotate_left; exact ax4
          refine pure_ (i := 4) (N := some 37) (v := ?_) (a' := ?_) (ob 12 23) rfl rfl (any_of HT_.out (by kernel_rfl)) (fun _ _ _ h => h) (Or.inl ⟨by rfl, ?_⟩) ?_ ?_; rotate_left; exact ax3; rotate_left; exact ax4
          refine pure_ (i := 7) (N := some 40) (v := ?_) (a' := ?_) (ob 12 151) rfl rfl (any_of HT_.out (by kernel_rfl)) (fun _ _ _ h => h) (Or.inl ⟨by rfl, ?_⟩) ?_ ?_; rotate_left; exact ax3; rotate_left; exact ax4
          refine pure_ (i := 8) (N := some 41) (v := ?_) (a' := ?_) (ob 12 407) rfl rfl (any_of HT_.out (by kernel_rfl)) (fun _ _ _ h => h) (Or.inl ⟨by rfl, ?_⟩) ?_ ?_; rotate_left; exact ax3; rotate_left; exact ax4
          refine pure_ (i := 9) (N := some 42) (v := ?_) (a' := ?_) (ob 12 919) rfl rfl (any_of HT_.out (by kernel_rfl)) (fun _ _ _ h => h) (Or.inl ⟨by rfl, ?_⟩) ?_ ?_; rotate_left; exact ax3; rotate_left; exact ax4
          refine join_ (σ := Value × Value) 3 (ob 12 959) (fun s_ => [(36, s_.1), (38, s_.2)]) (fun s_ w' => (Kd.V Kd.string 9 w' w.heap.size (fun k_ => (P0_ k_ ∨ w.heap.size ≤ k_) ∧ some k_ ≠ (s_.1 : Value).ownBlock ∧ some k_ ≠ (s_.2 : Value).ownBlock) (.slice (some ad150) y153.length c0) y153) ∧ (Kd.R Kd.string 9 w' w.heap.size (fun k_ => (w.heap.size ≤ k_) ∧ some k_ ≠ (s_.2 : Value).ownBlock) s_.1 t158) ∧ (Kd.R Kd.string 9 w' w.heap.size (fun k_ => (w.heap.size ≤ k_) ∧ some k_ ≠ (s_.1 : Value).ownBlock) s_.2 y161) ∧ (Kd.V Kd.string 9 w' w.heap.size (fun k_ => (P0_ k_ ∨ w.heap.size ≤ k_) ∧ some k_ ≠ (s_.1 : Value).ownBlock ∧ some k_ ≠ (s_.2 : Value).ownBlock) (.slice A17 y167.length c17) y167) ∧ (Kd.V Kd.string 9 w' w.heap.size (fun k_ => (P0_ k_ ∨ w.heap.size ≤ k_) ∧ some k_ ≠ (s_.1 : Value).ownBlock ∧ some k_ ≠ (s_.2 : Value).ownBlock) (.slice (some ad150) l0.length c0) l0) ∧ (Below w.heap.size w w')) ?_ ?_
          rotate_left
          ·intro hCont
           refine two_ (i := 3) (j := 5) (Ni := some 36) (Nj := some 38) (ob 12 927) (ob 12 951) rfl rfl rfl rfl (two_of HT_.out (by kernel_rfl)) (by decide) (by decide) (fun K hK => ?_) (fun K hK => ?_)
           ·skip
            refine goes_ Try.func70 (by kernel_rfl) rfl #[.slice (some ad150) y153.length c0] (by rfl) rfl rfl ax25 ?_
            with_reducible refine (spec_l2Own.calls _ _ y153 t158 _ ?side1 ?side2 A10.out).mono ?_
            (case side1 => exact ax80)
            (case side2 => exact (Kd.V_reads' HO157.out).2.1)
            rintro e w18 ⟨v159, rfl, ho0, hb⟩
            refine ⟨_, rfl, ?_⟩
            have n0_ := Aside0.mk (Kd.V_elder' ax79 (Kd.R_base ho0) hb); have n1_ := Aside0.mk (Kd.V_elder' ax81 (Kd.R_base ho0) hb); have n2_ := Aside0.mk (Kd.V_elder' ax82 (Kd.R_base ho0) hb)
            have n3_ := Aside0.mk (Kd.R_lower (Kd.R_newM (M := fun k_ => (w.heap.size ≤ k_)) ho0 (below_size ax23) (fun k_ h_ => h_)) (below_size ax23))
            have n4_ := Aside0.mk (below_step ax23 hb); clear HO_0; clear HO157; clear HO171; clear HB; have HO_0 := n0_; have HO157 := n1_; have HO171 := n2_; have HO160 := n3_; have HB := n4_; clear n0_ n1_ n2_ n3_ n4_; (try clear hb); (try clear hb2); (try clear hk); (try clear hi); (try clear ho0)
            refine hK.out _ _ trivial (fun hHeld => ?_)
            clear hK K
            refine norm_ (a' := ?_) ?_ ?_
            rotate_left
            ·exact ax9
            refine one_ (i := 5) (N := some 38) (ob 12 959) rfl rfl (one_of HT_.out (by kernel_rfl)) (by decide) (fun K hK => ?_)
            refine Kd.R_lit_step Kd.string _ 9 ?hg (N := 38) ?hd (xs := ([a1] : List ByteArray)) (inner := [.string a1]) (ok := fun _ => True) (okp := fun _ => True) ?hr ?hp (fun _ hk => hk) trivial (Below.refl _ _) (Nat.le_refl _) (by simp) ?_; (case hd => rfl); (case hg => rfl); (case hr => exact ax22); (case hp => exact ax83)
            intro v162 w19 ho20 hb hg_ hnew_
            clear hg_ hnew_
            (first | rw [← Ny161.out] at ho20 | (simp only [Int.reduceToNat] at ho20; rw [← Ny161.out] at ho20))
            have n0_ := Aside0.mk (Kd.V_elder' ax79 (Kd.R_base ho20) hb); have n1_ := Aside0.mk (Kd.V_elder' ax81 (Kd.R_base ho20) hb); have n2_ := Aside0.mk (Kd.V_elder' ax82 (Kd.R_base ho20) hb); have n3_ := Aside0.mk (Kd.R_elder' ax84 (Kd.R_base ho20) hb)
            have n4_ := Aside0.mk (Kd.R_lower (Kd.R_new' (Kd.R_newM (M := fun k_ => (w.heap.size ≤ k_)) ho20 (below_size ax23) (fun k_ h_ => h_)) (Kd.R_lt ax84)) (below_size ax23))
            have n5_ := Aside0.mk (below_step ax23 hb); clear HO_0; clear HO157; clear HO171; clear HO160; clear HB; have HO_0 := n0_; have HO157 := n1_; have HO171 := n2_; have HO160 := n3_; have HO163 := n4_; have HB := n5_; clear n0_ n1_ n2_ n3_ n4_ n5_; clear hb ho20
            refine hK.out _ _ trivial (fun hHeld => ?_)
            clear hK K
            refine norm_ (a' := ?_) ?_ ?_
            rotate_left
            ·exact ax10
            exact norm_ ax85 (hCont (v159, v162) _ ⟨(by (with_reducible repeat (first | apply Kd.V_alloc | apply Kd.V_drewN | apply Kd.V_drew)); exact Kd.V_mono HO157.out (fun _ hk => ⟨hk.1.1, ⟨hk.1.2, hk.2⟩⟩)), ax86, ax87, (by (with_reducible repeat (first | apply Kd.V_alloc | apply Kd.V_drewN | apply Kd.V_drew)); exact Kd.V_mono HO171.out (fun _ hk => ⟨hk.1.1, ⟨hk.1.2, hk.2⟩⟩)), ax88, ax23⟩)
           ·skip
            refine Kd.R_lit_step Kd.string _ 9 ?hg (N := 38) ?hd (xs := ([a1] : List ByteArray)) (inner := [.string a1]) (ok := fun _ => True) (okp := fun _ => True) ?hr ?hp (fun _ hk => hk) trivial (Below.refl _ _) (Nat.le_refl _) (by simp) ?_; (case hd => rfl); (case hg => rfl); (case hr => exact ax22); (case hp => exact ax83)
            intro v162 w18 ho19 hb hg_ hnew_
            clear hg_ hnew_
            (first | rw [← Ny161.out] at ho19 | (simp only [Int.reduceToNat] at ho19; rw [← Ny161.out] at ho19))
            have n0_ := Aside0.mk (Kd.V_elder' ax79 (Kd.R_base ho19) hb); have n1_ := Aside0.mk (Kd.V_elder' ax81 (Kd.R_base ho19) hb); have n2_ := Aside0.mk (Kd.V_elder' ax82 (Kd.R_base ho19) hb)
            have n3_ := Aside0.mk (Kd.R_lower (Kd.R_newM (M := fun k_ => (w.heap.size ≤ k_)) ho19 (below_size ax23) (fun k_ h_ => h_)) (below_size ax23))
            have n4_ := Aside0.mk (below_step ax23 hb); clear HO_0; clear HO157; clear HO171; clear HB; have HO_0 := n0_; have HO157 := n1_; have HO171 := n2_; have HO163 := n3_; have HB := n4_; clear n0_ n1_ n2_ n3_ n4_; clear hb ho19
            refine hK.out _ _ trivial (fun hHeld => ?_)
            clear hK K
            refine norm_ (a' := ?_) ?_ ?_
            rotate_left
            ·exact ax10
            refine one_ (i := 3) (N := some 36) (ob 12 959) rfl rfl (one_of HT_.out (by kernel_rfl)) (by decide) (fun K hK => ?_)
            refine goes_ Try.func70 (by kernel_rfl) rfl #[.slice (some ad150) y153.length c0] (by rfl) rfl rfl ax25 ?_
            with_reducible refine (spec_l2Own.calls _ _ y153 t158 _ ?side1 ?side2 A10.out).mono ?_
            (case side1 => exact ax80)
            (case side2 => exact (Kd.V_reads' HO157.out).2.1)
            rintro e w20 ⟨v159, rfl, ho0, hb⟩
            refine ⟨_, rfl, ?_⟩
            have n0_ := Aside0.mk (Kd.V_elder' ax79 (Kd.R_base ho0) hb); have n1_ := Aside0.mk (Kd.V_elder' ax81 (Kd.R_base ho0) hb); have n2_ := Aside0.mk (Kd.V_elder' ax82 (Kd.R_base ho0) hb); have n3_ := Aside0.mk (Kd.R_elder' ax89 (Kd.R_base ho0) hb)
            have n4_ := Aside0.mk (Kd.R_lower (Kd.R_new' (Kd.R_newM (M := fun k_ => (w.heap.size ≤ k_)) ho0 (below_size ax23) (fun k_ h_ => h_)) (Kd.R_lt ax89)) (below_size ax23))
            have n5_ := Aside0.mk (below_step ax23 hb); clear HO_0; clear HO157; clear HO171; clear HO163; clear HB; have HO_0 := n0_; have HO157 := n1_; have HO171 := n2_; have HO163 := n3_; have HO160 := n4_; have HB := n5_; clear n0_ n1_ n2_ n3_ n4_ n5_; (try clear hb); (try clear hb2); (try clear hk); (try clear hi); (try clear ho0)
            refine hK.out _ _ trivial (fun hHeld => ?_)
            clear hK K
            refine norm_ (a' := ?_) ?_ ?_
            rotate_left
            ·exact ax9
            exact norm_ ax85 (hCont (v159, v162) _ ⟨(by (with_reducible repeat (first | apply Kd.V_alloc | apply Kd.V_drewN | apply Kd.V_drew)); exact Kd.V_mono HO157.out (fun _ hk => ⟨hk.1.1, ⟨hk.2, hk.1.2⟩⟩)), ax86, ax87, (by (with_reducible repeat (first | apply Kd.V_alloc | apply Kd.V_drewN | apply Kd.V_drew)); exact Kd.V_mono HO171.out (fun _ hk => ⟨hk.1.1, ⟨hk.2, hk.1.2⟩⟩)), ax90, ax23⟩)
          rintro ⟨v159, v162⟩ w21 ⟨h0_, h1_, h2_, h3_, h4_, h5_⟩
          have n0_ : Aside0 (Kd.V Kd.string 9 w21 w.heap.size (fun k_ => (P0_ k_ ∨ w.heap.size ≤ k_) ∧ some k_ ≠ (v159 : Value).ownBlock ∧ some k_ ≠ (v162 : Value).ownBlock) (.slice (some ad150) y153.length c0) y153) := ⟨h0_⟩
          have n1_ : Aside0 (Kd.R Kd.string 9 w21 w.heap.size (fun k_ => (w.heap.size ≤ k_) ∧ some k_ ≠ (v162 : Value).ownBlock) v159 t158) := ⟨h1_⟩
          have n2_ : Aside0 (Kd.R Kd.string 9 w21 w.heap.size (fun k_ => (w.heap.size ≤ k_) ∧ some k_ ≠ (v159 : Value).ownBlock) v162 y161) := ⟨h2_⟩
          have n3_ : Aside0 (Kd.V Kd.string 9 w21 w.heap.size (fun k_ => (P0_ k_ ∨ w.heap.size ≤ k_) ∧ some k_ ≠ (v159 : Value).ownBlock ∧ some k_ ≠ (v162 : Value).ownBlock) (.slice A17 y167.length c17) y167) := ⟨h3_⟩
          have n4_ : Aside0 (Kd.V Kd.string 9 w21 w.heap.size (fun k_ => (P0_ k_ ∨ w.heap.size ≤ k_) ∧ some k_ ≠ (v159 : Value).ownBlock ∧ some k_ ≠ (v162 : Value).ownBlock) (.slice (some ad150) l0.length c0) l0) := ⟨h4_⟩
          have n5_ : Aside0 (Below w.heap.size w w21) := ⟨h5_⟩
          clear HO_0; clear HB; clear h0_ h1_ h2_ h3_ h4_ h5_; have HO157 := n0_; have HO160 := n1_; have HO163 := n2_; have HO171 := n3_; have HO_0 := n4_; have HB := n5_; clear n0_ n1_ n2_ n3_ n4_ n5_; have hHeld := trivial
          obtain ⟨Ao23, co23, eo23⟩ := Kd.R_slice HO163.out
          (first | subst eo23 | (injection eo23 with f1_ f2_ f3_; have f4_ := f1_.symm; have f5_ := f3_.symm; clear f1_ f2_ f3_; subst f4_; subst f5_))
          refine norm_ (a' := ?_) ?_ ?_
          rotate_left
          ·simp only [putAll, Act.put, List.setIfInBounds_toArray, List.set_cons_zero, List.set_cons_succ]
           rfl
          refine one_ (i := 6) (N := some 39) (ob 12 1023) rfl rfl (one_of HT_.out (by kernel_rfl)) (by decide) (fun K hK => ?_)
          refine Kd.R_append_rows_step Kd.string (w0 := w) w.heap.size (by rfl) (.tmp 36) (.tmp 38) 40 9 (.string ⟨#[]⟩) 16 rfl Try.underlying40 info9 rfl (by decide) (by omega) v159 t158 y161 _ _ _ (fun k_ => (w.heap.size ≤ k_) ∧ some k_ ≠ (.slice Ao23 y161.length co23 : Value).ownBlock) (fun _ => False) rfl rfl ?aO ?aR (fun _ _ h => h) (fun _ h => h.elim) ?aF ?aB ?aS ?aL ?_
          (case aR => repeat (first | exact (Kd.R_reads' HO163.out).2.2 | (with_reducible refine Kd.C_alloc ?_ _) | (with_reducible refine Kd.C_drewN ?_ _) | (with_reducible refine Kd.C_drew ?_)))
          (case aB => exact ax77)
          (case aF => exact ax91)
          (case aO => exact ax84)
          (case aS => exact ax78)
          (case aL => have := LMc11.out; omega)
          intro v165 w22 ho hb hg hat
          rw [← Ny164.out] at ho
          have n0_ := Aside0.mk (Kd.V_afterv (ok := (fun k_ => (P0_ k_ ∨ w.heap.size ≤ k_) ∧ some k_ ≠ (.slice Ao23 y161.length co23 : Value).ownBlock)) ax92 hg hat)
          have n1_ := Aside0.mk (Kd.V_afterv (ok := (fun k_ => (P0_ k_ ∨ w.heap.size ≤ k_) ∧ some k_ ≠ (.slice Ao23 y161.length co23 : Value).ownBlock)) (by (with_reducible repeat (first | apply Kd.V_alloc | apply Kd.V_drewN | apply Kd.V_drew)); exact Kd.V_mono HO157.out (fun _ hk => ⟨⟨hk.1, hk.2.2⟩, hk.2.1⟩)) hg hat)
          have n2_ := Aside0.mk (Kd.V_afterv (ok := (fun k_ => (P0_ k_ ∨ w.heap.size ≤ k_) ∧ some k_ ≠ (.slice Ao23 y161.length co23 : Value).ownBlock)) (by (with_reducible repeat (first | apply Kd.V_alloc | apply Kd.V_drewN | apply Kd.V_drew)); exact Kd.V_mono HO171.out (fun _ hk => ⟨⟨hk.1, hk.2.2⟩, hk.2.1⟩)) hg hat)
          have n3_ := Aside0.mk (Kd.R_after (ok := (fun k_ => (w.heap.size ≤ k_))) ax89 hg hat)
          have n4_ := Aside0.mk (hb); have n5_ := Aside0.mk (ho); clear HO_0; clear HO157; clear HO171; clear HO163; clear HB; clear HO160; have HO_0 := n0_; have HO157 := n1_; have HO171 := n2_; have HO163 := n3_; have HB := n4_; have HO166 := n5_; clear n0_ n1_ n2_ n3_ n4_ n5_; clear ho hb hg hat
          refine hK.out _ _ trivial (fun hHeld => ?_)
          clear hK K
          refine norm_ (a' := ?_) ?_ ?_
          rotate_left
          ·show Act.put _ (some 39) _ = _
           simp only [Act.put, List.setIfInBounds_toArray, List.set_cons_zero, List.set_cons_succ, i64_w, i32_w]
           rfl
          refine one_ (i := 10) (N := some 43) (ob 12 2047) rfl rfl (one_of HT_.out (by kernel_rfl)) (by decide) (fun K hK => ?_)
          refine Kd.R_append_rows_step Kd.string (w0 := w) w.heap.size (by rfl) (.tmp 39) (.tmp 42) 40 9 (.string ⟨#[]⟩) 16 rfl Try.underlying40 info9 rfl (by decide) (by omega) v165 y164 y167 _ _ _ (fun k_ => (w.heap.size ≤ k_) ∧ some k_ ≠ (.slice Ao23 y161.length co23 : Value).ownBlock) (fun _ => False) rfl rfl ?aO ?aR (fun _ _ h => h) (fun _ h => h.elim) ?aF ?aB ?aS ?aL ?_
          (case aR => repeat (first | exact (Kd.V_reads' HO171.out).2.2 | (with_reducible refine Kd.C_alloc ?_ _) | (with_reducible refine Kd.C_drewN ?_ _) | (with_reducible refine Kd.C_drew ?_)))
          (case aB => exact ax77)
          (case aF => exact ax91)
          (case aO => exact (by (with_reducible repeat (first | apply Kd.R_alloc | apply Kd.R_drewN | apply Kd.R_drew)); exact HO166.out))
          (case aS => exact ax78)
          (case aL => have := LMc14.out; omega)
          intro v173 w24 ho hb hg hat
          rw [← Ny172.out] at ho
          have n0_ := Aside0.mk (Kd.V_afterv (ok := (fun k_ => (P0_ k_ ∨ w.heap.size ≤ k_) ∧ some k_ ≠ (.slice Ao23 y161.length co23 : Value).ownBlock)) ax79 hg hat)
          have n1_ := Aside0.mk (Kd.V_afterv (ok := (fun k_ => (P0_ k_ ∨ w.heap.size ≤ k_) ∧ some k_ ≠ (.slice Ao23 y161.length co23 : Value).ownBlock)) ax81 hg hat)
          have n2_ := Aside0.mk (Kd.V_afterv (ok := (fun k_ => (P0_ k_ ∨ w.heap.size ≤ k_) ∧ some k_ ≠ (.slice Ao23 y161.length co23 : Value).ownBlock)) ax82 hg hat)
          have n3_ := Aside0.mk (Kd.R_after (ok := (fun k_ => (w.heap.size ≤ k_))) ax89 hg hat)
          have n4_ := Aside0.mk (hb); have n5_ := Aside0.mk (ho); clear HO_0; clear HO157; clear HO171; clear HO163; clear HB; clear HO166; have HO_0 := n0_; have HO157 := n1_; have HO171 := n2_; have HO163 := n3_; have HB := n4_; have HO174 := n5_; clear n0_ n1_ n2_ n3_ n4_ n5_; clear ho hb hg hat
          refine hK.out _ _ trivial (fun hHeld => ?_)
          clear hK K
          refine norm_ (a' := ?_) ?_ ?_
          rotate_left
          ·exact ax11
          refine pure_ (i := 11) (N := some 4) (v := ?_) (a' := ?_) (ob 12 4095) rfl rfl (any_of HT_.out (by kernel_rfl)) (fun _ _ _ h => h) (Or.inl ⟨by rfl, ?_⟩) ?_ ?_; rotate_left; exact ax3; rotate_left; exact ax4
          refine done_ (done_of HT_.out (by kernel_rfl)) ?_
          try go_wp2
          go_ret
          exact ⟨_, by first | rfl | (simp [errW_none, errW_some] <;> rfl) | (simp [*, errW_none, errW_some] <;> rfl), Kd.V_mono (Kd.R_V (by (with_reducible repeat (first | apply Kd.R_alloc | apply Kd.R_drewN | apply Kd.R_drew)); exact Kd.R_mono HO174.out (fun _ hk => hk.1))) (fun k_ hk => by first | exact ⟨(.inr (hk.1)), hk.2⟩ | exact (.inr (hk))), by repeat (first | (with_reducible first | exact HB.out | apply below_alloc | apply pw_below_drewN | apply below_drew1) | exact HB.out)⟩
         ·rw [if_neg c14] at H
          exact absurd H (by simp)
        ·exact ax12
       ·exact ax1
    ·exact ax13
   ·rw [if_neg c3] at H
    have c3b0 : decide (x5_1 < (l0.length : Int)) = false := decide_eq_false c3
    clear c3
    by_cases c25 : 0 ≤ x5_1
    ·rw [if_pos c25] at H
     have c25b0 := eq_true c25
     have c25b1 : decide (0 ≤ x5_1) = true := decide_eq_true c25
     clear c25
     by_cases c26 : x5_1 ≤ (l0.length : Int)
     ·rw [if_pos c26] at H
      have c26b0 := eq_true c26
      have c26b1 : decide (x5_1 ≤ (l0.length : Int)) = true := decide_eq_true c26
      clear c26
      obtain ⟨y175, hy175⟩ : ∃ y_ : List ByteArray, y_ = (l0.take (x5_1 : Int).toNat) := ⟨_, rfl⟩
      replace H : ((spec_l2Own.f y175).bind fun t180 => ((some (([a1] : List ByteArray) : List ByteArray)).bind fun y183 => (if t180.length + y183.length < 8796093022208 then ((some (t180 ++ y183 : List ByteArray)).bind fun y186 => ((some (l0.drop (x5_1 : Int).toNat : List ByteArray)).bind fun y189 => (if y186.length + y189.length < 8796093022208 then (some (y186 ++ y189)) else (none)))) else (none)))) = some r := by first | (rw [hy175]; with_reducible exact H) | (have H2_ := (Option.bind_some _ _).symm.trans H; rw [hy175]; with_reducible exact H2_) | (have H2_ := (Option.bind_some _ _).symm.trans H; with_reducible exact H2_) | with_reducible exact H | (rw [hy175]; exact H) | exact H
      have Ny175 := Aside0.mk hy175; clear hy175; replace H := Option.bind_eq_some_iff.mp H
      obtain ⟨t180, A270, H⟩ := H
      replace H : ((some (([a1] : List ByteArray) : List ByteArray)).bind fun y183 => (if t180.length + y183.length < 8796093022208 then ((some (t180 ++ y183 : List ByteArray)).bind fun y186 => ((some (l0.drop (x5_1 : Int).toNat : List ByteArray)).bind fun y189 => (if y186.length + y189.length < 8796093022208 then (some (y186 ++ y189)) else (none)))) else (none))) = some r := H
      have A27 := Aside0.mk A270; clear A270
      obtain ⟨y183, hy183⟩ : ∃ y_ : List ByteArray, y_ = (([a1] : List ByteArray)) := ⟨_, rfl⟩
      replace H : (if t180.length + y183.length < 8796093022208 then ((some (t180 ++ y183 : List ByteArray)).bind fun y186 => ((some (l0.drop (x5_1 : Int).toNat : List ByteArray)).bind fun y189 => (if y186.length + y189.length < 8796093022208 then (some (y186 ++ y189)) else (none)))) else (none)) = some r := by first | (rw [hy183]; with_reducible exact H) | (have H2_ := (Option.bind_some _ _).symm.trans H; rw [hy183]; with_reducible exact H2_) | (have H2_ := (Option.bind_some _ _).symm.trans H; with_reducible exact H2_) | with_reducible exact H | (rw [hy183]; exact H) | exact H
      have Ny183 := Aside0.mk hy183; clear hy183
      by_cases c28 : t180.length + y183.length < 8796093022208
      ·rw [if_pos c28] at H
       have LMc28 := Aside0.mk c28; clear c28
       obtain ⟨y186, hy186⟩ : ∃ y_ : List ByteArray, y_ = (t180 ++ y183) := ⟨_, rfl⟩
       replace H : ((some (l0.drop (x5_1 : Int).toNat : List ByteArray)).bind fun y189 => (if y186.length + y189.length < 8796093022208 then (some (y186 ++ y189)) else (none))) = some r := by first | (rw [hy186]; with_reducible exact H) | (have H2_ := (Option.bind_some _ _).symm.trans H; rw [hy186]; with_reducible exact H2_) | (have H2_ := (Option.bind_some _ _).symm.trans H; with_reducible exact H2_) | with_reducible exact H | (rw [hy186]; exact H) | exact H
       have Ny186 := Aside0.mk hy186; clear hy186; have c29b0 := eq_true (of_decide_eq_true ax36 : 0 ≤ x5_1); have c30b0 := eq_true (of_decide_eq_true ax36 : x5_1 ≤ (l0.length : Int))
       obtain ⟨y189, hy189⟩ : ∃ y_ : List ByteArray, y_ = (l0.drop (x5_1 : Int).toNat) := ⟨_, rfl⟩
       replace H : (if y186.length + y189.length < 8796093022208 then (some (y186 ++ y189)) else (none)) = some r := by first | (rw [hy189]; with_reducible exact H) | (have H2_ := (Option.bind_some _ _).symm.trans H; rw [hy189]; with_reducible exact H2_) | (have H2_ := (Option.bind_some _ _).symm.trans H; with_reducible exact H2_) | with_reducible exact H | (rw [hy189]; exact H) | exact H
       have Ny189 := Aside0.mk hy189; clear hy189
       by_cases c31 : y186.length + y189.length < 8796093022208
       ·rw [if_pos c31] at H
        have LMc31 := Aside0.mk c31; clear c31
        obtain ⟨y194, hy194⟩ : ∃ y_ : List ByteArray, y_ = (y186 ++ y189) := ⟨_, rfl⟩
        replace H : (some y194) = some r := by first | (rw [hy194]; with_reducible exact H) | (have H2_ := (Option.bind_some _ _).symm.trans H; rw [hy194]; with_reducible exact H2_) | (have H2_ := (Option.bind_some _ _).symm.trans H; with_reducible exact H2_) | with_reducible exact H | (rw [hy194]; exact H) | exact H
        have Ny194 := Aside0.mk hy194; clear hy194
        obtain rfl := Option.some.inj H
        try go_wp2
        have n0_ := Aside0.mk (Kd.V_drew HO_0.out); have n1_ := Aside0.mk (below_drew1 HB.out); clear HO_0; clear HB; have HO_0 := n0_; have HB := n1_; clear n0_ n1_
        have q33 : (x5_1 : Int) ≤ ((l0.length : Int) : Int) := of_decide_eq_true ax36
        obtain ⟨i033, hi033, _, hsz33, _⟩ := info_parts info9
        have hroom33 : l0.length ≤ c0 := (Kd.V_reads' HO_0.out).2.1
        have hC33 : Kd.F Kd.string _ _ A0 l0.length l0 := (Kd.V_at (base := w.heap.size) HO_0.out).2.2
        have hcut33 := cut_to (P := Try.prog) 40 9 .i64 Try.underlying40 hi033 A0 l0.length c0 x5_1 (of_decide_eq_true ax36) q33 hroom33
        have hr33 := Kd.F_take (m := (x5_1 : Int).toNat) hC33 (by omega)
        have hy33 : y175.length = (x5_1 : Int).toNat := (by rw [Ny175.out, List.length_take]; omega)
        rw [← Ny175.out] at hr33
        rw [← hy33] at hcut33
        have HO179 := Aside0.mk (show Kd.V Kd.string 9 _ w.heap.size _ (.slice A0 y175.length c0) y175 from Kd.V_mk (by omega) hr33); have HC179 := Aside0.mk (show y175.length ≤ c0 from by omega); clear hr33 hC33 hroom33 hi033 hsz33; have KY33 := Aside0.mk hy33; clear hy33; replace q33 := eq_true q33
        have q34 : (x5_1 : Int) ≤ ((l0.length : Int) : Int) := of_decide_eq_true ax36
        obtain ⟨i034, hi034, _, hsz34, _⟩ := info_parts info9
        have hroom34 : l0.length ≤ c0 := (Kd.V_reads' HO_0.out).2.1
        have hC34 : Kd.F Kd.string _ _ A0 l0.length l0 := (Kd.V_at (base := w.heap.size) HO_0.out).2.2
        have q034 : (0 : Int) ≤ (x5_1 : Int) := of_decide_eq_true ax36
        have hcut34 := cut_from (P := Try.prog) 40 9 .i64 Try.underlying40 hi034 1 hsz34 A0 l0.length c0 x5_1 q034 q34
        have hr34 := Kd.F_cut (m := (x5_1 : Int).toNat) (c := c0) hC34 (by omega) hroom34
        obtain ⟨A34, hA34⟩ : ∃ A1, A1 = (if c0 = (x5_1 : Int).toNat then A0 else (A0 : Option Addr).map (·.add ((x5_1 : Int).toNat * 1))) := ⟨_, rfl⟩
        obtain ⟨c34, hc34⟩ : ∃ c1, c1 = c0 - (x5_1 : Int).toNat := ⟨_, rfl⟩
        have hy34 : y189.length = l0.length - (x5_1 : Int).toNat := (by rw [Ny189.out, List.length_drop] <;> omega)
        rw [show (l0).drop (x5_1 : Int).toNat = y189 from Ny189.out.symm] at hr34
        replace hr34 : Kd.F Kd.string _ _ A34 y189.length y189 := (by rw [hA34]; exact hr34)
        rw [← hy34, ← hA34, ← hc34] at hcut34
        have HO193 := Aside0.mk (show Kd.V Kd.string 9 _ w.heap.size _ (.slice A34 y189.length c34) y189 from Kd.V_mk (by rw [hy34, hc34]; exact Nat.sub_le_sub_right hroom34 _) hr34)
        have HC193 := Aside0.mk (show y189.length ≤ c34 from by rw [hy34, hc34]; exact Nat.sub_le_sub_right hroom34 _)
        clear hr34 hC34 hroom34 hi034 hsz34 hc34; have KY34 := Aside0.mk hy34; have KA34 := Aside0.mk hA34; clear hy34 hA34; replace q34 := eq_true q34
        refine start_ (n := 12) (S := fun w' => True) (ds := []) (ob 12 0) (by kernel_rfl) rfl rfl trivial (fun hHeld => ?_); refine with_tabW spec_l2Put.tab6 spec_l2Put.bits6 (fun HT_ HW_ => ?_)
        generalize wr.drew = w32 at HO_0 HB HO179 HO193 hHeld ⊢
        refine pure_ (i := 0) (N := some 33) (v := ?_) (a' := ?_) (ob 12 1) rfl rfl (any_of HT_.out (by kernel_rfl)) (fun _ _ _ h => h) (Or.inl ⟨by rfl, ?_⟩) ?_ ?_; rotate_left; exact ax3; rotate_left; exact ax4
        refine pure_ (i := 1) (N := some 34) (v := ?_) (a' := ?_) (ob 12 3) rfl rfl (any_of HT_.out (by kernel_rfl)) (fun _ _ _ h => h) (Or.inl ⟨by rfl, ?_⟩) ?_ ?_; rotate_left; exact ax3; rotate_left; exact ax4
        refine pure_ (i := 2) (N := some 35) (v := ?_) (a' := ?_) (ob 12 7) rfl rfl (any_of HT_.out (by kernel_rfl)) (fun _ _ _ h => h) (Or.inl ⟨by rfl, ?_⟩) ?_ ?_; rotate_left; exact ax3; rotate_left; exact ax4
        refine pure_ (i := 4) (N := some 37) (v := ?_) (a' := ?_) (ob 12 23) rfl rfl (any_of HT_.out (by kernel_rfl)) (fun _ _ _ h => h) (Or.inl ⟨by rfl, ?_⟩) ?_ ?_; rotate_left; exact ax3; rotate_left; exact ax4
        refine pure_ (i := 7) (N := some 40) (v := ?_) (a' := ?_) (ob 12 151) rfl rfl (any_of HT_.out (by kernel_rfl)) (fun _ _ _ h => h) (Or.inl ⟨by rfl, ?_⟩) ?_ ?_; rotate_left; exact ax3; rotate_left; exact ax4
        refine pure_ (i := 8) (N := some 41) (v := ?_) (a' := ?_) (ob 12 407) rfl rfl (any_of HT_.out (by kernel_rfl)) (fun _ _ _ h => h) (Or.inl ⟨by rfl, ?_⟩) ?_ ?_; rotate_left; exact ax3; rotate_left; exact ax4
        refine pure_ (i := 9) (N := some 42) (v := ?_) (a' := ?_) (ob 12 919) rfl rfl (any_of HT_.out (by kernel_rfl)) (fun _ _ _ h => h) (Or.inl ⟨by rfl, ?_⟩) ?_ ?_; rotate_left; exact ax3; rotate_left; exact ax4
        refine join_ (σ := Value × Value) 3 (ob 12 959) (fun s_ => [(36, s_.1), (38, s_.2)]) (fun s_ w' => (Kd.V Kd.string 9 w' w.heap.size (fun k_ => (P0_ k_ ∨ w.heap.size ≤ k_) ∧ some k_ ≠ (s_.1 : Value).ownBlock ∧ some k_ ≠ (s_.2 : Value).ownBlock) (.slice A0 y175.length c0) y175) ∧ (Kd.R Kd.string 9 w' w.heap.size (fun k_ => (w.heap.size ≤ k_) ∧ some k_ ≠ (s_.2 : Value).ownBlock) s_.1 t180) ∧ (Kd.R Kd.string 9 w' w.heap.size (fun k_ => (w.heap.size ≤ k_) ∧ some k_ ≠ (s_.1 : Value).ownBlock) s_.2 y183) ∧ (Kd.V Kd.string 9 w' w.heap.size (fun k_ => (P0_ k_ ∨ w.heap.size ≤ k_) ∧ some k_ ≠ (s_.1 : Value).ownBlock ∧ some k_ ≠ (s_.2 : Value).ownBlock) (.slice A34 y189.length c34) y189) ∧ (Kd.V Kd.string 9 w' w.heap.size (fun k_ => (P0_ k_ ∨ w.heap.size ≤ k_) ∧ some k_ ≠ (s_.1 : Value).ownBlock ∧ some k_ ≠ (s_.2 : Value).ownBlock) (.slice A0 l0.length c0) l0) ∧ (Below w.heap.size w w')) ?_ ?_
        rotate_left
        ·intro hCont
         refine two_ (i := 3) (j := 5) (Ni := some 36) (Nj := some 38) (ob 12 927) (ob 12 951) rfl rfl rfl rfl (two_of HT_.out (by kernel_rfl)) (by decide) (by decide) (fun K hK => ?_) (fun K hK => ?_)
         ·skip
          refine goes_ Try.func70 (by kernel_rfl) rfl #[.slice A0 y175.length c0] (by rfl) rfl rfl ax25 ?_
          with_reducible refine (spec_l2Own.calls _ _ y175 t180 _ ?side1 ?side2 A27.out).mono ?_
          (case side1 => exact ax93)
          (case side2 => exact (Kd.V_reads' HO179.out).2.1)
          rintro e w35 ⟨v181, rfl, ho0, hb⟩
          refine ⟨_, rfl, ?_⟩
          have n0_ := Aside0.mk (Kd.V_elder' ax79 (Kd.R_base ho0) hb); have n1_ := Aside0.mk (Kd.V_elder' ax94 (Kd.R_base ho0) hb); have n2_ := Aside0.mk (Kd.V_elder' ax95 (Kd.R_base ho0) hb)
          have n3_ := Aside0.mk (Kd.R_lower (Kd.R_newM (M := fun k_ => (w.heap.size ≤ k_)) ho0 (below_size ax23) (fun k_ h_ => h_)) (below_size ax23))
          have n4_ := Aside0.mk (below_step ax23 hb); clear HO_0; clear HO179; clear HO193; clear HB; have HO_0 := n0_; have HO179 := n1_; have HO193 := n2_; have HO182 := n3_; have HB := n4_; clear n0_ n1_ n2_ n3_ n4_; (try clear hb); (try clear hb2); (try clear hk); (try clear hi); (try clear ho0)
          refine hK.out _ _ trivial (fun hHeld => ?_)
          clear hK K
          refine norm_ (a' := ?_) ?_ ?_
          rotate_left
          ·exact ax9
          refine one_ (i := 5) (N := some 38) (ob 12 959) rfl rfl (one_of HT_.out (by kernel_rfl)) (by decide) (fun K hK => ?_)
          refine Kd.R_lit_step Kd.string _ 9 ?hg (N := 38) ?hd (xs := ([a1] : List ByteArray)) (inner := [.string a1]) (ok := fun _ => True) (okp := fun _ => True) ?hr ?hp (fun _ hk => hk) trivial (Below.refl _ _) (Nat.le_refl _) (by simp) ?_; (case hd => rfl); (case hg => rfl); (case hr => exact ax22); (case hp => exact ax83)
          intro v184 w36 ho37 hb hg_ hnew_
          clear hg_ hnew_
          (first | rw [← Ny183.out] at ho37 | (simp only [Int.reduceToNat] at ho37; rw [← Ny183.out] at ho37))
          have n0_ := Aside0.mk (Kd.V_elder' ax79 (Kd.R_base ho37) hb); have n1_ := Aside0.mk (Kd.V_elder' ax94 (Kd.R_base ho37) hb); have n2_ := Aside0.mk (Kd.V_elder' ax95 (Kd.R_base ho37) hb); have n3_ := Aside0.mk (Kd.R_elder' ax96 (Kd.R_base ho37) hb)
          have n4_ := Aside0.mk (Kd.R_lower (Kd.R_new' (Kd.R_newM (M := fun k_ => (w.heap.size ≤ k_)) ho37 (below_size ax23) (fun k_ h_ => h_)) (Kd.R_lt ax96)) (below_size ax23))
          have n5_ := Aside0.mk (below_step ax23 hb); clear HO_0; clear HO179; clear HO193; clear HO182; clear HB; have HO_0 := n0_; have HO179 := n1_; have HO193 := n2_; have HO182 := n3_; have HO185 := n4_; have HB := n5_; clear n0_ n1_ n2_ n3_ n4_ n5_; clear hb ho37
          refine hK.out _ _ trivial (fun hHeld => ?_)
          clear hK K
          refine norm_ (a' := ?_) ?_ ?_
          rotate_left
          ·exact ax10
          exact norm_ ax85 (hCont (v181, v184) _ ⟨(by (with_reducible repeat (first | apply Kd.V_alloc | apply Kd.V_drewN | apply Kd.V_drew)); exact Kd.V_mono HO179.out (fun _ hk => ⟨hk.1.1, ⟨hk.1.2, hk.2⟩⟩)), ax97, ax98, (by (with_reducible repeat (first | apply Kd.V_alloc | apply Kd.V_drewN | apply Kd.V_drew)); exact Kd.V_mono HO193.out (fun _ hk => ⟨hk.1.1, ⟨hk.1.2, hk.2⟩⟩)), ax88, ax23⟩)
         ·skip
          refine Kd.R_lit_step Kd.string _ 9 ?hg (N := 38) ?hd (xs := ([a1] : List ByteArray)) (inner := [.string a1]) (ok := fun _ => True) (okp := fun _ => True) ?hr ?hp (fun _ hk => hk) trivial (Below.refl _ _) (Nat.le_refl _) (by simp) ?_; (case hd => rfl); (case hg => rfl); (case hr => exact ax22); (case hp => exact ax83)
          intro v184 w35 ho36 hb hg_ hnew_
          clear hg_ hnew_
          (first | rw [← Ny183.out] at ho36 | (simp only [Int.reduceToNat] at ho36; rw [← Ny183.out] at ho36))
          have n0_ := Aside0.mk (Kd.V_elder' ax79 (Kd.R_base ho36) hb); have n1_ := Aside0.mk (Kd.V_elder' ax94 (Kd.R_base ho36) hb); have n2_ := Aside0.mk (Kd.V_elder' ax95 (Kd.R_base ho36) hb)
          have n3_ := Aside0.mk (Kd.R_lower (Kd.R_newM (M := fun k_ => (w.heap.size ≤ k_)) ho36 (below_size ax23) (fun k_ h_ => h_)) (below_size ax23))
          have n4_ := Aside0.mk (below_step ax23 hb); clear HO_0; clear HO179; clear HO193; clear HB; have HO_0 := n0_; have HO179 := n1_; have HO193 := n2_; have HO185 := n3_; have HB := n4_; clear n0_ n1_ n2_ n3_ n4_; clear hb ho36
          refine hK.out _ _ trivial (fun hHeld => ?_)
          clear hK K
          refine norm_ (a' := ?_) ?_ ?_
          rotate_left
          ·exact ax10
          refine one_ (i := 3) (N := some 36) (ob 12 959) rfl rfl (one_of HT_.out (by kernel_rfl)) (by decide) (fun K hK => ?_)
          refine goes_ Try.func70 (by kernel_rfl) rfl #[.slice A0 y175.length c0] (by rfl) rfl rfl ax25 ?_
          with_reducible refine (spec_l2Own.calls _ _ y175 t180 _ ?side1 ?side2 A27.out).mono ?_
          (case side1 => exact ax93)
          (case side2 => exact (Kd.V_reads' HO179.out).2.1)
          rintro e w37 ⟨v181, rfl, ho0, hb⟩
          refine ⟨_, rfl, ?_⟩
          have n0_ := Aside0.mk (Kd.V_elder' ax79 (Kd.R_base ho0) hb); have n1_ := Aside0.mk (Kd.V_elder' ax94 (Kd.R_base ho0) hb); have n2_ := Aside0.mk (Kd.V_elder' ax95 (Kd.R_base ho0) hb); have n3_ := Aside0.mk (Kd.R_elder' ax99 (Kd.R_base ho0) hb)
          have n4_ := Aside0.mk (Kd.R_lower (Kd.R_new' (Kd.R_newM (M := fun k_ => (w.heap.size ≤ k_)) ho0 (below_size ax23) (fun k_ h_ => h_)) (Kd.R_lt ax99)) (below_size ax23))
          have n5_ := Aside0.mk (below_step ax23 hb); clear HO_0; clear HO179; clear HO193; clear HO185; clear HB; have HO_0 := n0_; have HO179 := n1_; have HO193 := n2_; have HO185 := n3_; have HO182 := n4_; have HB := n5_; clear n0_ n1_ n2_ n3_ n4_ n5_; (try clear hb); (try clear hb2); (try clear hk); (try clear hi); (try clear ho0)
          refine hK.out _ _ trivial (fun hHeld => ?_)
          clear hK K
          refine norm_ (a' := ?_) ?_ ?_
          rotate_left
          ·exact ax9
          exact norm_ ax85 (hCont (v181, v184) _ ⟨(by (with_reducible repeat (first | apply Kd.V_alloc | apply Kd.V_drewN | apply Kd.V_drew)); exact Kd.V_mono HO179.out (fun _ hk => ⟨hk.1.1, ⟨hk.2, hk.1.2⟩⟩)), ax97, ax98, (by (with_reducible repeat (first | apply Kd.V_alloc | apply Kd.V_drewN | apply Kd.V_drew)); exact Kd.V_mono HO193.out (fun _ hk => ⟨hk.1.1, ⟨hk.2, hk.1.2⟩⟩)), ax90, ax23⟩)
        rintro ⟨v181, v184⟩ w38 ⟨h0_, h1_, h2_, h3_, h4_, h5_⟩
        have n0_ : Aside0 (Kd.V Kd.string 9 w38 w.heap.size (fun k_ => (P0_ k_ ∨ w.heap.size ≤ k_) ∧ some k_ ≠ (v181 : Value).ownBlock ∧ some k_ ≠ (v184 : Value).ownBlock) (.slice A0 y175.length c0) y175) := ⟨h0_⟩
        have n1_ : Aside0 (Kd.R Kd.string 9 w38 w.heap.size (fun k_ => (w.heap.size ≤ k_) ∧ some k_ ≠ (v184 : Value).ownBlock) v181 t180) := ⟨h1_⟩
        have n2_ : Aside0 (Kd.R Kd.string 9 w38 w.heap.size (fun k_ => (w.heap.size ≤ k_) ∧ some k_ ≠ (v181 : Value).ownBlock) v184 y183) := ⟨h2_⟩
        have n3_ : Aside0 (Kd.V Kd.string 9 w38 w.heap.size (fun k_ => (P0_ k_ ∨ w.heap.size ≤ k_) ∧ some k_ ≠ (v181 : Value).ownBlock ∧ some k_ ≠ (v184 : Value).ownBlock) (.slice A34 y189.length c34) y189) := ⟨h3_⟩
        have n4_ : Aside0 (Kd.V Kd.string 9 w38 w.heap.size (fun k_ => (P0_ k_ ∨ w.heap.size ≤ k_) ∧ some k_ ≠ (v181 : Value).ownBlock ∧ some k_ ≠ (v184 : Value).ownBlock) (.slice A0 l0.length c0) l0) := ⟨h4_⟩
        have n5_ : Aside0 (Below w.heap.size w w38) := ⟨h5_⟩
        clear HO_0; clear HB; clear h0_ h1_ h2_ h3_ h4_ h5_; have HO179 := n0_; have HO182 := n1_; have HO185 := n2_; have HO193 := n3_; have HO_0 := n4_; have HB := n5_; clear n0_ n1_ n2_ n3_ n4_ n5_; have hHeld := trivial
        obtain ⟨Ao40, co40, eo40⟩ := Kd.R_slice HO185.out
        (first | subst eo40 | (injection eo40 with f1_ f2_ f3_; have f4_ := f1_.symm; have f5_ := f3_.symm; clear f1_ f2_ f3_; subst f4_; subst f5_))
        refine norm_ (a' := ?_) ?_ ?_
        rotate_left
        ·simp only [putAll, Act.put, List.setIfInBounds_toArray, List.set_cons_zero, List.set_cons_succ]
         rfl
        refine one_ (i := 6) (N := some 39) (ob 12 1023) rfl rfl (one_of HT_.out (by kernel_rfl)) (by decide) (fun K hK => ?_)
        refine Kd.R_append_rows_step Kd.string (w0 := w) w.heap.size (by rfl) (.tmp 36) (.tmp 38) 40 9 (.string ⟨#[]⟩) 16 rfl Try.underlying40 info9 rfl (by decide) (by omega) v181 t180 y183 _ _ _ (fun k_ => (w.heap.size ≤ k_) ∧ some k_ ≠ (.slice Ao40 y183.length co40 : Value).ownBlock) (fun _ => False) rfl rfl ?aO ?aR (fun _ _ h => h) (fun _ h => h.elim) ?aF ?aB ?aS ?aL ?_
        (case aR => repeat (first | exact (Kd.R_reads' HO185.out).2.2 | (with_reducible refine Kd.C_alloc ?_ _) | (with_reducible refine Kd.C_drewN ?_ _) | (with_reducible refine Kd.C_drew ?_)))
        (case aB => exact ax77)
        (case aF => exact ax100)
        (case aO => exact ax96)
        (case aS => exact ax78)
        (case aL => have := LMc28.out; omega)
        intro v187 w39 ho hb hg hat
        rw [← Ny186.out] at ho
        have n0_ := Aside0.mk (Kd.V_afterv (ok := (fun k_ => (P0_ k_ ∨ w.heap.size ≤ k_) ∧ some k_ ≠ (.slice Ao40 y183.length co40 : Value).ownBlock)) ax92 hg hat)
        have n1_ := Aside0.mk (Kd.V_afterv (ok := (fun k_ => (P0_ k_ ∨ w.heap.size ≤ k_) ∧ some k_ ≠ (.slice Ao40 y183.length co40 : Value).ownBlock)) (by (with_reducible repeat (first | apply Kd.V_alloc | apply Kd.V_drewN | apply Kd.V_drew)); exact Kd.V_mono HO179.out (fun _ hk => ⟨⟨hk.1, hk.2.2⟩, hk.2.1⟩)) hg hat)
        have n2_ := Aside0.mk (Kd.V_afterv (ok := (fun k_ => (P0_ k_ ∨ w.heap.size ≤ k_) ∧ some k_ ≠ (.slice Ao40 y183.length co40 : Value).ownBlock)) (by (with_reducible repeat (first | apply Kd.V_alloc | apply Kd.V_drewN | apply Kd.V_drew)); exact Kd.V_mono HO193.out (fun _ hk => ⟨⟨hk.1, hk.2.2⟩, hk.2.1⟩)) hg hat)
        have n3_ := Aside0.mk (Kd.R_after (ok := (fun k_ => (w.heap.size ≤ k_))) ax99 hg hat)
        have n4_ := Aside0.mk (hb); have n5_ := Aside0.mk (ho); clear HO_0; clear HO179; clear HO193; clear HO185; clear HB; clear HO182; have HO_0 := n0_; have HO179 := n1_; have HO193 := n2_; have HO185 := n3_; have HB := n4_; have HO188 := n5_; clear n0_ n1_ n2_ n3_ n4_ n5_; clear ho hb hg hat
        refine hK.out _ _ trivial (fun hHeld => ?_)
        clear hK K
        refine norm_ (a' := ?_) ?_ ?_
        rotate_left
        ·show Act.put _ (some 39) _ = _
         simp only [Act.put, List.setIfInBounds_toArray, List.set_cons_zero, List.set_cons_succ, i64_w, i32_w]
         rfl
        refine one_ (i := 10) (N := some 43) (ob 12 2047) rfl rfl (one_of HT_.out (by kernel_rfl)) (by decide) (fun K hK => ?_)
        refine Kd.R_append_rows_step Kd.string (w0 := w) w.heap.size (by rfl) (.tmp 39) (.tmp 42) 40 9 (.string ⟨#[]⟩) 16 rfl Try.underlying40 info9 rfl (by decide) (by omega) v187 y186 y189 _ _ _ (fun k_ => (w.heap.size ≤ k_) ∧ some k_ ≠ (.slice Ao40 y183.length co40 : Value).ownBlock) (fun _ => False) rfl rfl ?aO ?aR (fun _ _ h => h) (fun _ h => h.elim) ?aF ?aB ?aS ?aL ?_
        (case aR => repeat (first | exact (Kd.V_reads' HO193.out).2.2 | (with_reducible refine Kd.C_alloc ?_ _) | (with_reducible refine Kd.C_drewN ?_ _) | (with_reducible refine Kd.C_drew ?_)))
        (case aB => exact ax77)
        (case aF => exact ax100)
        (case aO => exact (by (with_reducible repeat (first | apply Kd.R_alloc | apply Kd.R_drewN | apply Kd.R_drew)); exact HO188.out))
        (case aS => exact ax78)
        (case aL => have := LMc31.out; omega)
        intro v195 w41 ho hb hg hat
        rw [← Ny194.out] at ho
        have n0_ := Aside0.mk (Kd.V_afterv (ok := (fun k_ => (P0_ k_ ∨ w.heap.size ≤ k_) ∧ some k_ ≠ (.slice Ao40 y183.length co40 : Value).ownBlock)) ax79 hg hat)
        have n1_ := Aside0.mk (Kd.V_afterv (ok := (fun k_ => (P0_ k_ ∨ w.heap.size ≤ k_) ∧ some k_ ≠ (.slice Ao40 y183.length co40 : Value).ownBlock)) ax94 hg hat)
        have n2_ := Aside0.mk (Kd.V_afterv (ok := (fun k_ => (P0_ k_ ∨ w.heap.size ≤ k_) ∧ some k_ ≠ (.slice Ao40 y183.length co40 : Value).ownBlock)) ax95 hg hat)
        have n3_ := Aside0.mk (Kd.R_after (ok := (fun k_ => (w.heap.size ≤ k_))) ax99 hg hat)
        have n4_ := Aside0.mk (hb); have n5_ := Aside0.mk (ho); clear HO_0; clear HO179; clear HO193; clear HO185; clear HB; clear HO188; have HO_0 := n0_; have HO179 := n1_; have HO193 := n2_; have HO185 := n3_; have HB := n4_; have HO196 := n5_; clear n0_ n1_ n2_ n3_ n4_ n5_; clear ho hb hg hat
        refine hK.out _ _ trivial (fun hHeld => ?_)
        clear hK K
        refine norm_ (a' := ?_) ?_ ?_
        rotate_left
        ·exact ax11
        refine pure_ (i := 11) (N := some 4) (v := ?_) (a' := ?_) (ob 12 4095) rfl rfl (any_of HT_.out (by kernel_rfl)) (fun _ _ _ h => h) (Or.inl ⟨by rfl, ?_⟩) ?_ ?_; rotate_left; exact ax3; rotate_left; exact ax4
        refine done_ (done_of HT_.out (by kernel_rfl)) ?_
        try go_wp2
        go_ret
        exact ⟨_, by first | rfl | (simp [errW_none, errW_some] <;> rfl) | (simp [*, errW_none, errW_some] <;> rfl), Kd.V_mono (Kd.R_V (by (with_reducible repeat (first | apply Kd.R_alloc | apply Kd.R_drewN | apply Kd.R_drew)); exact Kd.R_mono HO196.out (fun _ hk => hk.1))) (fun k_ hk => by first | exact ⟨(.inr (hk.1)), hk.2⟩ | exact (.inr (hk))), by repeat (first | (with_reducible first | exact HB.out | apply below_alloc | apply pw_below_drewN | apply below_drew1) | exact HB.out)⟩
       ·rw [if_neg c31] at H
        exact absurd H (by simp)
      ·rw [if_neg c28] at H
       exact absurd H (by simp)
     ·rw [if_neg c26] at H
      exact absurd H (by simp)
    ·rw [if_neg c25] at H
     exact absurd H (by simp)

end Go.Proofs.Ytcbjfflaamlpcaa.X

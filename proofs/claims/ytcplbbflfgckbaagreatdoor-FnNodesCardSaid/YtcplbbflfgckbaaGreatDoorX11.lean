-- By gen.py (the session's own program over the kit's printer): functions of the program, each with its contract. Lean checks it.
import Derived.Test.YtcplbbflfgckbaaGreatDoorX0
namespace Go.Proofs.YtcplbbflfgckbaaGreatDoor.X
open Go.RowKit Go.Proofs.YtcplbbflfgckbaaGreatDoorW.PrintWords Go.Proofs.YtcplbbflfgckbaaGreatDoorW.PrintLast Go.Proofs.YtcplbbflfgckbaaGreatDoorW.PrintMore
attribute [local go_sem] max2_int min2_int max_two min_two max_three min_three max_four min_four   -- for this text's walks alone
set_option linter.unusedVariables false
set_option linter.unusedSimpArgs false

/-! ### cmp_isNaN_string: function 222 -/
def cmp_isNaN_string.f (a0 : ByteArray) : Option (Bool) := some (a0.toList != a0.toList)
set_option maxHeartbeats 8000000 in
set_option maxRecDepth 100000 in
theorem cmp_isNaN_string.calls (a0 : ByteArray) (r : Bool) (w : World) (h : cmp_isNaN_string.f a0 = some r) :
  Calls Tryz.prog 222 #[.string a0] w fun e w' => e = .returned (.bool r) ∧ Drawn0 w w' := by
 unfold cmp_isNaN_string.f at h
 have H := h; clear h; obtain rfl := Option.some.inj H
 go_enter Tryz.func222, Tryz.ntmps222
 go_wp2
 go_ret
 exact ⟨ax31, ax32⟩

/-! ### cmp_Less_string: function 208 -/
def cmp_Less_string.f (a0 : ByteArray) (a1 : ByteArray) : Option (Bool) := (cmp_isNaN_string.f a0).bind fun t429 => (if t429 = true then ((cmp_isNaN_string.f a1).bind fun t430 => (if t430 = true then (some (Op.bytesLess a0.toList a1.toList)) else (some true))) else (some (Op.bytesLess a0.toList a1.toList)))
set_option maxHeartbeats 8000000 in
set_option maxRecDepth 100000 in
theorem cmp_Less_string.calls (a0 : ByteArray) (a1 : ByteArray) (r : Bool) (w : World) (h : cmp_Less_string.f a0 a1 = some r) :
  Calls Tryz.prog 208 #[.string a0, .string a1] w fun e w' => e = .returned (.bool r) ∧ Drawn0 w w' := by
 unfold cmp_Less_string.f at h
 have H := h; clear h; obtain ⟨t429, A3, H⟩ := bs H
 by_cases c4 : t429 = true
 ·subst c4
  rw [if_pos rfl] at H; obtain ⟨t430, A5, H⟩ := bs H
  by_cases c6 : t430 = true
  ·subst c6
   rw [if_pos rfl] at H; obtain rfl := Option.some.inj H
   go_enter Tryz.func208, Tryz.ntmps208
   go_wp2_with (first | ((with_reducible refine gd 6 222 ?_); refine gc 6 Tryz.func222 #[.string a0] (cmp_isNaN_string.calls a0 true _ A3.out) ?_; rintro e w' ⟨rfl, ⟨nd, rfl⟩⟩; refine ⟨_, rfl, ?_⟩) | (go_at_call 222; (with_reducible refine (cmp_isNaN_string.calls a1 true _ A5.out).mono ?_); rintro e w' ⟨rfl, ⟨nd, rfl⟩⟩))
   go_ret
   exact ⟨ax31, ax32⟩
  ·replace c6 := Bool.eq_false_iff.mpr c6
   subst c6; rw [if_neg (show ¬ (false = true) by decide)] at H; obtain rfl := Option.some.inj H
   go_enter Tryz.func208, Tryz.ntmps208
   go_wp2_with (first | ((with_reducible refine gd 6 222 ?_); refine gc 6 Tryz.func222 #[.string a0] (cmp_isNaN_string.calls a0 true _ A3.out) ?_; rintro e w' ⟨rfl, ⟨nd, rfl⟩⟩; refine ⟨_, rfl, ?_⟩) | (go_at_call 222; (with_reducible refine (cmp_isNaN_string.calls a1 false _ A5.out).mono ?_); rintro e w' ⟨rfl, ⟨nd, rfl⟩⟩))
   go_ret
   exact ⟨ax31, ax32⟩
 ·replace c4 := Bool.eq_false_iff.mpr c4
  subst c4; rw [if_neg (show ¬ (false = true) by decide)] at H; obtain rfl := Option.some.inj H
  go_enter Tryz.func208, Tryz.ntmps208
  go_wp2_with (first | ((with_reducible refine gd 6 222 ?_); refine gc 6 Tryz.func222 #[.string a0] (cmp_isNaN_string.calls a0 false _ A3.out) ?_; rintro e w' ⟨rfl, ⟨nd, rfl⟩⟩; refine ⟨_, rfl, ?_⟩))
  go_ret
  exact ⟨ax31, ax32⟩

/-! ### slices_isNaN_string: function 209 -/
def slices_isNaN_string.f (a0 : ByteArray) : Option (Bool) := some (a0.toList != a0.toList)
set_option maxHeartbeats 8000000 in
set_option maxRecDepth 100000 in
theorem slices_isNaN_string.calls (a0 : ByteArray) (r : Bool) (w : World) (h : slices_isNaN_string.f a0 = some r) :
  Calls Tryz.prog 209 #[.string a0] w fun e w' => e = .returned (.bool r) ∧ Drawn0 w w' := by
 unfold slices_isNaN_string.f at h
 have H := h; clear h; obtain rfl := Option.some.inj H
 go_enter Tryz.func209, Tryz.ntmps209
 go_wp2
 go_ret
 exact ⟨ax31, ax32⟩

/-! ### slices_BinarySearch_string_string: function 169 -/
def slices_BinarySearch_string_string.l0 : Nat → List ByteArray → ByteArray → Int → Int → Int → Option (Int × Bool)
 | 0, _, _, _, _, _ => none
 | k + 1, x0, x1, x6, x7, x8 => if x7 < x8 then (if 0 ≤ (wrap64 ((IntKind.u64.wrap (wrap64 (x7 + x8))) / 2)) then (if (wrap64 ((IntKind.u64.wrap (wrap64 (x7 + x8))) / 2)) < (x0.length : Int) then ((cmp_Less_string.f (rdOf ByteArray.empty x0 (wrap64 ((IntKind.u64.wrap (wrap64 (x7 + x8))) / 2))) x1).bind fun t432 => (if t432 = true then (slices_BinarySearch_string_string.l0 k x0 x1 x6 (wrap64 ((wrap64 ((IntKind.u64.wrap (wrap64 (x7 + x8))) / 2)) + 1)) x8) else (slices_BinarySearch_string_string.l0 k x0 x1 x6 x7 (wrap64 ((IntKind.u64.wrap (wrap64 (x7 + x8))) / 2))))) else (none)) else (none)) else (if x7 < x6 then (if 0 ≤ x7 then (if x7 < (x0.length : Int) then (if (rdOf ByteArray.empty x0 x7).toList = x1.toList then (some (x7, true)) else ((slices_isNaN_string.f (rdOf ByteArray.empty x0 x7)).bind fun t435 => (if t435 = true then ((slices_isNaN_string.f x1).bind fun t436 => (some (x7, t436))) else (some (x7, false))))) else (none)) else (none)) else (some (x7, false)))
def slices_BinarySearch_string_string.f (k : Nat) (l0 : List ByteArray) (a1 : ByteArray) : Option (Int × Bool) := slices_BinarySearch_string_string.l0 k l0 a1 (l0.length : Int) 0 (l0.length : Int)
set_option maxHeartbeats 8000000 in
set_option maxRecDepth 100000 in
theorem slices_BinarySearch_string_string.calls (k : Nat) (A0 : Option Addr) (c0 : Nat) (l0 : List ByteArray) (a1 : ByteArray) (r1 : Int) (r2 : Bool) (w : World) (hr0 : Kd.C Kd.string w A0 l0.length l0) (hc0 : l0.length ≤ c0) (h : slices_BinarySearch_string_string.f k l0 a1 = some (r1, r2)) :
  Calls Tryz.prog 169 #[.slice A0 l0.length c0, .string a1] w fun e w' => e = .returned (.tuple #[.int .i64 r1, .bool r2]) ∧ Drawn0 w w' := by
 have HR0 := am hr0; have HC0 := am hc0; clear hr0 hc0
 unfold slices_BinarySearch_string_string.f at h
 have H := h; clear h; have H' := am H; clear H
 go_enter Tryz.func169, Tryz.ntmps169
 go_wp2
 go_loopg [7, 8] k (fun kq v7 v8 w' => ∃ (x7_1 : Int) (x8_1 : Int), v7 = .int .i64 x7_1 ∧ v8 = .int .i64 x8_1 ∧ Aside0 (slices_BinarySearch_string_string.l0 kq l0 a1 (l0.length : Int) x7_1 x8_1 = some (r1, r2)) ∧ Aside0 (kq ≤ k) ∧ Drawn0 w w')
 case atStart => exact ⟨(0), ((l0.length : Int)), ax31, ax31, H', ⟨Nat.le_refl _⟩, by repeat (first | exact Drawn0.refl _ | apply Drawn0.step)⟩
 case round =>
  clear H'; obtain ⟨x7_1, x8_1, rfl, rfl, HA, HK1, ⟨m1, rfl⟩⟩ := hrel
  cases gk with
  | zero => exact absurd HA.out (by simp [slices_BinarySearch_string_string.l0])
  | succ k1 =>
   have H := HA.out; clear HA; simp only [slices_BinarySearch_string_string.l0] at H
   by_cases c3 : x7_1 < x8_1
   ·rw [if_pos c3] at H
    have c3b0 := decide_eq_true c3; clear c3; obtain ⟨ji4, hji4⟩ : ∃ j_ : Int, (wrap64 ((IntKind.u64.wrap (wrap64 (x7_1 + x8_1))) / 2)) = j_ := ⟨_, rfl⟩; (first | rw [hji4] at H | simp only [hji4] at H); have hji4w : (IntKind.i64.wrap ((IntKind.u64.wrap (wrap64 (x7_1 + x8_1))) / 2)) = ji4 := (i64_w _).trans hji4
    by_cases c5 : 0 ≤ (ji4)
    ·rw [if_pos c5] at H
     have c5b0 := decide_eq_true c5; clear c5
     by_cases c6 : (ji4) < (l0.length : Int)
     ·rw [if_pos c6] at H
      have c6b0 := decide_eq_true c6; clear c6; obtain ⟨t432, A7, H⟩ := bs H
      by_cases c8 : t432 = true
      ·subst c8
       rw [if_pos rfl] at H; have H' := am H; clear H; have p431 : 0 ≤ ((ji4) : Int) := of_decide_eq_true ax26; have q431 : (ji4) < (l0.length : Int) := of_decide_eq_true ax26; obtain ⟨ad431, e431, hx431_0⟩ := Kd.at_string HR0.out (ji4) p431 q431
       cases e431
       replace p431 := eq_true p431; replace q431 := eq_true q431
       go_wp2_with (first | ((with_reducible refine gate_callee (f := 208) rfl ?_); refine goesL_ (some 27) rfl rfl Tryz.func208 (by kernel_rfl) rfl #[.string (rdOf ByteArray.empty l0 (ji4)), .string a1] rfl ax183 ?_; (with_reducible refine (cmp_Less_string.calls (rdOf ByteArray.empty l0 (ji4)) a1 true _ A7.out).mono ?_); rintro e w' ⟨rfl, ⟨nd, rfl⟩⟩; refine ⟨_, rfl, ?_⟩))
       go_roundg k1
       case measure => have := HK1.out; omega
       case rel => exact ⟨(wrap64 ((ji4) + 1)), (x8_1), ax184, ax31, H', ⟨by have := HK1.out; omega⟩, ax32⟩
      ·replace c8 := Bool.eq_false_iff.mpr c8
       subst c8; rw [if_neg (show ¬ (false = true) by decide)] at H; have H' := am H; clear H; have p431 : 0 ≤ ((ji4) : Int) := of_decide_eq_true ax26; have q431 : (ji4) < (l0.length : Int) := of_decide_eq_true ax26; obtain ⟨ad431, e431, hx431_0⟩ := Kd.at_string HR0.out (ji4) p431 q431
       cases e431
       replace p431 := eq_true p431; replace q431 := eq_true q431
       go_wp2_with (first | ((with_reducible refine gate_callee (f := 208) rfl ?_); refine goesL_ (some 27) rfl rfl Tryz.func208 (by kernel_rfl) rfl #[.string (rdOf ByteArray.empty l0 (ji4)), .string a1] rfl ax183 ?_; (with_reducible refine (cmp_Less_string.calls (rdOf ByteArray.empty l0 (ji4)) a1 false _ A7.out).mono ?_); rintro e w' ⟨rfl, ⟨nd, rfl⟩⟩; refine ⟨_, rfl, ?_⟩))
       go_roundg k1
       case measure => have := HK1.out; omega
       case rel => exact ⟨(x7_1), (ji4), ax31, ax184, H', ⟨by have := HK1.out; omega⟩, ax32⟩
     ·exact ax5
    ·exact ax12
   ·rw [if_neg c3] at H
    have c3b0 := decide_eq_false c3; clear c3
    by_cases c9 : x7_1 < (l0.length : Int)
    ·rw [if_pos c9] at H
     have c9b0 := decide_eq_true c9; clear c9
     by_cases c10 : 0 ≤ x7_1
     ·rw [if_pos c10] at H
      have c10b0 := decide_eq_true c10; clear c10
      by_cases c11 : x7_1 < (l0.length : Int)
      ·rw [if_pos c11] at H
       have c11b0 := decide_eq_true c11; clear c11
       by_cases c12 : (rdOf ByteArray.empty l0 x7_1).toList = a1.toList
       ·rw [if_pos c12] at H
        have c12b0 := beq_iff_eq.mpr c12; have c12b1 := bne_eq_false_iff_eq.mpr c12; clear c12; simp only [Option.some.injEq, Prod.mk.injEq] at H; obtain ⟨rfl, rfl⟩ := H; have p433 : 0 ≤ (x7_1 : Int) := of_decide_eq_true ax26; have q433 : x7_1 < (l0.length : Int) := of_decide_eq_true ax26; obtain ⟨ad433, e433, hx433_0⟩ := Kd.at_string HR0.out x7_1 p433 q433
        cases e433
        replace p433 := eq_true p433; replace q433 := eq_true q433
        go_wp2
        go_ret2
        exact ⟨ax31, ax32⟩
       ·rw [if_neg c12] at H
        have c12b0 := beq_eq_false_iff_ne.mpr c12; have c12b1 := bne_iff_ne.mpr c12; obtain ⟨t435, A13, H⟩ := bs H
        by_cases c14 : t435 = true
        ·subst c14
         rw [if_pos rfl] at H; obtain ⟨t436, A15, H⟩ := bs H; simp only [Option.some.injEq, Prod.mk.injEq] at H; obtain ⟨rfl, rfl⟩ := H; have p433 : 0 ≤ (x7_1 : Int) := of_decide_eq_true ax26; have q433 : x7_1 < (l0.length : Int) := of_decide_eq_true ax26; obtain ⟨ad433, e433, hx433_0⟩ := Kd.at_string HR0.out x7_1 p433 q433
         cases e433
         replace p433 := eq_true p433; replace q433 := eq_true q433; have p434 : 0 ≤ (x7_1 : Int) := of_decide_eq_true ax26; have q434 : x7_1 < (l0.length : Int) := of_decide_eq_true ax26; obtain ⟨ad434, e434, hx434_0⟩ := Kd.at_string HR0.out x7_1 p434 q434; obtain rfl : ad433 = ad434 := (by injection e434); replace p434 := eq_true p434; replace q434 := eq_true q434
         go_wp2_with (first | (go_at_call 209; (with_reducible refine (slices_isNaN_string.calls (rdOf ByteArray.empty l0 x7_1) true _ A13.out).mono ?_); rintro e w' ⟨rfl, ⟨nd, rfl⟩⟩) | (go_at_call 209; (with_reducible refine (slices_isNaN_string.calls a1 t436 _ A15.out).mono ?_); rintro e w' ⟨rfl, ⟨nd, rfl⟩⟩))
         go_ret2
         exact ⟨ax31, ax32⟩
        ·replace c14 := Bool.eq_false_iff.mpr c14
         subst c14; rw [if_neg (show ¬ (false = true) by decide)] at H; simp only [Option.some.injEq, Prod.mk.injEq] at H; obtain ⟨rfl, rfl⟩ := H; have p433 : 0 ≤ (x7_1 : Int) := of_decide_eq_true ax26; have q433 : x7_1 < (l0.length : Int) := of_decide_eq_true ax26; obtain ⟨ad433, e433, hx433_0⟩ := Kd.at_string HR0.out x7_1 p433 q433
         cases e433
         replace p433 := eq_true p433; replace q433 := eq_true q433; have p434 : 0 ≤ (x7_1 : Int) := of_decide_eq_true ax26; have q434 : x7_1 < (l0.length : Int) := of_decide_eq_true ax26; obtain ⟨ad434, e434, hx434_0⟩ := Kd.at_string HR0.out x7_1 p434 q434; obtain rfl : ad433 = ad434 := (by injection e434); replace p434 := eq_true p434; replace q434 := eq_true q434
         go_wp2_with (first | (go_at_call 209; (with_reducible refine (slices_isNaN_string.calls (rdOf ByteArray.empty l0 x7_1) false _ A13.out).mono ?_); rintro e w' ⟨rfl, ⟨nd, rfl⟩⟩))
         go_ret2
         exact ⟨ax31, ax32⟩
      ·exact ax8
     ·exact ax16
    ·rw [if_neg c9] at H
     have c9b0 := decide_eq_false c9; clear c9; simp only [Option.some.injEq, Prod.mk.injEq] at H; obtain ⟨rfl, rfl⟩ := H
     go_wp2
     go_ret2
     exact ⟨ax31, ax32⟩

/-! ### impl_set: function 206: a contract of our own -/
section
open Go.Shelf Go.Sort
attribute [local go_sem] Oper.semAt_some
/-- slices.Values's closure, for every loop body that keeps what lay below the call's begin. -/
theorem impl_set.values1 (F : Fence) (n : Nat) (h7 : F.fn 245) (hro : F.round = none) (hn : 1 ≤ n) (l Bs : Nat) (A : Option Addr) (cap : Nat) (zs : List ByteArray) (w0 : World) (hC : Kd.string.C w0 A zs.length zs) (J Jx : List ByteArray → World → Prop)
  (hY : ∀ pre x W, J pre W → pre.length < zs.length → YieldAt F (n - 1) Tryz.prog l #[.string x] W fun e W' =>
   (e = .returned (.bool true) ∧ J (pre ++ [x]) W' ∧ Below w0.heap.size W W') ∨ (e = .returned (.bool false) ∧ Jx (pre ++ [x]) W'))
  (W : World) (hW : Below w0.heap.size w0 W) (hBs : W.cell? ⟨Bs, 0, none⟩ = some (.slice A zs.length cap)) (h0 : J [] W) :
  CallsIn F n Tryz.prog 245 #[.func (.yield l) #[] #[], .pointer (some ⟨Bs, 0, none⟩)] W fun e W' => (∃ v, e = .returned v) ∧
   ((∃ ys, ys = zs ∧ J ys W') ∨ (∃ pre, pre <+: zs ∧ Jx pre W')) := by
 have hlen := hC.2.1; refine callsIn_of_wp Tryz.func245 rfl h7 ?_ hro; simp only [Tryz.ntmps245, List.size_toArray, List.length_cons, List.length_nil, Nat.reduceAdd, Nat.reduceSub, Array.replicate_succ, Array.replicate_zero, List.push_toArray, List.append_toArray, List.nil_append, List.cons_append]
 gi_wp2
 gi_loopw [7] (fun i wr => ∃ k : Nat, k ≤ zs.length ∧ i = .int .i64 k ∧ J (zs.take k) wr ∧ Below w0.heap.size w0 wr)
  (fun i _ => zs.length - (intOf i).toNat)
 case atStart => exact ⟨0, Nat.zero_le _, rfl, h0, hW⟩
 case round =>
  obtain ⟨k, hk, rfl, hJs, hB⟩ := hrel
  by_cases hlt : k < zs.length
  ·obtain ⟨ad, rfl, hcell⟩ := Kd.at_string (Kd.C_below hC hB) (k : Int) (by omega) (by omega)
   have hx : zs.take (k + 1) = zs.take k ++ [rdOf ByteArray.empty zs (k : Int)] := by
    rw [List.take_succ_eq_append_getElem hlt]; congr 1; simp [rdOf, List.getD, List.getElem?_eq_getElem hlt]
   generalize rdOf ByteArray.empty zs (k : Int) = y at hx hcell; simp only [Int.toNat_natCast] at hcell; obtain ⟨fn, tmps, assign, body, hy, hR⟩ := hY _ y wr hJs (by rw [List.length_take]; omega); have HX := am hx; have HC := am hC; clear hx hC
   gi_wp2
   refine hR.mono ?_; rintro e W3 (⟨rfl, hJ3, hk3⟩ | ⟨rfl, hJx3⟩)
   ·gi_wp2
    go_roundw
    case rel => exact ⟨k + 1, by omega, by simp, by rw [HX.out]; exact hJ3, hB.trans hk3⟩
    case measure => simp [intOf]; omega
   ·gi_wp2
    refine bodyPost_ret (results_none rfl _ _ _) rfl ?_
    exact ⟨⟨_, rfl⟩, .inr ⟨_, by rw [← HX.out]; exact List.take_prefix _ _, hJx3⟩⟩
  ·obtain rfl : k = zs.length := by omega
   gi_wp2
   go_end0
   exact ⟨⟨_, rfl⟩, .inl ⟨_, rfl, by rw [List.take_length] at hJs; exact hJs⟩⟩
theorem impl_set.values (a : Option Addr) (len cap : Nat) (w : World) :
  Calls Tryz.prog 221 #[.slice a len cap] w fun e w' => e = .returned (.func (.func 245) #[] #[.pointer (some ⟨w.heap.size, 0, none⟩)]) ∧ w' = w.alloc (.cells #[.slice a len cap] 31) := by
 go_enter Tryz.func221, Tryz.ntmps221
 go_wp2
 go_ret
 exact ⟨rfl, rfl⟩
theorem impl_set.infoE : (Tryz.prog.info? 9).map (fun i => (i.zero, i.size, i.bytes)) = some (some (.string ⟨#[]⟩), 1, 16) := by kernel_rfl
set_option maxRecDepth 100000 in
set_option maxHeartbeats 2000000 in
theorem impl_set.appendSeq (Bs : Nat) (A : Option Addr) (cap : Nat) (zs : List ByteArray) (hmax : zs.length * 16 ≤ 140737488351232) (w0 w : World) (hC : Kd.string.C w0 A zs.length zs) (hw : Below w0.heap.size w0 w) (hlt : Bs < w.heap.size) (hBs : w.cell? ⟨Bs, 0, none⟩ = some (.slice A zs.length cap)) :
  CallsIn Fence.wide 4 Tryz.prog 258 #[.slice none 0 0, .func (.func 245) #[] #[.pointer (some ⟨Bs, 0, none⟩)]] w fun e W' => ∃ v, e = .returned v ∧ W'.ownsRow w.heap.size 9 1 v zs.length (zs.map Value.string) ∧ (v = .slice none 0 0 ↔ zs = []) ∧ Below w.heap.size w W' := by
 have h1 : 1 ≤ 4 := by omega
 have hro : Fence.wide.round = none := rfl; obtain ⟨i0, hi, hz0, hz1, hz2⟩ := info_parts impl_set.infoE; refine callsIn_of_wp_marks Tryz.func258 rfl trivial ?_ rfl; simp only [Tryz.ntmps258, List.size_toArray, List.length_cons, List.length_nil, Nat.reduceAdd, Nat.reduceSub, Array.replicate_succ, Array.replicate_zero, List.push_toArray, List.append_toArray, List.nil_append, List.cons_append]
 gi_wp2
 have bO := Boxed.new w 31 (.slice none 0 0); have hB0 : Below w.heap.size w (w.alloc (.cells #[.slice none 0 0] 31)) := (Below.refl _ w).alloc (Nat.le_refl _) _
 have hstops : SeqStopsK Fence.wide 3 Tryz.prog 245 #[.pointer (some ⟨Bs, 0, none⟩)] (fun x : ByteArray => #[Value.string x]) (Below w0.heap.size) (fun ys => ys = zs) (fun pre => pre <+: zs) zs.length w := fun l J Jx W hW _ _ hY h0 =>
  impl_set.values1 Fence.wide 3 trivial rfl (by omega) l Bs A cap zs w0 hC J Jx hY W (hw.trans (hW.mono hw.size)) ((hW.cell (p := ⟨Bs, 0, none⟩) hlt).trans hBs) h0
 refine wpIn_rangeFunc_ownG hro h1 (gf := 245) (lb := #[.pointer (some ⟨Bs, 0, none⟩)]) rfl trivial (enters_of Tryz.func245 (by kernel_rfl) rfl)
  hstops belowK_t (belowK_b (by have := hw.size; simp; omega)) hB0 (fun _ => rfl)
  (fun pre W => (∃ v, Boxed W w.heap.size 31 v ∧ W.ownsRow w.heap.size 9 1 v pre.length (pre.map Value.string) ∧ (v = .slice none 0 0 ↔ pre = [])) ∧ Below w.heap.size w W)
  (fun _ _ _ => False)
  (OwnFrom.and (Own.from (holdsRow_own w.heap.size w.heap.size 31 9 1 (fun pre => pre.length) (fun pre => pre.map Value.string) (fun pre v => v = .slice none 0 0 ↔ pre = [])) _) (ownFrom_below (Nat.le_refl _) (by simp; try omega)))
  (fun _ _ _ _ _ hs _ _ => hs)
  ⟨⟨_, bO, World.ownsRow_nil _ _ _ _, by simp⟩, hB0⟩
  (fun x => { tmps := #[.slice none 0 0, .func (.func 245) #[] #[.pointer (some ⟨Bs, 0, none⟩)], .pointer (some ⟨w.heap.size, 0, none⟩), undef, .slice none 0 0, .string x, .func (.func 245) #[] #[.pointer (some ⟨Bs, 0, none⟩)], .string x, undef, undef, undef, undef, undef], defers := [] }) ?assign ?body ?done ?stop
 case assign =>
  intro l x W K hK
  gi_wp2
  exact hK
 case body =>
  rintro l pre x W ⟨⟨v, hv, hrow, hnil⟩, hB⟩ hlt; have hc := hv.cell
  gi_wp2_with (gi_at_builtin; refine wpListIn_append_own _ rfl _ _ 31 rfl w.heap.size 9 i0 (.string ⟨#[]⟩) 1 16 Tryz.underlying31 hi hz0 hz1 hz2 rfl (by decide) _ _ _ rfl (hrow.alloc _) ⟨W.heap.size, 0, none⟩ 1 1 [.string x] rfl rfl (cell_one_new _ _ _) (by simp [Value.oneCell']) (by unfold maxLen; omega) (by omega) (by have := hB.size; simp; omega) ?_; intro v' w1 hown' hgrow _; obtain ⟨g', cap', rfl⟩ := ownsRow_succ hown'; obtain ⟨hv1, hv2, hr2, hk2, hb2⟩ := hv.appended (by decide) hrow hB.size (Nat.le_refl _) hown' hgrow; have hc1 := hv1.cell; have hf1 := hv1.frozen)
  exact ⟨hk2.from _, hb2.mono hw.size, ⟨_, hv2, by simpa using hr2, by simp⟩, hB.trans hb2⟩
 case done =>
  rintro D ys W hD rfl ⟨⟨v, hv, hrow, hnil⟩, hB⟩ hK; have hc := hv.cell
  gi_wp2
  refine ⟨by simp, .inl ⟨_, _, rfl, run_takeDeferred hK, ?_⟩⟩
  exact ⟨_, results_tmp rfl _ _ _, v, rfl, ownsRow_putObj hrow _ hK rfl, hnil, hB.trans (belowK_b (w := w) (Nat.le_refl _) W D _ _ (by simp at hD; omega) hK rfl rfl)⟩
 case stop =>
  rintro D c pre W _ _ h _
  exact h.elim
theorem impl_set.collect (Bs : Nat) (A : Option Addr) (cap : Nat) (zs : List ByteArray) (hmax : zs.length * 16 ≤ 140737488351232) (w0 w : World) (hC : Kd.string.C w0 A zs.length zs) (hw : Below w0.heap.size w0 w) (hlt : Bs < w.heap.size) (hBs : w.cell? ⟨Bs, 0, none⟩ = some (.slice A zs.length cap)) :
  Calls Tryz.prog 243 #[.func (.func 245) #[] #[.pointer (some ⟨Bs, 0, none⟩)]] w fun e W' => ∃ v, e = .returned v ∧ W'.ownsRow w.heap.size 9 1 v zs.length (zs.map Value.string) ∧ (v = .slice none 0 0 ↔ zs = []) ∧ Below w.heap.size w W' := by
 have hap := callsIn_wide.1 (impl_set.appendSeq Bs A cap zs hmax w0 w hC hw hlt hBs)
 go_enter Tryz.func243, Tryz.ntmps243
 go_wp2_with (go_at_call 258; refine hap.mono ?_; rintro e W ⟨v, rfl, hrow, hnil, hb⟩)
 go_ret
 exact ⟨v, rfl, hrow, hnil, hb⟩
/-- What the set of words is: sorted, each once. -/
def impl_set.setOf (l : List ByteArray) : List ByteArray := (Lib.compact ((l.map (·.data.toList)).mergeSort fun x y => decide (x ≤ y))).map (fun s => (⟨s.toArray⟩ : ByteArray))
theorem impl_set.own_base {W : World} {base base' : Nat} {e : TypeId} {size : Nat} {v : Value} {k : Nat} {xs : List Value} (h : W.ownsRow base e size v k xs) (hb : base' ≤ base) : W.ownsRow base' e size v k xs :=
 ⟨h.1, h.2.imp id fun ⟨g, cap, cur, h1, h2, h3⟩ => ⟨g, cap, cur, h1, Nat.le_trans hb h2, h3⟩⟩
def impl_set.f (l0 : List ByteArray) : Option (List ByteArray) := if l0.length * 16 ≤ 140737488351232 then some (impl_set.setOf l0) else none
theorem impl_set.own_left {w w1 : World} {e : TypeId} {g cap n nn q : Nat} {os : Array Obj} {ss : List (List UInt8)} (hown : w1.ownsRow w.heap.size e 1 (.slice (some ⟨g, 0, none⟩) n cap) n (ss.map encStr)) (hbel : Below w.heap.size w w1) (hbg : w.heap.size ≤ g) (hlen : ss.length = n) :
  (putRow encStr (Sort.ahead (grow (putRow encStr (Sort.ahead w1 nn) g 0 (ss.mergeSort fun x y => decide (x ≤ y)).toArray) os) q) g 0 (Lib.compact (ss.mergeSort fun x y => decide (x ≤ y)) ++ List.replicate (n - (Lib.compact (ss.mergeSort fun x y => decide (x ≤ y))).length) []).toArray).ownsRow w.heap.size e 1 (.slice (some ⟨g, 0, none⟩) (Lib.compact (ss.mergeSort fun x y => decide (x ≤ y))).length cap) (Lib.compact (ss.mergeSort fun x y => decide (x ≤ y))).length ((Lib.compact (ss.mergeSort fun x y => decide (x ≤ y))).map encStr) ∧
  Below w.heap.size w (putRow encStr (Sort.ahead (grow (putRow encStr (Sort.ahead w1 nn) g 0 (ss.mergeSort fun x y => decide (x ≤ y)).toArray) os) q) g 0 (Lib.compact (ss.mergeSort fun x y => decide (x ≤ y)) ++ List.replicate (n - (Lib.compact (ss.mergeSort fun x y => decide (x ≤ y))).length) []).toArray) := by
 have hl2 : (ss.mergeSort fun x y => decide (x ≤ y)).length = ss.length := List.length_mergeSort ss; have hle := Lib.compact_length_le (ss.mergeSort fun x y => decide (x ≤ y)); subst hlen
 rcases hown.2 with ⟨h0, _⟩ | ⟨g', cap', cur, hv, hbase, hb, h1, h2, h3, h4⟩
 ·cases h0
 cases hv
 have hs := ownsRow_sorted (n := nn) (os := os) (ts := ss.mergeSort fun x y => decide (x ≤ y)) hl2 hbase hb h1 h2 h3; have hc := Lib.ownsRow_putRow (q := q) (k := (Lib.compact (ss.mergeSort fun x y => decide (x ≤ y))).length) (ys := Lib.compact (ss.mergeSort fun x y => decide (x ≤ y)) ++ List.replicate (ss.length - (Lib.compact (ss.mergeSort fun x y => decide (x ≤ y))).length) []) hs (by simp; omega) (by omega); rw [List.take_left] at hc
 exact ⟨hc, Lib.below_putRow (hbel.grown (grownBy_sorted _) hbel.size (fun j hj => by cases hj; exact hbase)) hbg⟩
set_option maxRecDepth 100000 in
set_option maxHeartbeats 2000000 in
theorem impl_set.calls (A : Option Addr) (c : Nat) (l0 r : List ByteArray) (w : World) (hr : Kd.string.C w A l0.length l0) (hc : l0.length ≤ c) (h : impl_set.f l0 = some r) :
  Calls Tryz.prog 206 #[.slice A l0.length c] w fun e w' => ∃ v0_ : Value, e = .returned v0_ ∧ Kd.R Kd.string 9 w' w.heap.size (fun _ => True) v0_ r ∧ Below w.heap.size w w' := by
 unfold impl_set.f at h
 by_cases hm : l0.length * 16 ≤ 140737488351232
 case neg => rw [if_neg hm] at h; cases h
 rw [if_pos hm] at h; obtain rfl := Option.some.inj h; clear h; have hB1 : Below w.heap.size w (w.alloc (.cells #[.slice A l0.length c] 31)) := (Below.refl _ w).alloc (Nat.le_refl _) _; have hcol := impl_set.collect w.heap.size A c l0 hm w (w.alloc (.cells #[.slice A l0.length c] 31)) hr hB1 (by simp) ((blk_cell (blk_new w (.cells #[.slice A l0.length c] 31)) 0).trans rfl); have X0 := am hr; clear hr; obtain ⟨ss, hss⟩ : ∃ ss, ss = l0.map (·.data.toList) := ⟨_, rfl⟩
 have hssl : ss.length = l0.length := by rw [hss]; simp
 have hsv : l0.map Value.string = ss.map encStr := by rw [hss, List.map_map]; rfl
 rw [hsv] at hcol
 have HSET : impl_set.setOf l0 = (Lib.compact (ss.mergeSort fun x y => decide (x ≤ y))).map (fun s => (⟨s.toArray⟩ : ByteArray)) := by unfold impl_set.setOf; rw [hss]
 have X1 := am HSET
 have hnil0 : l0 = [] ↔ ss = [] := by rw [hss]; simp
 have X2 := am hnil0; clear hss hsv HSET hnil0
 -- slices.Sorted, over what is collected
 have hsorted : Calls Tryz.prog 220 #[.func (.func 245) #[] #[.pointer (some ⟨w.heap.size, 0, none⟩)]] (w.alloc (.cells #[.slice A l0.length c] 31)) fun e W' =>
   (e = .returned (.slice none 0 0) ∧ ss = [] ∧ Below w.heap.size w W') ∨ (∃ (w1 : World) (g cap nn : Nat) (os : Array Obj), e = .returned (.slice (some ⟨g, 0, none⟩) ss.length cap) ∧ w1.ownsRow w.heap.size 9 1 (.slice (some ⟨g, 0, none⟩) ss.length cap) ss.length (ss.map encStr) ∧ Below w.heap.size w w1 ∧ w.heap.size ≤ g ∧ g < w1.heap.size ∧ ss.length ≤ cap ∧ Holds encStr w1 g 0 ss.toArray ∧ W' = grow (putRow encStr (Sort.ahead w1 nn) g 0 (ss.mergeSort fun x y => decide (x ≤ y)).toArray) os) := by
  go_enter Tryz.func220, Tryz.ntmps220
  go_wp2_with (go_at_call 243; refine hcol.mono ?_; rintro e W ⟨v, rfl, hrow, hnil, hb⟩)
  by_cases hv : v = .slice none 0 0
  ·have he := X2.out.1 (hnil.1 hv)
   subst hv; have hb2 : Below w.heap.size w W := hB1.trans (hb.mono (by simp)); have Y := am (And.intro he hb2); clear he hb hb2 hrow hnil; have hs0 := Tryz.slices_Sort_string_none none 0 W
   go_wp2_with (go_at_call 244; refine hs0.mono ?_; rintro e w' ⟨rfl, rfl⟩)
   go_ret
   exact .inl ⟨rfl, Y.out.1, Y.out.2⟩
  ·rw [← hssl] at hrow
   obtain ⟨g, cap, rfl, hbg, hgl, hncap, hcm, hlen2, hH⟩ := Lib.holds_of_ownsRow hrow hv; have hsort := Tryz.slices_Sort_string g 0 cap ss W hH hgl (by omega); have Y := am (And.intro (impl_set.own_base (base' := w.heap.size) hrow (by simp)) (And.intro (hB1.trans (hb.mono (by simp))) (And.intro (show w.heap.size ≤ g by simp at hbg; omega) (And.intro hgl (And.intro hncap hH))))); clear hrow hv hnil hb hbg hgl hncap hcm hH hlen2
   go_wp2_with (go_at_call 244; refine hsort.mono ?_; rintro e w2 ⟨rfl, nn, os, rfl⟩)
   go_ret
   exact .inr ⟨W, g, cap, nn, os, by rw [hssl]; rfl, Y.out.1, Y.out.2.1, Y.out.2.2.1, Y.out.2.2.2.1, Y.out.2.2.2.2.1, Y.out.2.2.2.2.2, rfl⟩
 have hcall : Calls Tryz.prog 220 #[.func (.func 245) #[] #[.pointer (some ⟨w.heap.size, 0, none⟩)]] (w.alloc (.cells #[.slice A l0.length c] 31)) fun e W' =>
   ∃ v, e = .returned v ∧ Calls Tryz.prog 219 #[v] W' fun e w' => ∃ v0_ : Value, e = .returned v0_ ∧ Kd.R Kd.string 9 w' w.heap.size (fun _ => True) v0_ (impl_set.setOf l0) ∧ Below w.heap.size w w' := by
  refine hsorted.mono ?_; rintro e W' (⟨rfl, he, hb⟩ | ⟨w1, g, cap, nn, os, rfl, hown, hb1, hbg, hgl, hncap, hH, rfl⟩)
  ·refine ⟨_, rfl, ?_⟩
   have h0 := Tryz.slices_Compact_string_empty none 0 W'; refine h0.mono ?_; rintro e w' ⟨rfl, rfl⟩; refine ⟨_, rfl, ?_, hb⟩; rw [X1.out, he]; rw [show Lib.compact (([] : List (List UInt8)).mergeSort fun x y => decide (x ≤ y)) = [] by rw [List.mergeSort_nil]; rfl]
   exact Kd.R_nil _ _ _ _ _
  ·refine ⟨_, rfl, ?_⟩
   have hl2 : (ss.mergeSort fun x y => decide (x ≤ y)).length = ss.length := List.length_mergeSort ss
   have hH2 : Holds encStr (grow (putRow encStr (Sort.ahead w1 nn) g 0 (ss.mergeSort fun x y => decide (x ≤ y)).toArray) os) g 0 (ss.mergeSort fun x y => decide (x ≤ y)).toArray :=
    holds_grow encStr _ os g 0 _ (by simpa [putRow, mapBlock, Sort.ahead] using hgl) (holds_putRow encStr _ g 0 _ _ (holds_ahead encStr w1 nn g 0 _ hH) (by simp))
   have hcomp := Tryz.slices_Compact_string g 0 cap (ss.mergeSort fun x y => decide (x ≤ y)) _ hH2 (by omega) (by omega); rw [hl2] at hcomp; refine hcomp.mono ?_; rintro e w3 ⟨rfl, q, rfl⟩; obtain ⟨h1, h2⟩ := impl_set.own_left (q := q) (nn := nn) (os := os) hown hb1 hbg rfl; refine ⟨_, rfl, ?_, h2⟩; rw [X1.out]; refine Kd.R_of_own (h1 := fun _ => rfl) ?_ (fun _ _ => trivial)
   have e1 : encs Value.string ((Lib.compact (ss.mergeSort fun x y => decide (x ≤ y))).map (fun s => (⟨s.toArray⟩ : ByteArray))) = (Lib.compact (ss.mergeSort fun x y => decide (x ≤ y))).map encStr := by
    simp [encs, encStr]
   rw [e1, List.length_map]
   exact h1
 clear hcol hsorted; have X3 := am hB1; clear hB1
 go_enter Tryz.func206, Tryz.ntmps206
 go_wp2_with (first
  | (go_at_call 221; refine (impl_set.values _ _ _ _).mono ?_; rintro e w' ⟨rfl, rfl⟩)
  | (go_at_call 220; refine hcall.mono ?_; rintro e w' ⟨v, rfl, hcomp⟩; clear hcall)
  | (go_at_call 219; refine hcomp.mono ?_; rintro e w' ⟨v3, rfl, h1, h2⟩; clear hcomp))
 go_ret
 exact ⟨v3, rfl, h1, h2⟩
end

end Go.Proofs.YtcplbbflfgckbaaGreatDoor.X


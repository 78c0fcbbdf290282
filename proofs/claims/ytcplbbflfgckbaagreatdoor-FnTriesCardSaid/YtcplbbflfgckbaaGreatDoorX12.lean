-- By gen.py (the session's own program over the kit's printer): functions of the program, each with its contract. Lean checks it.
import Derived.Test.YtcplbbflfgckbaaGreatDoorX5
import Derived.Test.YtcplbbflfgckbaaGreatDoorX9
namespace Go.Proofs.YtcplbbflfgckbaaGreatDoor.X
open Go.RowKit Go.Proofs.YtcplbbflfgckbaaGreatDoorW.PrintWords Go.Proofs.YtcplbbflfgckbaaGreatDoorW.PrintLast Go.Proofs.YtcplbbflfgckbaaGreatDoorW.PrintMore
attribute [local go_sem] max2_int min2_int max_two min_two max_three min_three max_four min_four   -- for this text's walks alone
set_option linter.unusedVariables false
set_option linter.unusedSimpArgs false
set_option maxHeartbeats 8000000
set_option maxRecDepth 100000

/-! ### spec_l2Put: function 149 -/
def spec_l2Put.l0 : Nat → List ByteArray → ByteArray → Int → Option (List ByteArray)
 | 0, _, _, _ => none
 | k + 1, x0, x1, x5 => if x5 < (x0.length : Int) then (if 0 ≤ x5 then ((spec_l2Before.f k (rdOf ByteArray.empty x0 x5) x1).bind fun t323 => (if t323 = true then (spec_l2Put.l0 k x0 x1 (wrap64 (x5 + 1))) else (if (rdOf ByteArray.empty x0 x5).toList = x1.toList then (some x0) else (if x5 ≤ (x0.length : Int) then ((spec_l2Own.f (x0.take (x5 : Int).toNat)).bind fun t330 => ((some (([x1] : List ByteArray) : List ByteArray)).bind fun y333 => (if t330.length + y333.length < 8796093022208 then ((some (t330 ++ y333 : List ByteArray)).bind fun y336 => ((some (x0.drop (x5 : Int).toNat : List ByteArray)).bind fun y339 => (if y336.length + y339.length < 8796093022208 then (some (y336 ++ y339)) else (none)))) else (none)))) else (none))))) else (none)) else (if 0 ≤ x5 then (if x5 ≤ (x0.length : Int) then ((spec_l2Own.f (x0.take (x5 : Int).toNat)).bind fun t352 => ((some (([x1] : List ByteArray) : List ByteArray)).bind fun y355 => (if t352.length + y355.length < 8796093022208 then ((some (t352 ++ y355 : List ByteArray)).bind fun y358 => ((some (x0.drop (x5 : Int).toNat : List ByteArray)).bind fun y361 => (if y358.length + y361.length < 8796093022208 then (some (y358 ++ y361)) else (none)))) else (none)))) else (none)) else (none))
def spec_l2Put.f (k : Nat) (l0 : List ByteArray) (a1 : ByteArray) : Option (List ByteArray) := spec_l2Put.l0 k l0 a1 0
def spec_l2Put.T6 : Bool × List (List Nat × List Nat) := (true, [([], []), ([], []), ([0, 1], [0, 1]), ([2], [2]), ([], []), ([4], [4]), ([3, 5, 3], [3, 5]), ([], []), ([], []), ([7, 8], [7, 8]), ([6, 9, 6], [6, 9]), ([10, 10, 0, 1, 2, 3, 4, 5, 6, 7, 8, 9, 10], [10])])
def spec_l2Put.B6 : List Nat := [0, 0, 3, 7, 0, 16, 63, 0, 0, 384, 1023, 2047]
theorem spec_l2Put.tab6 : rtab .any (opsOf Tryz.f149 6) = spec_l2Put.T6 := by kernel_rfl
theorem spec_l2Put.bits6 : waitsOk spec_l2Put.T6.2 spec_l2Put.B6 = true := by kernel_rfl
theorem spec_l2Put.calls (k : Nat) (P0_ : Nat → Prop) (A0 : Option Addr) (c0 : Nat) (l0 : List ByteArray) (a1 : ByteArray) (r : List ByteArray) (w : World) (hs0 : Kd.V Kd.string 9 w w.heap.size (fun k_ => P0_ k_) (.slice A0 l0.length c0) l0) (h : spec_l2Put.f k l0 a1 = some r) :
  Calls Tryz.prog 149 #[.slice A0 l0.length c0, .string a1] w fun e w' => ∃ v0_ : Value, e = .returned (v0_) ∧ Kd.V Kd.string 9 w' w.heap.size (fun k_ => (P0_ k_ ∨ w.heap.size ≤ k_)) v0_ r ∧ Below w.heap.size w w' := by
 have HO0 := am (show Kd.V Kd.string 9 w w.heap.size (fun k_ => (P0_ k_ ∨ w.heap.size ≤ k_)) (.slice A0 l0.length c0) l0 from Kd.V_mono hs0 (fun k_ hk => .inl hk)); have HB := am (Below.refl w.heap.size w)
 unfold spec_l2Put.f at h
 have H := h; clear h; have H' := am H; clear H
 go_enter Tryz.func149, Tryz.ntmps149
 go_wp2
 go_loopg [5] k (fun kq v5 w' => ∃ (x5_1 : Int), v5 = .int .i64 x5_1 ∧ Aside0 (spec_l2Put.l0 kq l0 a1 x5_1 = some r) ∧ Aside0 (kq ≤ k) ∧ Aside0 (Kd.V Kd.string 9 w' w.heap.size (fun k_ => (P0_ k_ ∨ w.heap.size ≤ k_)) (.slice A0 l0.length c0) l0) ∧ Aside0 (Below w.heap.size w w'))
 case atStart => exact ⟨(0), ax18, H', ⟨Nat.le_refl _⟩, ⟨(by (with_reducible repeat (first | apply Kd.V_alloc | apply Kd.V_drewN | apply Kd.V_drew)); exact HO0.out)⟩, ⟨aL⟩⟩
 case round =>
  clear H'; (try clear c0); obtain ⟨x5_1, rfl, HA, HK1, HO_0, HB⟩ := hrel
  cases gk with
  | zero => exact absurd HA.out (by simp [spec_l2Put.l0])
  | succ k1 =>
   have H := HA.out; clear HA; simp only [spec_l2Put.l0] at H
   by_cases c3 : x5_1 < (l0.length : Int)
   ·rw [if_pos c3] at H
    have c3b0 := decide_eq_true c3; clear c3
    by_cases c4 : 0 ≤ x5_1
    ·rw [if_pos c4] at H
     have c4b0 := decide_eq_true c4; clear c4; obtain ⟨t323, A5, H⟩ := bs H
     by_cases c6 : t323 = true
     ·subst c6
      rw [if_pos rfl] at H; have H' := am H; clear H; have p322 : 0 ≤ (x5_1 : Int) := of_decide_eq_true ax23; have q322 : x5_1 < (l0.length : Int) := of_decide_eq_true ax23; obtain ⟨ad322, e322, hx322_0⟩ := Kd.at_string (Kd.V_reads' HO_0.out).2.2 x5_1 p322 q322
      cases e322
      replace p322 := eq_true p322; replace q322 := eq_true q322
      go_wp2_with (first | (go_at_call 170; (with_reducible refine (spec_l2Before.calls k1 (rdOf ByteArray.empty l0 x5_1) a1 true _ A5.out).mono ?_); rintro e w' ⟨rfl, ⟨nd, rfl⟩⟩))
      go_roundg k1
      case measure => have := HK1.out; omega
      case rel => exact ⟨(wrap64 (x5_1 + 1)), ax18, H', ⟨by have := HK1.out; omega⟩, ⟨ax62⟩, ⟨aL⟩⟩
     ·replace c6 := Bool.eq_false_iff.mpr c6
      subst c6; rw [if_neg (show ¬ (false = true) by decide)] at H
      by_cases c7 : (rdOf ByteArray.empty l0 x5_1).toList = a1.toList
      ·rw [if_pos c7] at H
       have c7b0 := beq_iff_eq.mpr c7; have c7b1 := bne_eq_false_iff_eq.mpr c7; clear c7; obtain rfl := Option.some.inj H; have p322 : 0 ≤ (x5_1 : Int) := of_decide_eq_true ax23; have q322 : x5_1 < (l0.length : Int) := of_decide_eq_true ax23; obtain ⟨ad322, e322, hx322_0⟩ := Kd.at_string (Kd.V_reads' HO_0.out).2.2 x5_1 p322 q322
       cases e322
       replace p322 := eq_true p322; replace q322 := eq_true q322
       go_wp2_with (first | (go_at_call 170; (with_reducible refine (spec_l2Before.calls k1 (rdOf ByteArray.empty l0 x5_1) a1 false _ A5.out).mono ?_); rintro e w' ⟨rfl, ⟨nd, rfl⟩⟩; have p324 : 0 ≤ (x5_1 : Int) := of_decide_eq_true ax23; have q324 : x5_1 < (l0.length : Int) := of_decide_eq_true ax23; obtain ⟨ad324, e324, hx324_0⟩ := Kd.at_string (Kd.V_reads' HO_0.out).2.2 x5_1 p324 q324; obtain rfl : ad322 = ad324 := (by injection e324); replace p324 := eq_true p324; replace q324 := eq_true q324))
       go_ret
       exact ⟨_, ax21, ax62, aL⟩
      ·rw [if_neg c7] at H
       have c7b0 := beq_eq_false_iff_ne.mpr c7; have c7b1 := bne_iff_ne.mpr c7; have c8b0 := eq_true (of_decide_eq_true ax23 : 0 ≤ x5_1)
       by_cases c9 : x5_1 ≤ (l0.length : Int)
       ·rw [if_pos c9] at H
        have c9b0 := eq_true c9; have c9b1 := decide_eq_true c9; clear c9; obtain ⟨y325, hy325⟩ : ∃ y_ : List ByteArray, y_ = (l0.take (x5_1 : Int).toNat) := ⟨_, rfl⟩
        replace H : ((spec_l2Own.f y325).bind fun t330 => ((some (([a1] : List ByteArray) : List ByteArray)).bind fun y333 => (if t330.length + y333.length < 8796093022208 then ((some (t330 ++ y333 : List ByteArray)).bind fun y336 => ((some (l0.drop (x5_1 : Int).toNat : List ByteArray)).bind fun y339 => (if y336.length + y339.length < 8796093022208 then (some (y336 ++ y339)) else (none)))) else (none)))) = some r := by first | (rw [hy325]; with_reducible exact H) | (have H2_ := (Option.bind_some _ _).symm.trans H; rw [hy325]; with_reducible exact H2_) | (have H2_ := (Option.bind_some _ _).symm.trans H; with_reducible exact H2_) | with_reducible exact H | (rw [hy325]; exact H) | exact H
        have Ny325 := am hy325; clear hy325; obtain ⟨t330, A10, H⟩ := bs H; obtain ⟨y333, hy333⟩ : ∃ y_ : List ByteArray, y_ = (([a1] : List ByteArray)) := ⟨_, rfl⟩
        replace H : (if t330.length + y333.length < 8796093022208 then ((some (t330 ++ y333 : List ByteArray)).bind fun y336 => ((some (l0.drop (x5_1 : Int).toNat : List ByteArray)).bind fun y339 => (if y336.length + y339.length < 8796093022208 then (some (y336 ++ y339)) else (none)))) else (none)) = some r := by first | (rw [hy333]; with_reducible exact H) | (have H2_ := (Option.bind_some _ _).symm.trans H; rw [hy333]; with_reducible exact H2_) | (have H2_ := (Option.bind_some _ _).symm.trans H; with_reducible exact H2_) | with_reducible exact H | (rw [hy333]; exact H) | exact H
        have Ny333 := am hy333; clear hy333
        by_cases c11 : t330.length + y333.length < 8796093022208
        ·rw [if_pos c11] at H
         have LMc11 := am c11; clear c11; obtain ⟨y336, hy336⟩ : ∃ y_ : List ByteArray, y_ = (t330 ++ y333) := ⟨_, rfl⟩
         replace H : ((some (l0.drop (x5_1 : Int).toNat : List ByteArray)).bind fun y339 => (if y336.length + y339.length < 8796093022208 then (some (y336 ++ y339)) else (none))) = some r := by first | (rw [hy336]; with_reducible exact H) | (have H2_ := (Option.bind_some _ _).symm.trans H; rw [hy336]; with_reducible exact H2_) | (have H2_ := (Option.bind_some _ _).symm.trans H; with_reducible exact H2_) | with_reducible exact H | (rw [hy336]; exact H) | exact H
         have Ny336 := am hy336; clear hy336; have c12b0 := eq_true (of_decide_eq_true ax23 : 0 ≤ x5_1); have c13b0 := eq_true (of_decide_eq_true ax23 : x5_1 ≤ (l0.length : Int)); obtain ⟨y339, hy339⟩ : ∃ y_ : List ByteArray, y_ = (l0.drop (x5_1 : Int).toNat) := ⟨_, rfl⟩
         replace H : (if y336.length + y339.length < 8796093022208 then (some (y336 ++ y339)) else (none)) = some r := by first | (rw [hy339]; with_reducible exact H) | (have H2_ := (Option.bind_some _ _).symm.trans H; rw [hy339]; with_reducible exact H2_) | (have H2_ := (Option.bind_some _ _).symm.trans H; with_reducible exact H2_) | with_reducible exact H | (rw [hy339]; exact H) | exact H
         have Ny339 := am hy339; clear hy339
         by_cases c14 : y336.length + y339.length < 8796093022208
         ·rw [if_pos c14] at H
          have LMc14 := am c14; clear c14; obtain ⟨y344, hy344⟩ : ∃ y_ : List ByteArray, y_ = (y336 ++ y339) := ⟨_, rfl⟩
          replace H : (some y344) = some r := by first | (rw [hy344]; with_reducible exact H) | (have H2_ := (Option.bind_some _ _).symm.trans H; rw [hy344]; with_reducible exact H2_) | (have H2_ := (Option.bind_some _ _).symm.trans H; with_reducible exact H2_) | with_reducible exact H | (rw [hy344]; exact H) | exact H
          have Ny344 := am hy344; clear hy344; obtain rfl := Option.some.inj H; have p322 : 0 ≤ (x5_1 : Int) := of_decide_eq_true ax23; have q322 : x5_1 < (l0.length : Int) := of_decide_eq_true ax23; obtain ⟨ad322, e322, hx322_0⟩ := Kd.at_string (Kd.V_reads' HO_0.out).2.2 x5_1 p322 q322
          cases e322
          replace p322 := eq_true p322; replace q322 := eq_true q322
          try go_wp2_with (first | (go_at_call 170; (with_reducible refine (spec_l2Before.calls k1 (rdOf ByteArray.empty l0 x5_1) a1 false _ A5.out).mono ?_); rintro e w' ⟨rfl, ⟨nd, rfl⟩⟩; have p324 : 0 ≤ (x5_1 : Int) := of_decide_eq_true ax23; have q324 : x5_1 < (l0.length : Int) := of_decide_eq_true ax23; obtain ⟨ad324, e324, hx324_0⟩ := Kd.at_string (Kd.V_reads' HO_0.out).2.2 x5_1 p324 q324; obtain rfl : ad322 = ad324 := (by injection e324); replace p324 := eq_true p324; replace q324 := eq_true q324))
          (try (rw [drewN_self wr]; generalize hq_ : World.drewN wr _ = wr; have n0_ : Aside0 (Kd.V Kd.string 9 wr w.heap.size (fun k_ => (P0_ k_ ∨ w.heap.size ≤ k_)) (.slice (some ad322) l0.length c0) l0) := ⟨(by rw [← hq_]; exact ax62)⟩; have n1_ := qL HB hq_; clear HO_0 HB hq_; have HO_0 := n0_; have HB := n1_; clear n0_ n1_)); replace HO_0 := am (Kd.V_drew HO_0.out); replace HB := am (below_drew1 HB.out); have q16 : (x5_1 : Int) ≤ ((l0.length : Int) : Int) := of_decide_eq_true ax23; obtain ⟨i016, hi016, _, hsz16, _⟩ := info_parts info9; have hroom16 : l0.length ≤ c0 := (Kd.V_reads' HO_0.out).2.1; have hC16 : Kd.F Kd.string _ _ (some ad322) l0.length l0 := (Kd.V_at (base := w.heap.size) HO_0.out).2.2; have hcut16 := cut_to (P := Tryz.prog) 31 9 .i64 Tryz.underlying31 hi016 (some ad322) l0.length c0 x5_1 (of_decide_eq_true ax23) q16 hroom16; have hr16 := Kd.F_take (m := (x5_1 : Int).toNat) hC16 (by omega); have hy16 : y325.length = (x5_1 : Int).toNat := (by rw [Ny325.out, List.length_take]; omega); rw [← Ny325.out] at hr16; rw [← hy16] at hcut16; have HO329 := am (show Kd.V Kd.string 9 _ w.heap.size _ (.slice (some ad322) y325.length c0) y325 from Kd.V_mk (by omega) hr16); have HC329 := am (show y325.length ≤ c0 from by omega); clear hr16 hC16 hroom16 hi016 hsz16; have KY16 := am hy16; clear hy16; replace q16 := eq_true q16; have q17 : (x5_1 : Int) ≤ ((l0.length : Int) : Int) := of_decide_eq_true ax23; obtain ⟨i017, hi017, _, hsz17, _⟩ := info_parts info9; have hroom17 : l0.length ≤ c0 := (Kd.V_reads' HO_0.out).2.1; have hC17 : Kd.F Kd.string _ _ (some ad322) l0.length l0 := (Kd.V_at (base := w.heap.size) HO_0.out).2.2; have q017 : (0 : Int) ≤ (x5_1 : Int) := of_decide_eq_true ax23; have hcut17 := cut_from (P := Tryz.prog) 31 9 .i64 Tryz.underlying31 hi017 1 hsz17 (some ad322) l0.length c0 x5_1 q017 q17; have hr17 := Kd.F_cut (m := (x5_1 : Int).toNat) (c := c0) hC17 (by omega) hroom17; obtain ⟨A17, hA17⟩ : ∃ A1, A1 = (if c0 = (x5_1 : Int).toNat then (some ad322) else ((some ad322) : Option Addr).map (·.add ((x5_1 : Int).toNat * 1))) := ⟨_, rfl⟩; obtain ⟨c17, hc17⟩ : ∃ c1, c1 = c0 - (x5_1 : Int).toNat := ⟨_, rfl⟩; have hy17 : y339.length = l0.length - (x5_1 : Int).toNat := (by rw [Ny339.out, List.length_drop] <;> omega); rw [show (l0).drop (x5_1 : Int).toNat = y339 from Ny339.out.symm] at hr17; replace hr17 : Kd.F Kd.string _ _ A17 y339.length y339 := (by rw [hA17]; exact hr17); rw [← hy17, ← hA17, ← hc17] at hcut17; have HO343 := am (show Kd.V Kd.string 9 _ w.heap.size _ (.slice A17 y339.length c17) y339 from Kd.V_mk (by rw [hy17, hc17]; exact Nat.sub_le_sub_right hroom17 _) hr17); have HC343 := am (show y339.length ≤ c17 from by rw [hy17, hc17]; exact Nat.sub_le_sub_right hroom17 _); clear hr17 hC17 hroom17 hi017 hsz17 hc17; have KY17 := am hy17; have KA17 := am hA17; clear hy17 hA17; replace q17 := eq_true q17; refine start_ (n := 12) (S := fun w' => True) (ds := []) (ob 12 0) (by kernel_rfl) rfl rfl trivial (fun hHeld => ?_); refine with_tabW spec_l2Put.tab6 spec_l2Put.bits6 (fun HT_ HW_ => ?_); generalize wr.drew = w15 at HO_0 HB HO329 HO343 hHeld ⊢; refine pu 0 33 ?_; refine pu 1 34 ?_; refine pu 2 35 ?_; refine pu 4 37 ?_; refine pu 7 40 ?_; refine pu 8 41 ?_; refine pu 9 42 ?_; refine join_ (σ := Value × Value) 3 (ob 12 959) (fun s_ => [(36, s_.1), (38, s_.2)]) (fun s_ w' => (Kd.V Kd.string 9 w' w.heap.size (fun k_ => (P0_ k_ ∨ w.heap.size ≤ k_) ∧ some k_ ≠ (s_.1 : Value).ownBlock ∧ some k_ ≠ (s_.2 : Value).ownBlock) (.slice (some ad322) y325.length c0) y325) ∧ (Kd.R Kd.string 9 w' w.heap.size (fun k_ => (w.heap.size ≤ k_) ∧ some k_ ≠ (s_.2 : Value).ownBlock) s_.1 t330) ∧ (Kd.R Kd.string 9 w' w.heap.size (fun k_ => (w.heap.size ≤ k_) ∧ some k_ ≠ (s_.1 : Value).ownBlock) s_.2 y333) ∧ (Kd.V Kd.string 9 w' w.heap.size (fun k_ => (P0_ k_ ∨ w.heap.size ≤ k_) ∧ some k_ ≠ (s_.1 : Value).ownBlock ∧ some k_ ≠ (s_.2 : Value).ownBlock) (.slice A17 y339.length c17) y339) ∧ (Kd.V Kd.string 9 w' w.heap.size (fun k_ => (P0_ k_ ∨ w.heap.size ≤ k_) ∧ some k_ ≠ (s_.1 : Value).ownBlock ∧ some k_ ≠ (s_.2 : Value).ownBlock) (.slice (some ad322) l0.length c0) l0) ∧ (Below w.heap.size w w')) ?_ ?_
          rotate_left
          ·intro hCont
           refine two_ (i := 3) (j := 5) (Ni := some 36) (Nj := some 38) (ob 12 927) (ob 12 951) rfl rfl rfl rfl (two_of HT_.out (by kernel_rfl)) (by decide) (by decide) (fun K hK => ?_) (fun K hK => ?_)
           ·skip
            refine goes_ Tryz.func154 (by kernel_rfl) rfl #[.slice (some ad322) y325.length c0] (by rfl) rfl rfl ax26 ?_
            with_reducible refine (spec_l2Own.calls _ _ y325 t330 _ ?side1 ?side2 A10.out).mono ?_
            (case side1 => exact ax63)
            (case side2 => exact (Kd.V_reads' HO329.out).2.1)
            rintro e w18 ⟨v331, rfl, ho0, hb⟩; refine ⟨_, rfl, ?_⟩; replace HO_0 := am (Kd.V_elder' ax62 (Kd.R_base ho0) hb); replace HO329 := am (Kd.V_elder' ax64 (Kd.R_base ho0) hb); replace HO343 := am (Kd.V_elder' ax65 (Kd.R_base ho0) hb); have HO332 := am (Kd.R_lower (Kd.R_newM (M := fun k_ => (w.heap.size ≤ k_)) ho0 (bS HB) (fun k_ h_ => h_)) (bS HB)); replace HB := uB HB hb; (try clear hb); (try clear hb2); (try clear hk); (try clear hi); (try clear ho0); refine hK.out _ _ trivial (fun hHeld => ?_); clear hK K; refine nm 36 ?_; refine one_ (i := 5) (N := some 38) (ob 12 959) rfl rfl (one_of HT_.out (by kernel_rfl)) (by decide) (fun K hK => ?_); refine Kd.R_lit_step Kd.string _ 9 ?hg (N := 38) ?hd (xs := ([a1] : List ByteArray)) (inner := [.string a1]) (ok := fun _ => True) (okp := fun _ => True) ?hr ?hp (fun _ hk => hk) trivial (Below.refl _ _) (Nat.le_refl _) (by simp) ?_; (case hd => rfl); (case hg => rfl); (case hr => exact ax20); (case hp => exact ax66); intro v334 w19 ho20 hb hg_ hnew_; clear hg_ hnew_; (first | rw [← Ny333.out] at ho20 | (simp only [Int.reduceToNat] at ho20; rw [← Ny333.out] at ho20)); replace HO_0 := am (Kd.V_elder' ax62 (Kd.R_base ho20) hb); replace HO329 := am (Kd.V_elder' ax64 (Kd.R_base ho20) hb); replace HO343 := am (Kd.V_elder' ax65 (Kd.R_base ho20) hb); have HO335 := am (Kd.R_lower (Kd.R_new' (Kd.R_newM (M := fun k_ => (w.heap.size ≤ k_)) ho20 (bS HB) (fun k_ h_ => h_)) (Kd.R_lt (rX HO332))) (bS HB)); replace HO332 := am (Kd.R_elder' (rX HO332) (Kd.R_base ho20) hb); replace HB := uB HB hb; clear hb ho20; refine hK.out _ _ trivial (fun hHeld => ?_); clear hK K; refine nm 38 ?_
            exact norm_ ax67 (hCont (v331, v334) _ ⟨(by (with_reducible repeat (first | apply Kd.V_alloc | apply Kd.V_drewN | apply Kd.V_drew)); exact Kd.V_mono HO329.out (fun _ hk => ⟨hk.1.1, ⟨hk.1.2, hk.2⟩⟩)), ax68, ax69, (by (with_reducible repeat (first | apply Kd.V_alloc | apply Kd.V_drewN | apply Kd.V_drew)); exact Kd.V_mono HO343.out (fun _ hk => ⟨hk.1.1, ⟨hk.1.2, hk.2⟩⟩)), ax70, aL⟩)
           ·skip
            refine Kd.R_lit_step Kd.string _ 9 ?hg (N := 38) ?hd (xs := ([a1] : List ByteArray)) (inner := [.string a1]) (ok := fun _ => True) (okp := fun _ => True) ?hr ?hp (fun _ hk => hk) trivial (Below.refl _ _) (Nat.le_refl _) (by simp) ?_; (case hd => rfl); (case hg => rfl); (case hr => exact ax20); (case hp => exact ax66); intro v334 w18 ho19 hb hg_ hnew_; clear hg_ hnew_; (first | rw [← Ny333.out] at ho19 | (simp only [Int.reduceToNat] at ho19; rw [← Ny333.out] at ho19)); replace HO_0 := am (Kd.V_elder' ax62 (Kd.R_base ho19) hb); replace HO329 := am (Kd.V_elder' ax64 (Kd.R_base ho19) hb); replace HO343 := am (Kd.V_elder' ax65 (Kd.R_base ho19) hb); have HO335 := am (Kd.R_lower (Kd.R_newM (M := fun k_ => (w.heap.size ≤ k_)) ho19 (bS HB) (fun k_ h_ => h_)) (bS HB)); replace HB := uB HB hb; clear hb ho19; refine hK.out _ _ trivial (fun hHeld => ?_); clear hK K; refine nm 38 ?_; refine one_ (i := 3) (N := some 36) (ob 12 959) rfl rfl (one_of HT_.out (by kernel_rfl)) (by decide) (fun K hK => ?_); refine goes_ Tryz.func154 (by kernel_rfl) rfl #[.slice (some ad322) y325.length c0] (by rfl) rfl rfl ax26 ?_
            with_reducible refine (spec_l2Own.calls _ _ y325 t330 _ ?side1 ?side2 A10.out).mono ?_
            (case side1 => exact ax63)
            (case side2 => exact (Kd.V_reads' HO329.out).2.1)
            rintro e w20 ⟨v331, rfl, ho0, hb⟩; refine ⟨_, rfl, ?_⟩; replace HO_0 := am (Kd.V_elder' ax62 (Kd.R_base ho0) hb); replace HO329 := am (Kd.V_elder' ax64 (Kd.R_base ho0) hb); replace HO343 := am (Kd.V_elder' ax65 (Kd.R_base ho0) hb); have HO332 := am (Kd.R_lower (Kd.R_new' (Kd.R_newM (M := fun k_ => (w.heap.size ≤ k_)) ho0 (bS HB) (fun k_ h_ => h_)) (Kd.R_lt (rX HO335))) (bS HB)); replace HO335 := am (Kd.R_elder' (rX HO335) (Kd.R_base ho0) hb); replace HB := uB HB hb; (try clear hb); (try clear hb2); (try clear hk); (try clear hi); (try clear ho0); refine hK.out _ _ trivial (fun hHeld => ?_); clear hK K; refine nm 36 ?_
            exact norm_ ax67 (hCont (v331, v334) _ ⟨(by (with_reducible repeat (first | apply Kd.V_alloc | apply Kd.V_drewN | apply Kd.V_drew)); exact Kd.V_mono HO329.out (fun _ hk => ⟨hk.1.1, ⟨hk.2, hk.1.2⟩⟩)), ax68, ax69, (by (with_reducible repeat (first | apply Kd.V_alloc | apply Kd.V_drewN | apply Kd.V_drew)); exact Kd.V_mono HO343.out (fun _ hk => ⟨hk.1.1, ⟨hk.2, hk.1.2⟩⟩)), ax71, aL⟩)
          rintro ⟨v331, v334⟩ w21 ⟨h0_, h1_, h2_, h3_, h4_, h5_⟩; have n0_ : Aside0 (Kd.V Kd.string 9 w21 w.heap.size (fun k_ => (P0_ k_ ∨ w.heap.size ≤ k_) ∧ some k_ ≠ (v331 : Value).ownBlock ∧ some k_ ≠ (v334 : Value).ownBlock) (.slice (some ad322) y325.length c0) y325) := ⟨h0_⟩; have n1_ : Aside0 (Kd.R Kd.string 9 w21 w.heap.size (fun k_ => (w.heap.size ≤ k_) ∧ some k_ ≠ (v334 : Value).ownBlock) v331 t330) := ⟨h1_⟩; have n2_ : Aside0 (Kd.R Kd.string 9 w21 w.heap.size (fun k_ => (w.heap.size ≤ k_) ∧ some k_ ≠ (v331 : Value).ownBlock) v334 y333) := ⟨h2_⟩; have n3_ : Aside0 (Kd.V Kd.string 9 w21 w.heap.size (fun k_ => (P0_ k_ ∨ w.heap.size ≤ k_) ∧ some k_ ≠ (v331 : Value).ownBlock ∧ some k_ ≠ (v334 : Value).ownBlock) (.slice A17 y339.length c17) y339) := ⟨h3_⟩; have n4_ : Aside0 (Kd.V Kd.string 9 w21 w.heap.size (fun k_ => (P0_ k_ ∨ w.heap.size ≤ k_) ∧ some k_ ≠ (v331 : Value).ownBlock ∧ some k_ ≠ (v334 : Value).ownBlock) (.slice (some ad322) l0.length c0) l0) := ⟨h4_⟩; have n5_ : Aside0 (Below w.heap.size w w21) := ⟨h5_⟩; clear HO_0; clear HB; clear h0_ h1_ h2_ h3_ h4_ h5_; have HO329 := n0_; have HO332 := n1_; have HO335 := n2_; have HO343 := n3_; have HO_0 := n4_; have HB := n5_; clear n0_ n1_ n2_ n3_ n4_ n5_; have hHeld := trivial; obtain ⟨Ao23, co23, eo23⟩ := Kd.R_slice HO335.out; (first | subst eo23 | (injection eo23 with f1_ f2_ f3_; have f4_ := f1_.symm; have f5_ := f3_.symm; clear f1_ f2_ f3_; subst f4_; subst f5_)); refine norm_ (a' := ?_) ?_ ?_
          rotate_left
          ·exact ax16
          refine one_ (i := 6) (N := some 39) (ob 12 1023) rfl rfl (one_of HT_.out (by kernel_rfl)) (by decide) (fun K hK => ?_); refine Kd.R_append_rows_step Kd.string (w0 := w) w.heap.size (by rfl) (.tmp 36) (.tmp 38) 31 9 (.string ⟨#[]⟩) 16 rfl Tryz.underlying31 info9 rfl (by decide) (by omega) v331 t330 y333 _ _ _ (fun k_ => (w.heap.size ≤ k_) ∧ some k_ ≠ (.slice Ao23 y333.length co23 : Value).ownBlock) (fun _ => False) rfl rfl ?aO ?aR (fun _ _ h => h) (fun _ h => h.elim) ?aF ?aB ?aS ?aL ?_
          (case aR => repeat (first | exact (Kd.R_reads' HO335.out).2.2 | (with_reducible refine Kd.C_alloc ?_ _) | (with_reducible refine Kd.C_drewN ?_ _) | (with_reducible refine Kd.C_drew ?_)))
          (case aB => exact aL)
          (case aF => exact ax72)
          (case aO => exact (rX HO332))
          (case aS => exact ax28)
          (case aL => have := LMc11.out; omega)
          intro v337 w22 ho hb hg hat; rw [← Ny336.out] at ho; have n0_ := am (Kd.V_afterv (ok := (fun k_ => (P0_ k_ ∨ w.heap.size ≤ k_) ∧ some k_ ≠ (.slice Ao23 y333.length co23 : Value).ownBlock)) ax73 hg hat); have n1_ := am (Kd.V_afterv (ok := (fun k_ => (P0_ k_ ∨ w.heap.size ≤ k_) ∧ some k_ ≠ (.slice Ao23 y333.length co23 : Value).ownBlock)) (by (with_reducible repeat (first | apply Kd.V_alloc | apply Kd.V_drewN | apply Kd.V_drew)); exact Kd.V_mono HO329.out (fun _ hk => ⟨⟨hk.1, hk.2.2⟩, hk.2.1⟩)) hg hat); have n2_ := am (Kd.V_afterv (ok := (fun k_ => (P0_ k_ ∨ w.heap.size ≤ k_) ∧ some k_ ≠ (.slice Ao23 y333.length co23 : Value).ownBlock)) (by (with_reducible repeat (first | apply Kd.V_alloc | apply Kd.V_drewN | apply Kd.V_drew)); exact Kd.V_mono HO343.out (fun _ hk => ⟨⟨hk.1, hk.2.2⟩, hk.2.1⟩)) hg hat); have n3_ := am (Kd.R_after (ok := (fun k_ => (w.heap.size ≤ k_))) (rX HO335) hg hat); have n4_ := am (hb); have n5_ := am (ho); clear HO_0; clear HO329; clear HO343; clear HO335; clear HB; clear HO332; have HO_0 := n0_; have HO329 := n1_; have HO343 := n2_; have HO335 := n3_; have HB := n4_; have HO338 := n5_; clear n0_ n1_ n2_ n3_ n4_ n5_; clear ho hb hg hat; refine hK.out _ _ trivial (fun hHeld => ?_); clear hK K; refine nm 39 ?_; refine one_ (i := 10) (N := some 43) (ob 12 2047) rfl rfl (one_of HT_.out (by kernel_rfl)) (by decide) (fun K hK => ?_); refine Kd.R_append_rows_step Kd.string (w0 := w) w.heap.size (by rfl) (.tmp 39) (.tmp 42) 31 9 (.string ⟨#[]⟩) 16 rfl Tryz.underlying31 info9 rfl (by decide) (by omega) v337 y336 y339 _ _ _ (fun k_ => (w.heap.size ≤ k_) ∧ some k_ ≠ (.slice Ao23 y333.length co23 : Value).ownBlock) (fun _ => False) rfl rfl ?aO ?aR (fun _ _ h => h) (fun _ h => h.elim) ?aF ?aB ?aS ?aL ?_
          (case aR => repeat (first | exact (Kd.V_reads' HO343.out).2.2 | (with_reducible refine Kd.C_alloc ?_ _) | (with_reducible refine Kd.C_drewN ?_ _) | (with_reducible refine Kd.C_drew ?_)))
          (case aB => exact aL)
          (case aF => exact ax72)
          (case aO => exact (rX HO338))
          (case aS => exact ax28)
          (case aL => have := LMc14.out; omega)
          intro v345 w24 ho hb hg hat; rw [← Ny344.out] at ho; have n0_ := am (Kd.V_afterv (ok := (fun k_ => (P0_ k_ ∨ w.heap.size ≤ k_) ∧ some k_ ≠ (.slice Ao23 y333.length co23 : Value).ownBlock)) ax62 hg hat); have n1_ := am (Kd.V_afterv (ok := (fun k_ => (P0_ k_ ∨ w.heap.size ≤ k_) ∧ some k_ ≠ (.slice Ao23 y333.length co23 : Value).ownBlock)) ax64 hg hat); have n2_ := am (Kd.V_afterv (ok := (fun k_ => (P0_ k_ ∨ w.heap.size ≤ k_) ∧ some k_ ≠ (.slice Ao23 y333.length co23 : Value).ownBlock)) ax65 hg hat); have n3_ := am (Kd.R_after (ok := (fun k_ => (w.heap.size ≤ k_))) (rX HO335) hg hat); have n4_ := am (hb); have n5_ := am (ho); clear HO_0; clear HO329; clear HO343; clear HO335; clear HB; clear HO338; have HO_0 := n0_; have HO329 := n1_; have HO343 := n2_; have HO335 := n3_; have HB := n4_; have HO346 := n5_; clear n0_ n1_ n2_ n3_ n4_ n5_; clear ho hb hg hat; refine hK.out _ _ trivial (fun hHeld => ?_); clear hK K; refine nm 43 ?_; refine pu 11 4 ?_; refine dn ?_
          try go_wp2
          go_ret
          exact ⟨_, ax21, Kd.V_mono (Kd.R_V (by (with_reducible repeat (first | apply Kd.R_alloc | apply Kd.R_drewN | apply Kd.R_drew)); exact Kd.R_mono HO346.out (fun _ hk => hk.1))) (fun k_ hk => by first | exact ⟨(.inr (hk.1)), hk.2⟩ | exact (.inr (hk))), aL⟩
         ·exact ax3
        ·exact ax1
       ·exact ax13
    ·exact ax2
   ·rw [if_neg c3] at H
    have c3b0 := decide_eq_false c3; clear c3
    by_cases c25 : 0 ≤ x5_1
    ·rw [if_pos c25] at H
     have c25b0 := eq_true c25; have c25b1 := decide_eq_true c25; clear c25
     by_cases c26 : x5_1 ≤ (l0.length : Int)
     ·rw [if_pos c26] at H
      have c26b0 := eq_true c26; have c26b1 := decide_eq_true c26; clear c26; obtain ⟨y347, hy347⟩ : ∃ y_ : List ByteArray, y_ = (l0.take (x5_1 : Int).toNat) := ⟨_, rfl⟩
      replace H : ((spec_l2Own.f y347).bind fun t352 => ((some (([a1] : List ByteArray) : List ByteArray)).bind fun y355 => (if t352.length + y355.length < 8796093022208 then ((some (t352 ++ y355 : List ByteArray)).bind fun y358 => ((some (l0.drop (x5_1 : Int).toNat : List ByteArray)).bind fun y361 => (if y358.length + y361.length < 8796093022208 then (some (y358 ++ y361)) else (none)))) else (none)))) = some r := by first | (rw [hy347]; with_reducible exact H) | (have H2_ := (Option.bind_some _ _).symm.trans H; rw [hy347]; with_reducible exact H2_) | (have H2_ := (Option.bind_some _ _).symm.trans H; with_reducible exact H2_) | with_reducible exact H | (rw [hy347]; exact H) | exact H
      have Ny347 := am hy347; clear hy347; obtain ⟨t352, A27, H⟩ := bs H; obtain ⟨y355, hy355⟩ : ∃ y_ : List ByteArray, y_ = (([a1] : List ByteArray)) := ⟨_, rfl⟩
      replace H : (if t352.length + y355.length < 8796093022208 then ((some (t352 ++ y355 : List ByteArray)).bind fun y358 => ((some (l0.drop (x5_1 : Int).toNat : List ByteArray)).bind fun y361 => (if y358.length + y361.length < 8796093022208 then (some (y358 ++ y361)) else (none)))) else (none)) = some r := by first | (rw [hy355]; with_reducible exact H) | (have H2_ := (Option.bind_some _ _).symm.trans H; rw [hy355]; with_reducible exact H2_) | (have H2_ := (Option.bind_some _ _).symm.trans H; with_reducible exact H2_) | with_reducible exact H | (rw [hy355]; exact H) | exact H
      have Ny355 := am hy355; clear hy355
      by_cases c28 : t352.length + y355.length < 8796093022208
      ·rw [if_pos c28] at H
       have LMc28 := am c28; clear c28; obtain ⟨y358, hy358⟩ : ∃ y_ : List ByteArray, y_ = (t352 ++ y355) := ⟨_, rfl⟩
       replace H : ((some (l0.drop (x5_1 : Int).toNat : List ByteArray)).bind fun y361 => (if y358.length + y361.length < 8796093022208 then (some (y358 ++ y361)) else (none))) = some r := by first | (rw [hy358]; with_reducible exact H) | (have H2_ := (Option.bind_some _ _).symm.trans H; rw [hy358]; with_reducible exact H2_) | (have H2_ := (Option.bind_some _ _).symm.trans H; with_reducible exact H2_) | with_reducible exact H | (rw [hy358]; exact H) | exact H
       have Ny358 := am hy358; clear hy358; have c29b0 := eq_true (of_decide_eq_true ax23 : 0 ≤ x5_1); have c30b0 := eq_true (of_decide_eq_true ax23 : x5_1 ≤ (l0.length : Int)); obtain ⟨y361, hy361⟩ : ∃ y_ : List ByteArray, y_ = (l0.drop (x5_1 : Int).toNat) := ⟨_, rfl⟩
       replace H : (if y358.length + y361.length < 8796093022208 then (some (y358 ++ y361)) else (none)) = some r := by first | (rw [hy361]; with_reducible exact H) | (have H2_ := (Option.bind_some _ _).symm.trans H; rw [hy361]; with_reducible exact H2_) | (have H2_ := (Option.bind_some _ _).symm.trans H; with_reducible exact H2_) | with_reducible exact H | (rw [hy361]; exact H) | exact H
       have Ny361 := am hy361; clear hy361
       by_cases c31 : y358.length + y361.length < 8796093022208
       ·rw [if_pos c31] at H
        have LMc31 := am c31; clear c31; obtain ⟨y366, hy366⟩ : ∃ y_ : List ByteArray, y_ = (y358 ++ y361) := ⟨_, rfl⟩
        replace H : (some y366) = some r := by first | (rw [hy366]; with_reducible exact H) | (have H2_ := (Option.bind_some _ _).symm.trans H; rw [hy366]; with_reducible exact H2_) | (have H2_ := (Option.bind_some _ _).symm.trans H; with_reducible exact H2_) | with_reducible exact H | (rw [hy366]; exact H) | exact H
        have Ny366 := am hy366; clear hy366; obtain rfl := Option.some.inj H
        try go_wp2
        replace HO_0 := am (Kd.V_drew HO_0.out); replace HB := am (below_drew1 HB.out); have q33 : (x5_1 : Int) ≤ ((l0.length : Int) : Int) := of_decide_eq_true ax23; obtain ⟨i033, hi033, _, hsz33, _⟩ := info_parts info9; have hroom33 : l0.length ≤ c0 := (Kd.V_reads' HO_0.out).2.1; have hC33 : Kd.F Kd.string _ _ A0 l0.length l0 := (Kd.V_at (base := w.heap.size) HO_0.out).2.2; have hcut33 := cut_to (P := Tryz.prog) 31 9 .i64 Tryz.underlying31 hi033 A0 l0.length c0 x5_1 (of_decide_eq_true ax23) q33 hroom33; have hr33 := Kd.F_take (m := (x5_1 : Int).toNat) hC33 (by omega); have hy33 : y347.length = (x5_1 : Int).toNat := (by rw [Ny347.out, List.length_take]; omega); rw [← Ny347.out] at hr33; rw [← hy33] at hcut33; have HO351 := am (show Kd.V Kd.string 9 _ w.heap.size _ (.slice A0 y347.length c0) y347 from Kd.V_mk (by omega) hr33); have HC351 := am (show y347.length ≤ c0 from by omega); clear hr33 hC33 hroom33 hi033 hsz33; have KY33 := am hy33; clear hy33; replace q33 := eq_true q33; have q34 : (x5_1 : Int) ≤ ((l0.length : Int) : Int) := of_decide_eq_true ax23; obtain ⟨i034, hi034, _, hsz34, _⟩ := info_parts info9; have hroom34 : l0.length ≤ c0 := (Kd.V_reads' HO_0.out).2.1; have hC34 : Kd.F Kd.string _ _ A0 l0.length l0 := (Kd.V_at (base := w.heap.size) HO_0.out).2.2; have q034 : (0 : Int) ≤ (x5_1 : Int) := of_decide_eq_true ax23; have hcut34 := cut_from (P := Tryz.prog) 31 9 .i64 Tryz.underlying31 hi034 1 hsz34 A0 l0.length c0 x5_1 q034 q34; have hr34 := Kd.F_cut (m := (x5_1 : Int).toNat) (c := c0) hC34 (by omega) hroom34; obtain ⟨A34, hA34⟩ : ∃ A1, A1 = (if c0 = (x5_1 : Int).toNat then A0 else (A0 : Option Addr).map (·.add ((x5_1 : Int).toNat * 1))) := ⟨_, rfl⟩; obtain ⟨c34, hc34⟩ : ∃ c1, c1 = c0 - (x5_1 : Int).toNat := ⟨_, rfl⟩; have hy34 : y361.length = l0.length - (x5_1 : Int).toNat := (by rw [Ny361.out, List.length_drop] <;> omega); rw [show (l0).drop (x5_1 : Int).toNat = y361 from Ny361.out.symm] at hr34; replace hr34 : Kd.F Kd.string _ _ A34 y361.length y361 := (by rw [hA34]; exact hr34); rw [← hy34, ← hA34, ← hc34] at hcut34; have HO365 := am (show Kd.V Kd.string 9 _ w.heap.size _ (.slice A34 y361.length c34) y361 from Kd.V_mk (by rw [hy34, hc34]; exact Nat.sub_le_sub_right hroom34 _) hr34); have HC365 := am (show y361.length ≤ c34 from by rw [hy34, hc34]; exact Nat.sub_le_sub_right hroom34 _); clear hr34 hC34 hroom34 hi034 hsz34 hc34; have KY34 := am hy34; have KA34 := am hA34; clear hy34 hA34; replace q34 := eq_true q34; refine start_ (n := 12) (S := fun w' => True) (ds := []) (ob 12 0) (by kernel_rfl) rfl rfl trivial (fun hHeld => ?_); refine with_tabW spec_l2Put.tab6 spec_l2Put.bits6 (fun HT_ HW_ => ?_); generalize wr.drew = w32 at HO_0 HB HO351 HO365 hHeld ⊢; refine pu 0 33 ?_; refine pu 1 34 ?_; refine pu 2 35 ?_; refine pu 4 37 ?_; refine pu 7 40 ?_; refine pu 8 41 ?_; refine pu 9 42 ?_; refine join_ (σ := Value × Value) 3 (ob 12 959) (fun s_ => [(36, s_.1), (38, s_.2)]) (fun s_ w' => (Kd.V Kd.string 9 w' w.heap.size (fun k_ => (P0_ k_ ∨ w.heap.size ≤ k_) ∧ some k_ ≠ (s_.1 : Value).ownBlock ∧ some k_ ≠ (s_.2 : Value).ownBlock) (.slice A0 y347.length c0) y347) ∧ (Kd.R Kd.string 9 w' w.heap.size (fun k_ => (w.heap.size ≤ k_) ∧ some k_ ≠ (s_.2 : Value).ownBlock) s_.1 t352) ∧ (Kd.R Kd.string 9 w' w.heap.size (fun k_ => (w.heap.size ≤ k_) ∧ some k_ ≠ (s_.1 : Value).ownBlock) s_.2 y355) ∧ (Kd.V Kd.string 9 w' w.heap.size (fun k_ => (P0_ k_ ∨ w.heap.size ≤ k_) ∧ some k_ ≠ (s_.1 : Value).ownBlock ∧ some k_ ≠ (s_.2 : Value).ownBlock) (.slice A34 y361.length c34) y361) ∧ (Kd.V Kd.string 9 w' w.heap.size (fun k_ => (P0_ k_ ∨ w.heap.size ≤ k_) ∧ some k_ ≠ (s_.1 : Value).ownBlock ∧ some k_ ≠ (s_.2 : Value).ownBlock) (.slice A0 l0.length c0) l0) ∧ (Below w.heap.size w w')) ?_ ?_
        rotate_left
        ·intro hCont
         refine two_ (i := 3) (j := 5) (Ni := some 36) (Nj := some 38) (ob 12 927) (ob 12 951) rfl rfl rfl rfl (two_of HT_.out (by kernel_rfl)) (by decide) (by decide) (fun K hK => ?_) (fun K hK => ?_)
         ·skip
          refine goes_ Tryz.func154 (by kernel_rfl) rfl #[.slice A0 y347.length c0] (by rfl) rfl rfl ax26 ?_
          with_reducible refine (spec_l2Own.calls _ _ y347 t352 _ ?side1 ?side2 A27.out).mono ?_
          (case side1 => exact ax74)
          (case side2 => exact (Kd.V_reads' HO351.out).2.1)
          rintro e w35 ⟨v353, rfl, ho0, hb⟩; refine ⟨_, rfl, ?_⟩; replace HO_0 := am (Kd.V_elder' ax62 (Kd.R_base ho0) hb); replace HO351 := am (Kd.V_elder' ax75 (Kd.R_base ho0) hb); replace HO365 := am (Kd.V_elder' ax76 (Kd.R_base ho0) hb); have HO354 := am (Kd.R_lower (Kd.R_newM (M := fun k_ => (w.heap.size ≤ k_)) ho0 (bS HB) (fun k_ h_ => h_)) (bS HB)); replace HB := uB HB hb; (try clear hb); (try clear hb2); (try clear hk); (try clear hi); (try clear ho0); refine hK.out _ _ trivial (fun hHeld => ?_); clear hK K; refine nm 36 ?_; refine one_ (i := 5) (N := some 38) (ob 12 959) rfl rfl (one_of HT_.out (by kernel_rfl)) (by decide) (fun K hK => ?_); refine Kd.R_lit_step Kd.string _ 9 ?hg (N := 38) ?hd (xs := ([a1] : List ByteArray)) (inner := [.string a1]) (ok := fun _ => True) (okp := fun _ => True) ?hr ?hp (fun _ hk => hk) trivial (Below.refl _ _) (Nat.le_refl _) (by simp) ?_; (case hd => rfl); (case hg => rfl); (case hr => exact ax20); (case hp => exact ax66); intro v356 w36 ho37 hb hg_ hnew_; clear hg_ hnew_; (first | rw [← Ny355.out] at ho37 | (simp only [Int.reduceToNat] at ho37; rw [← Ny355.out] at ho37)); replace HO_0 := am (Kd.V_elder' ax62 (Kd.R_base ho37) hb); replace HO351 := am (Kd.V_elder' ax75 (Kd.R_base ho37) hb); replace HO365 := am (Kd.V_elder' ax76 (Kd.R_base ho37) hb); have HO357 := am (Kd.R_lower (Kd.R_new' (Kd.R_newM (M := fun k_ => (w.heap.size ≤ k_)) ho37 (bS HB) (fun k_ h_ => h_)) (Kd.R_lt (rX HO354))) (bS HB)); replace HO354 := am (Kd.R_elder' (rX HO354) (Kd.R_base ho37) hb); replace HB := uB HB hb; clear hb ho37; refine hK.out _ _ trivial (fun hHeld => ?_); clear hK K; refine nm 38 ?_
          exact norm_ ax67 (hCont (v353, v356) _ ⟨(by (with_reducible repeat (first | apply Kd.V_alloc | apply Kd.V_drewN | apply Kd.V_drew)); exact Kd.V_mono HO351.out (fun _ hk => ⟨hk.1.1, ⟨hk.1.2, hk.2⟩⟩)), ax77, ax78, (by (with_reducible repeat (first | apply Kd.V_alloc | apply Kd.V_drewN | apply Kd.V_drew)); exact Kd.V_mono HO365.out (fun _ hk => ⟨hk.1.1, ⟨hk.1.2, hk.2⟩⟩)), ax70, aL⟩)
         ·skip
          refine Kd.R_lit_step Kd.string _ 9 ?hg (N := 38) ?hd (xs := ([a1] : List ByteArray)) (inner := [.string a1]) (ok := fun _ => True) (okp := fun _ => True) ?hr ?hp (fun _ hk => hk) trivial (Below.refl _ _) (Nat.le_refl _) (by simp) ?_; (case hd => rfl); (case hg => rfl); (case hr => exact ax20); (case hp => exact ax66); intro v356 w35 ho36 hb hg_ hnew_; clear hg_ hnew_; (first | rw [← Ny355.out] at ho36 | (simp only [Int.reduceToNat] at ho36; rw [← Ny355.out] at ho36)); replace HO_0 := am (Kd.V_elder' ax62 (Kd.R_base ho36) hb); replace HO351 := am (Kd.V_elder' ax75 (Kd.R_base ho36) hb); replace HO365 := am (Kd.V_elder' ax76 (Kd.R_base ho36) hb); have HO357 := am (Kd.R_lower (Kd.R_newM (M := fun k_ => (w.heap.size ≤ k_)) ho36 (bS HB) (fun k_ h_ => h_)) (bS HB)); replace HB := uB HB hb; clear hb ho36; refine hK.out _ _ trivial (fun hHeld => ?_); clear hK K; refine nm 38 ?_; refine one_ (i := 3) (N := some 36) (ob 12 959) rfl rfl (one_of HT_.out (by kernel_rfl)) (by decide) (fun K hK => ?_); refine goes_ Tryz.func154 (by kernel_rfl) rfl #[.slice A0 y347.length c0] (by rfl) rfl rfl ax26 ?_
          with_reducible refine (spec_l2Own.calls _ _ y347 t352 _ ?side1 ?side2 A27.out).mono ?_
          (case side1 => exact ax74)
          (case side2 => exact (Kd.V_reads' HO351.out).2.1)
          rintro e w37 ⟨v353, rfl, ho0, hb⟩; refine ⟨_, rfl, ?_⟩; replace HO_0 := am (Kd.V_elder' ax62 (Kd.R_base ho0) hb); replace HO351 := am (Kd.V_elder' ax75 (Kd.R_base ho0) hb); replace HO365 := am (Kd.V_elder' ax76 (Kd.R_base ho0) hb); have HO354 := am (Kd.R_lower (Kd.R_new' (Kd.R_newM (M := fun k_ => (w.heap.size ≤ k_)) ho0 (bS HB) (fun k_ h_ => h_)) (Kd.R_lt (rX HO357))) (bS HB)); replace HO357 := am (Kd.R_elder' (rX HO357) (Kd.R_base ho0) hb); replace HB := uB HB hb; (try clear hb); (try clear hb2); (try clear hk); (try clear hi); (try clear ho0); refine hK.out _ _ trivial (fun hHeld => ?_); clear hK K; refine nm 36 ?_
          exact norm_ ax67 (hCont (v353, v356) _ ⟨(by (with_reducible repeat (first | apply Kd.V_alloc | apply Kd.V_drewN | apply Kd.V_drew)); exact Kd.V_mono HO351.out (fun _ hk => ⟨hk.1.1, ⟨hk.2, hk.1.2⟩⟩)), ax77, ax78, (by (with_reducible repeat (first | apply Kd.V_alloc | apply Kd.V_drewN | apply Kd.V_drew)); exact Kd.V_mono HO365.out (fun _ hk => ⟨hk.1.1, ⟨hk.2, hk.1.2⟩⟩)), ax71, aL⟩)
        rintro ⟨v353, v356⟩ w38 ⟨h0_, h1_, h2_, h3_, h4_, h5_⟩; have n0_ : Aside0 (Kd.V Kd.string 9 w38 w.heap.size (fun k_ => (P0_ k_ ∨ w.heap.size ≤ k_) ∧ some k_ ≠ (v353 : Value).ownBlock ∧ some k_ ≠ (v356 : Value).ownBlock) (.slice A0 y347.length c0) y347) := ⟨h0_⟩; have n1_ : Aside0 (Kd.R Kd.string 9 w38 w.heap.size (fun k_ => (w.heap.size ≤ k_) ∧ some k_ ≠ (v356 : Value).ownBlock) v353 t352) := ⟨h1_⟩; have n2_ : Aside0 (Kd.R Kd.string 9 w38 w.heap.size (fun k_ => (w.heap.size ≤ k_) ∧ some k_ ≠ (v353 : Value).ownBlock) v356 y355) := ⟨h2_⟩; have n3_ : Aside0 (Kd.V Kd.string 9 w38 w.heap.size (fun k_ => (P0_ k_ ∨ w.heap.size ≤ k_) ∧ some k_ ≠ (v353 : Value).ownBlock ∧ some k_ ≠ (v356 : Value).ownBlock) (.slice A34 y361.length c34) y361) := ⟨h3_⟩; have n4_ : Aside0 (Kd.V Kd.string 9 w38 w.heap.size (fun k_ => (P0_ k_ ∨ w.heap.size ≤ k_) ∧ some k_ ≠ (v353 : Value).ownBlock ∧ some k_ ≠ (v356 : Value).ownBlock) (.slice A0 l0.length c0) l0) := ⟨h4_⟩; have n5_ : Aside0 (Below w.heap.size w w38) := ⟨h5_⟩; clear HO_0; clear HB; clear h0_ h1_ h2_ h3_ h4_ h5_; have HO351 := n0_; have HO354 := n1_; have HO357 := n2_; have HO365 := n3_; have HO_0 := n4_; have HB := n5_; clear n0_ n1_ n2_ n3_ n4_ n5_; have hHeld := trivial; obtain ⟨Ao40, co40, eo40⟩ := Kd.R_slice HO357.out; (first | subst eo40 | (injection eo40 with f1_ f2_ f3_; have f4_ := f1_.symm; have f5_ := f3_.symm; clear f1_ f2_ f3_; subst f4_; subst f5_)); refine norm_ (a' := ?_) ?_ ?_
        rotate_left
        ·exact ax16
        refine one_ (i := 6) (N := some 39) (ob 12 1023) rfl rfl (one_of HT_.out (by kernel_rfl)) (by decide) (fun K hK => ?_); refine Kd.R_append_rows_step Kd.string (w0 := w) w.heap.size (by rfl) (.tmp 36) (.tmp 38) 31 9 (.string ⟨#[]⟩) 16 rfl Tryz.underlying31 info9 rfl (by decide) (by omega) v353 t352 y355 _ _ _ (fun k_ => (w.heap.size ≤ k_) ∧ some k_ ≠ (.slice Ao40 y355.length co40 : Value).ownBlock) (fun _ => False) rfl rfl ?aO ?aR (fun _ _ h => h) (fun _ h => h.elim) ?aF ?aB ?aS ?aL ?_
        (case aR => repeat (first | exact (Kd.R_reads' HO357.out).2.2 | (with_reducible refine Kd.C_alloc ?_ _) | (with_reducible refine Kd.C_drewN ?_ _) | (with_reducible refine Kd.C_drew ?_)))
        (case aB => exact aL)
        (case aF => exact ax79)
        (case aO => exact (rX HO354))
        (case aS => exact ax28)
        (case aL => have := LMc28.out; omega)
        intro v359 w39 ho hb hg hat; rw [← Ny358.out] at ho; have n0_ := am (Kd.V_afterv (ok := (fun k_ => (P0_ k_ ∨ w.heap.size ≤ k_) ∧ some k_ ≠ (.slice Ao40 y355.length co40 : Value).ownBlock)) ax73 hg hat); have n1_ := am (Kd.V_afterv (ok := (fun k_ => (P0_ k_ ∨ w.heap.size ≤ k_) ∧ some k_ ≠ (.slice Ao40 y355.length co40 : Value).ownBlock)) (by (with_reducible repeat (first | apply Kd.V_alloc | apply Kd.V_drewN | apply Kd.V_drew)); exact Kd.V_mono HO351.out (fun _ hk => ⟨⟨hk.1, hk.2.2⟩, hk.2.1⟩)) hg hat); have n2_ := am (Kd.V_afterv (ok := (fun k_ => (P0_ k_ ∨ w.heap.size ≤ k_) ∧ some k_ ≠ (.slice Ao40 y355.length co40 : Value).ownBlock)) (by (with_reducible repeat (first | apply Kd.V_alloc | apply Kd.V_drewN | apply Kd.V_drew)); exact Kd.V_mono HO365.out (fun _ hk => ⟨⟨hk.1, hk.2.2⟩, hk.2.1⟩)) hg hat); have n3_ := am (Kd.R_after (ok := (fun k_ => (w.heap.size ≤ k_))) (rX HO357) hg hat); have n4_ := am (hb); have n5_ := am (ho); clear HO_0; clear HO351; clear HO365; clear HO357; clear HB; clear HO354; have HO_0 := n0_; have HO351 := n1_; have HO365 := n2_; have HO357 := n3_; have HB := n4_; have HO360 := n5_; clear n0_ n1_ n2_ n3_ n4_ n5_; clear ho hb hg hat; refine hK.out _ _ trivial (fun hHeld => ?_); clear hK K; refine nm 39 ?_; refine one_ (i := 10) (N := some 43) (ob 12 2047) rfl rfl (one_of HT_.out (by kernel_rfl)) (by decide) (fun K hK => ?_); refine Kd.R_append_rows_step Kd.string (w0 := w) w.heap.size (by rfl) (.tmp 39) (.tmp 42) 31 9 (.string ⟨#[]⟩) 16 rfl Tryz.underlying31 info9 rfl (by decide) (by omega) v359 y358 y361 _ _ _ (fun k_ => (w.heap.size ≤ k_) ∧ some k_ ≠ (.slice Ao40 y355.length co40 : Value).ownBlock) (fun _ => False) rfl rfl ?aO ?aR (fun _ _ h => h) (fun _ h => h.elim) ?aF ?aB ?aS ?aL ?_
        (case aR => repeat (first | exact (Kd.V_reads' HO365.out).2.2 | (with_reducible refine Kd.C_alloc ?_ _) | (with_reducible refine Kd.C_drewN ?_ _) | (with_reducible refine Kd.C_drew ?_)))
        (case aB => exact aL)
        (case aF => exact ax79)
        (case aO => exact (rX HO360))
        (case aS => exact ax28)
        (case aL => have := LMc31.out; omega)
        intro v367 w41 ho hb hg hat; rw [← Ny366.out] at ho; have n0_ := am (Kd.V_afterv (ok := (fun k_ => (P0_ k_ ∨ w.heap.size ≤ k_) ∧ some k_ ≠ (.slice Ao40 y355.length co40 : Value).ownBlock)) ax62 hg hat); have n1_ := am (Kd.V_afterv (ok := (fun k_ => (P0_ k_ ∨ w.heap.size ≤ k_) ∧ some k_ ≠ (.slice Ao40 y355.length co40 : Value).ownBlock)) ax75 hg hat); have n2_ := am (Kd.V_afterv (ok := (fun k_ => (P0_ k_ ∨ w.heap.size ≤ k_) ∧ some k_ ≠ (.slice Ao40 y355.length co40 : Value).ownBlock)) ax76 hg hat); have n3_ := am (Kd.R_after (ok := (fun k_ => (w.heap.size ≤ k_))) (rX HO357) hg hat); have n4_ := am (hb); have n5_ := am (ho); clear HO_0; clear HO351; clear HO365; clear HO357; clear HB; clear HO360; have HO_0 := n0_; have HO351 := n1_; have HO365 := n2_; have HO357 := n3_; have HB := n4_; have HO368 := n5_; clear n0_ n1_ n2_ n3_ n4_ n5_; clear ho hb hg hat; refine hK.out _ _ trivial (fun hHeld => ?_); clear hK K; refine nm 43 ?_; refine pu 11 4 ?_; refine dn ?_
        try go_wp2
        go_ret
        exact ⟨_, ax21, Kd.V_mono (Kd.R_V (by (with_reducible repeat (first | apply Kd.R_alloc | apply Kd.R_drewN | apply Kd.R_drew)); exact Kd.R_mono HO368.out (fun _ hk => hk.1))) (fun k_ hk => by first | exact ⟨(.inr (hk.1)), hk.2⟩ | exact (.inr (hk))), aL⟩
       ·exact ax15
      ·rw [if_neg c28] at H
       exact absurd H (by simp)
     ·exact ax9
    ·rw [if_neg c25] at H
     exact absurd H (by simp)

end Go.Proofs.YtcplbbflfgckbaaGreatDoor.X
namespace Go.Proofs.YtcplbbflfgckbaaGreatDoor.X
open Go.RowKit Go.Proofs.YtcplbbflfgckbaaGreatDoorW.PrintWords Go.Proofs.YtcplbbflfgckbaaGreatDoorW.PrintLast Go.Proofs.YtcplbbflfgckbaaGreatDoorW.PrintMore
attribute [local go_sem] max2_int min2_int max_two min_two max_three min_three max_four min_four   -- for this text's walks alone
set_option linter.unusedVariables false
set_option linter.unusedSimpArgs false
set_option maxHeartbeats 8000000
set_option maxRecDepth 100000

/-! ### spec_l2Place: function 153 -/
def spec_l2Place.l0 : Nat → List ByteArray → ByteArray → Int → Option (Int)
 | 0, _, _, _ => none
 | k + 1, x0, x1, x5 => if x5 < (x0.length : Int) then (if 0 ≤ x5 then (if (rdOf ByteArray.empty x0 x5).toList = x1.toList then (some x5) else (spec_l2Place.l0 k x0 x1 (wrap64 (x5 + 1)))) else (none)) else (some (-1))
def spec_l2Place.f (k : Nat) (l0 : List ByteArray) (a1 : ByteArray) : Option (Int) := spec_l2Place.l0 k l0 a1 0
theorem spec_l2Place.calls (k : Nat) (A0 : Option Addr) (c0 : Nat) (l0 : List ByteArray) (a1 : ByteArray) (r : Int) (w : World) (hr0 : Kd.C Kd.string w A0 l0.length l0) (hc0 : l0.length ≤ c0) (h : spec_l2Place.f k l0 a1 = some r) :
  Calls Tryz.prog 153 #[.slice A0 l0.length c0, .string a1] w fun e w' => e = .returned (.int .i64 r) ∧ Drawn0 w w' := by
 have HR0 := am hr0; have HC0 := am hc0; clear hr0 hc0
 unfold spec_l2Place.f at h
 have H := h; clear h; have H' := am H; clear H
 go_enter Tryz.func153, Tryz.ntmps153
 go_wp2
 go_loopg [5] k (fun kq v5 w' => ∃ (x5_1 : Int), v5 = .int .i64 x5_1 ∧ Aside0 (spec_l2Place.l0 kq l0 a1 x5_1 = some r) ∧ Aside0 (kq ≤ k) ∧ Drawn0 w w')
 case atStart => exact ⟨(0), ax18, H', ⟨Nat.le_refl _⟩, by repeat (first | exact Drawn0.refl _ | apply Drawn0.step)⟩
 case round =>
  clear H'; obtain ⟨x5_1, rfl, HA, HK1, ⟨m1, rfl⟩⟩ := hrel
  cases gk with
  | zero => exact absurd HA.out (by simp [spec_l2Place.l0])
  | succ k1 =>
   have H := HA.out; clear HA; simp only [spec_l2Place.l0] at H
   by_cases c3 : x5_1 < (l0.length : Int)
   ·rw [if_pos c3] at H
    have c3b0 := decide_eq_true c3; clear c3
    by_cases c4 : 0 ≤ x5_1
    ·rw [if_pos c4] at H
     have c4b0 := decide_eq_true c4; clear c4
     by_cases c5 : (rdOf ByteArray.empty l0 x5_1).toList = a1.toList
     ·rw [if_pos c5] at H
      have c5b0 := beq_iff_eq.mpr c5; have c5b1 := bne_eq_false_iff_eq.mpr c5; clear c5; obtain rfl := Option.some.inj H; have p369 : 0 ≤ (x5_1 : Int) := of_decide_eq_true ax23; have q369 : x5_1 < (l0.length : Int) := of_decide_eq_true ax23; obtain ⟨ad369, e369, hx369_0⟩ := Kd.at_string HR0.out x5_1 p369 q369
      cases e369
      replace p369 := eq_true p369; replace q369 := eq_true q369
      go_wp2
      go_ret
      exact ⟨ax18, ax19⟩
     ·rw [if_neg c5] at H
      have c5b0 := beq_eq_false_iff_ne.mpr c5; have c5b1 := bne_iff_ne.mpr c5; have H' := am H; clear H; have p369 : 0 ≤ (x5_1 : Int) := of_decide_eq_true ax23; have q369 : x5_1 < (l0.length : Int) := of_decide_eq_true ax23; obtain ⟨ad369, e369, hx369_0⟩ := Kd.at_string HR0.out x5_1 p369 q369
      cases e369
      replace p369 := eq_true p369; replace q369 := eq_true q369
      go_wp2
      go_roundg k1
      case measure => have := HK1.out; omega
      case rel => exact ⟨(wrap64 (x5_1 + 1)), ax18, H', ⟨by have := HK1.out; omega⟩, ax19⟩
    ·exact ax2
   ·exact ax12
/-! ### spec_l2Of: function 123 -/
mutual
def spec_l2Of.l0 : Nat → List ByteArray → List ByteArray → Int → Option ((List (S74)))
 | 0, _, _, _ => none
 | k + 1, x0, x3, x4 => if x4 < (x0.length : Int) then (spec_l2Of.l1 k x0 x3 x4 1) else (spec_l2Of.l2 k x0 x3 0 (([] : List (S74))))
def spec_l2Of.l1 : Nat → List ByteArray → List ByteArray → Int → Int → Option ((List (S74)))
 | 0, _, _, _, _ => none
 | k + 1, x0, x3, x4, x5 => if 0 ≤ x4 then (if x4 < (x0.length : Int) then (if x5 ≤ ((rdOf ByteArray.empty x0 x4).size : Int) then (if 0 ≤ x5 then ((spec_l2Put.f k x3 ((rdOf ByteArray.empty x0 x4).extract 0 (x5 : Int).toNat)).bind fun t376 => (spec_l2Of.l1 k x0 t376 x4 (wrap64 (x5 + 1)))) else (none)) else (spec_l2Of.l0 k x0 x3 (wrap64 (x4 + 1)))) else (none)) else (none)
def spec_l2Of.l2 : Nat → List ByteArray → List ByteArray → Int → List (S74) → Option ((List (S74)))
 | 0, _, _, _, _ => none
 | k + 1, x0, x3, x7, x383000 => if x7 < (x3.length : Int) then (if 0 ≤ x7 then ((spec_l2Has.f k x0 (rdOf ByteArray.empty x3 x7)).bind fun t384 => (if x7 > 0 then (if 0 ≤ (wrap64 (((rdOf ByteArray.empty x3 x7).size : Int) - 1)) then (if (wrap64 (((rdOf ByteArray.empty x3 x7).size : Int) - 1)) < ((rdOf ByteArray.empty x3 x7).size : Int) then (if (wrap64 (((rdOf ByteArray.empty x3 x7).size : Int) - 1)) ≤ ((rdOf ByteArray.empty x3 x7).size : Int) then ((spec_l2Place.f k x3 ((rdOf ByteArray.empty x3 x7).extract 0 ((wrap64 (((rdOf ByteArray.empty x3 x7).size : Int) - 1)) : Int).toNat)).bind fun t386 => (if x383000.length < 5864062014805 then (spec_l2Of.l2 k x0 x3 (wrap64 (x7 + 1)) (x383000 ++ [(⟨((bt (rdOf ByteArray.empty x3 x7) (wrap64 (((rdOf ByteArray.empty x3 x7).size : Int) - 1))) - 97) % 256, t386, t384⟩ : S74)])) else (none))) else (none)) else (none)) else (none)) else (if x383000.length < 5864062014805 then (spec_l2Of.l2 k x0 x3 (wrap64 (x7 + 1)) (x383000 ++ [(⟨(-1), (-1), t384⟩ : S74)])) else (none)))) else (none)) else (some x383000)
end
def spec_l2Of.f (k : Nat) (l0 : List ByteArray) : Option ((List (S74))) := spec_l2Of.l0 k l0 (([(⟨#[]⟩ : ByteArray)] : List ByteArray)) 0
theorem spec_l2Of.calls (k : Nat) (A0 : Option Addr) (c0 : Nat) (l0 : List ByteArray) (r : List (S74)) (w : World) (hr0 : Kd.C Kd.string w A0 l0.length l0) (hc0 : l0.length ≤ c0) (h : spec_l2Of.f k l0 = some r) :
  Calls Tryz.prog 123 #[.slice A0 l0.length c0] w fun e w' => ∃ v0_ : Value, e = .returned (.agg #[v0_]) ∧ Kd.R k74 74 w' w.heap.size (fun _ => True) v0_ r ∧ Below w.heap.size w w' := by
 have hu26 := Tryz.underlying26; have hu74 := Tryz.underlying74; have HR0 := am hr0; have HC0 := am hc0; clear hr0 hc0; have HB := am (Below.refl w.heap.size w)
 unfold spec_l2Of.f at h
 have H := h; clear h; obtain ⟨y371, hy371⟩ : ∃ y_ : List ByteArray, y_ = (([(⟨#[]⟩ : ByteArray)] : List ByteArray)) := ⟨_, rfl⟩
 replace H : (spec_l2Of.l0 k l0 y371 0) = some r := by first | (rw [hy371]; with_reducible exact H) | (have H2_ := (Option.bind_some _ _).symm.trans H; rw [hy371]; with_reducible exact H2_) | (have H2_ := (Option.bind_some _ _).symm.trans H; with_reducible exact H2_) | with_reducible exact H | (rw [hy371]; exact H) | exact H
 have Ny371 := am hy371; clear hy371; have H' := am H; clear H
 go_enter Tryz.func123, Tryz.ntmps123
 go_wp2_with (first | ((with_reducible refine gt 2 ?_); refine bx 2 #[.slice none 0 0] 26 ?_; intro gb370 hg w2 hbox hb; have BK370 := am (hbox); have GW370 := uG hg HB; have GE370 := uG hg HB; replace HB := uB HB hb; clear hb hbox hg) | ((with_reducible refine gt 10 ?_); refine Kd.R_lit Kd.string _ 9 ?hg (N := 10) ?hd (xs := ([(⟨#[]⟩ : ByteArray)] : List ByteArray)) (inner := [.string (⟨#[]⟩ : ByteArray)]) (ok := fun _ => True) (okp := fun _ => True) ?hr ?hp (fun _ hk => hk) trivial (Below.refl _ _) (Nat.le_refl _) (by simp) ?_; (case hd => rfl); (case hg => rfl); (case hr => exact ax20); (case hp => exact ax22); intro v372 w3 ho4 hb hg_ hnew_; clear hg_ hnew_; (first | rw [← Ny371.out] at ho4 | (simp only [Int.reduceToNat] at ho4; rw [← Ny371.out] at ho4)); have HO373 := am (Kd.R_lower ho4 (bS HB)); replace BK370 := ub BK370 hb; replace HB := uS HB hb; clear hb ho4))
 go_loopg [3, 4] k (fun kq v3 v4 w' => ∃ (x3_1 : List ByteArray) (x4_1 : Int), v4 = .int .i64 x4_1 ∧ Aside0 (spec_l2Of.l0 kq l0 x3_1 x4_1 = some r) ∧ Aside0 (kq ≤ k) ∧ Aside0 (Kd.V Kd.string 9 w' w.heap.size (fun k_ => k_ ≠ gb370) v3 x3_1) ∧ Aside0 (w'.heap[gb370]? = some (.cells #[(.slice none 0 0)] 26 (0, 0))) ∧ Aside0 (Below w.heap.size w w'))
 case atStart => exact ⟨(y371), (0), ax18, H', ⟨Nat.le_refl _⟩, ⟨Kd.R_V (by (with_reducible repeat (first | apply Kd.R_alloc | apply Kd.R_drewN | apply Kd.R_drew)); exact Kd.R_mono (Kd.R_types HO373.out BK370.out (by decide)) (fun _ hk => hk.2))⟩, ⟨aU⟩, ⟨aL⟩⟩
 case round =>
  clear H'; obtain ⟨x3_1, x4_1, rfl, HA, HK1, HO_3, BK370, HB⟩ := hrel
  cases gk with
  | zero => exact absurd HA.out (by simp [spec_l2Of.l0])
  | succ k1 =>
   have H := HA.out; clear HA; simp only [spec_l2Of.l0] at H
   by_cases c5 : x4_1 < (l0.length : Int)
   ·rw [if_pos c5] at H
    have c5b0 := decide_eq_true c5; clear c5; have H' := am H; clear H
    go_wp2
    go_loopg [3, 5] k1 (fun kq v3 v5 w' => ∃ (x3_2 : List ByteArray) (x5_2 : Int), v5 = .int .i64 x5_2 ∧ Aside0 (spec_l2Of.l1 kq l0 x3_2 x4_1 x5_2 = some r) ∧ Aside0 (kq ≤ k1) ∧ Aside0 (Kd.V Kd.string 9 w' w.heap.size (fun k_ => k_ ≠ gb370) v3 x3_2) ∧ Aside0 (w'.heap[gb370]? = some (.cells #[(.slice none 0 0)] 26 (0, 0))) ∧ Aside0 (Below w.heap.size w w'))
    case atStart => exact ⟨(x3_1), (1), ax18, H', ⟨Nat.le_refl _⟩, ⟨ax80⟩, ⟨aU⟩, ⟨aL⟩⟩
    case round =>
     clear H'; (try clear c5);(try clear c5b0); obtain ⟨x3_2, x5_2, rfl, HA, HK2, HO_3, BK370, HB⟩ := hrel
     cases gk with
     | zero => exact absurd HA.out (by simp [spec_l2Of.l1])
     | succ k2 =>
      have H := HA.out; clear HA; simp only [spec_l2Of.l1] at H
      by_cases c6 : 0 ≤ x4_1
      ·rw [if_pos c6] at H
       have c6b0 := decide_eq_true c6; clear c6
       by_cases c7 : x4_1 < (l0.length : Int)
       ·rw [if_pos c7] at H
        have c7b0 := decide_eq_true c7; clear c7
        by_cases c8 : x5_2 ≤ ((rdOf ByteArray.empty l0 x4_1).size : Int)
        ·rw [if_pos c8] at H
         have c8b0 := decide_eq_true c8; clear c8
         by_cases c9 : 0 ≤ x5_2
         ·rw [if_pos c9] at H
          have c9b0 := eq_true c9; have c9b1 := decide_eq_true c9; clear c9; have c10b0 := eq_true (of_decide_eq_true ax23 : x5_2 ≤ ((rdOf ByteArray.empty l0 x4_1).size : Int)); obtain ⟨js11, hjs11⟩ : ∃ j_ : ByteArray, ((rdOf ByteArray.empty l0 x4_1).extract 0 (x5_2 : Int).toNat) = j_ := ⟨_, rfl⟩; (first | rw [hjs11] at H | simp only [hjs11] at H); obtain ⟨t376, A12, H⟩ := bs H; have H' := am H; clear H; have p374 : 0 ≤ (x4_1 : Int) := of_decide_eq_true ax23; have q374 : x4_1 < (l0.length : Int) := of_decide_eq_true ax23; obtain ⟨ad374, e374, hx374_0⟩ := Kd.at_string HR0.out x4_1 p374 q374
          cases e374
          replace hx374_0 := uC HB hx374_0; replace p374 := eq_true p374; replace q374 := eq_true q374; have p375 : 0 ≤ (x4_1 : Int) := of_decide_eq_true ax23; have q375 : x4_1 < (l0.length : Int) := of_decide_eq_true ax23; obtain ⟨ad375, e375, hx375_0⟩ := Kd.at_string HR0.out x4_1 p375 q375; obtain rfl : ad374 = ad375 := (by injection e375); replace hx375_0 := uC HB hx375_0; replace p375 := eq_true p375; replace q375 := eq_true q375; obtain ⟨Ao13, co13, eo13⟩ := Kd.V_slice HO_3.out; subst eo13
          go_wp2_with (first | ((with_reducible refine gd 33 149 ?_); refine gc 33 Tryz.func149 #[.slice Ao13 x3_2.length co13, .string js11] (spec_l2Put.calls k2 (fun k_ => k_ ≠ gb370) _ _ x3_2 js11 t376 _ (HO_3.out) A12.out) ?_; rintro e w14 ⟨v377, rfl, ho0, hb⟩; refine ⟨_, rfl, ?_⟩; replace HO_3 := am (Kd.V_below ax80 hb); have HO378 := am (Kd.V_lower (Kd.V_mono (ok' := fun k_ => k_ ≠ gb370) ho0 (fun k_ hk_ => Or.elim hk_ (fun hs_ => hs_) (fun hn_ => (Kd.freshB (g := gb370) (o := .cells #[.slice none 0 0] 26 (0, 0)) aU k_ hn_)))) (bS HB)); replace BK370 := ub BK370 hb; replace HB := uS HB hb; (try clear hb ho0)))
          go_roundg k2
          case measure => have := HK1.out; have := HK2.out; omega
          case rel => exact ⟨(t376), (wrap64 (x5_2 + 1)), ax18, H', ⟨ax35⟩, ⟨(by (with_reducible repeat (first | apply Kd.V_alloc | apply Kd.V_drewN | apply Kd.V_drew)); exact HO378.out)⟩, ⟨aU⟩, ⟨aL⟩⟩
         ·exact ax13
        ·rw [if_neg c8] at H
         have c8b0 := decide_eq_false c8; clear c8; have H' := am H; clear H; have p374 : 0 ≤ (x4_1 : Int) := of_decide_eq_true ax23; have q374 : x4_1 < (l0.length : Int) := of_decide_eq_true ax23; obtain ⟨ad374, e374, hx374_0⟩ := Kd.at_string HR0.out x4_1 p374 q374
         cases e374
         replace hx374_0 := uC HB hx374_0; replace p374 := eq_true p374; replace q374 := eq_true q374
         go_wp2
         go_roundg k2
         case measure => have := HK1.out; have := HK2.out; omega
         case rel => exact ⟨(x3_2), (wrap64 (x4_1 + 1)), ax18, H', ⟨ax35⟩, ⟨ax80⟩, ⟨aU⟩, ⟨aL⟩⟩
       ·exact ax7
      ·exact ax5
   ·rw [if_neg c5] at H
    have c5b0 := decide_eq_false c5; clear c5; obtain ⟨y379, hy379⟩ : ∃ y_ : List (S74), y_ = (([] : List (S74))) := ⟨_, rfl⟩
    replace H : (spec_l2Of.l2 k1 l0 x3_1 0 y379) = some r := by first | (rw [hy379]; with_reducible exact H) | (have H2_ := (Option.bind_some _ _).symm.trans H; rw [hy379]; with_reducible exact H2_) | (have H2_ := (Option.bind_some _ _).symm.trans H; with_reducible exact H2_) | with_reducible exact H | (rw [hy379]; exact H) | exact H
    have Ny379 := am hy379; clear hy379; have H' := am H; clear H
    go_wp2_with (first | ((with_reducible refine gt 34 ?_); refine Kd.R_lit k74 _ 74 ?hg (N := 34) ?hd (xs := ([] : List (S74))) (inner := []) (ok := fun _ => True) (okp := fun _ => True) ?hr ?hp (fun _ hk => hk) trivial (Below.refl _ _) (Nat.le_refl _) (by simp) ?_; (case hd => rfl); (case hg => rfl); (case hr => exact ax20); (case hp => exact ax31); intro v380 w15 ho16 hb hg_ hnew_; clear hg_ hnew_; (first | rw [← Ny379.out] at ho16 | (simp only [Int.reduceToNat] at ho16; rw [← Ny379.out] at ho16)); replace HO_3 := am (Kd.V_elder' ax80 (Kd.R_base ho16) hb); have HO381 := am (Kd.R_lower ho16 (bS HB)); replace BK370 := ub BK370 hb; replace HB := uS HB hb; clear hb ho16; obtain ⟨Ao17, co17, rfl⟩ := Kd.R_slice HO381.out) | ((with_reducible refine gt 6 ?_); refine bx 6 #[.slice none 0 0] 26 ?_; intro gb382 hg w18 hbox hb; replace HO_3 := am (Kd.V_below (Kd.V_elderB ax80 gb382 (Nat.le_of_eq hg.symm)) hb); replace HO381 := uR HO381 hb; have BK382 := am (hbox); have GW382 := uH hg HB; have GE382 := uH hg HB; replace HB := uS HB hb; obtain ⟨NB370_382, NB382_370, BK370⟩ := uA hg hb BK370; clear hb hbox hg; obtain ⟨hnb19, hnc19⟩ := nk NB382_370; obtain ⟨hcz20_0, hfz20_0⟩ := bz (.slice none 0 0) BK382))
    go_loopg [7] k1 (fun kq v7 w' => ∃ (x7_2 : Int) (x383000_2 : List (S74)) (u383000 : Value), v7 = .int .i64 x7_2 ∧ Aside0 (spec_l2Of.l2 kq l0 x3_1 x7_2 x383000_2 = some r) ∧ Aside0 (kq ≤ k1) ∧ Aside0 (Kd.V Kd.string 9 w' w.heap.size (fun k_ => some k_ ≠ (u383000 : Value).ownBlock ∧ k_ ≠ gb370 ∧ k_ ≠ gb382) u3 x3_1) ∧ Aside0 (Kd.R k74 74 w' w.heap.size (fun _ => True) u383000 x383000_2) ∧ Aside0 (w'.heap[gb370]? = some (.cells #[(.slice none 0 0)] 26 (0, 0))) ∧ Aside0 (w'.heap[gb382]? = some (.cells #[u383000] 26 (0, 0))) ∧ Aside0 (Below w.heap.size w w'))
    case atStart => exact ⟨(0), (y379), (.slice Ao17 y379.length co17), ax18, H', ⟨Nat.le_refl _⟩, ⟨(by (with_reducible repeat (first | apply Kd.V_alloc | apply Kd.V_drewN | apply Kd.V_drew)); exact Kd.V_mono (Kd.V_far (p := ⟨gb382, 0, none⟩) (Kd.V_mono HO_3.out (fun k_ hk => (⟨hk, hk.2⟩ : _ ∧ k_ ≠ gb382))) (fun _ hk => hk.2) (.slice Ao17 y379.length co17)) (fun _ hk => ⟨hk.1.1.2, ⟨hk.1.1.1, hk.1.2⟩⟩))⟩, ⟨aU⟩, ⟨aU⟩, ⟨aU⟩, ⟨aL⟩⟩
    case round =>
     clear H'; (try clear hcz20_0);(try clear hfz20_0);(try clear c5);(try clear c5b0); obtain ⟨x7_2, x383000_2, u383000, rfl, HA, HK2, HO_3, HO_383000, BK370, BK382, HB⟩ := hrel
     cases gk with
     | zero => exact absurd HA.out (by simp [spec_l2Of.l2])
     | succ k2 =>
      have H := HA.out; clear HA; simp only [spec_l2Of.l2] at H
      by_cases c21 : x7_2 < (x3_1.length : Int)
      ·rw [if_pos c21] at H
       have c21b0 := decide_eq_true c21; clear c21
       by_cases c22 : 0 ≤ x7_2
       ·rw [if_pos c22] at H
        have c22b0 := decide_eq_true c22; clear c22; obtain ⟨t384, A23, H⟩ := bs H
        by_cases c24 : x7_2 > 0
        ·rw [if_pos c24] at H
         have c24b0 := decide_eq_true c24; clear c24; obtain ⟨ji25, hji25⟩ : ∃ j_ : Int, (wrap64 (((rdOf ByteArray.empty x3_1 x7_2).size : Int) - 1)) = j_ := ⟨_, rfl⟩; (first | rw [hji25] at H | simp only [hji25] at H); (try rw [hji25] at A23); have hji25w : (IntKind.i64.wrap (((rdOf ByteArray.empty x3_1 x7_2).size : Int) - 1)) = ji25 := (i64_w _).trans hji25
         by_cases c26 : 0 ≤ (ji25)
         ·rw [if_pos c26] at H
          have c26b0 := decide_eq_true c26; clear c26
          by_cases c27 : (ji25) < ((rdOf ByteArray.empty x3_1 x7_2).size : Int)
          ·rw [if_pos c27] at H
           have c27b0 := decide_eq_true c27; clear c27; have c29b0 := eq_true (of_decide_eq_true ax23 : 0 ≤ (ji25))
           by_cases c30 : (ji25) ≤ ((rdOf ByteArray.empty x3_1 x7_2).size : Int)
           ·rw [if_pos c30] at H
            have c30b0 := eq_true c30; have c30b1 := decide_eq_true c30; clear c30; obtain ⟨js31, hjs31⟩ : ∃ j_ : ByteArray, ((rdOf ByteArray.empty x3_1 x7_2).extract 0 ((ji25) : Int).toNat) = j_ := ⟨_, rfl⟩; (first | rw [hjs31] at H | simp only [hjs31] at H); obtain ⟨t386, A32, H⟩ := bs H
            by_cases c33 : x383000_2.length < 5864062014805
            ·rw [if_pos c33] at H
             have LMc33 := am c33; clear c33; obtain ⟨y387, hy387⟩ : ∃ y_ : List (S74), y_ = (x383000_2 ++ [(⟨((bt (rdOf ByteArray.empty x3_1 x7_2) (ji25)) - 97) % 256, t386, t384⟩ : S74)]) := ⟨_, rfl⟩
             replace H : (spec_l2Of.l2 k2 l0 x3_1 (wrap64 (x7_2 + 1)) y387) = some r := by first | (rw [hy387]; with_reducible exact H) | (have H2_ := (Option.bind_some _ _).symm.trans H; rw [hy387]; with_reducible exact H2_) | (have H2_ := (Option.bind_some _ _).symm.trans H; with_reducible exact H2_) | with_reducible exact H | (rw [hy387]; exact H) | exact H
             have Ny387 := am hy387; clear hy387; have H' := am H; clear H; obtain ⟨Ao34, co34, eo34⟩ := Kd.V_slice HO_3.out; subst eo34; have p383 : 0 ≤ (x7_2 : Int) := of_decide_eq_true ax23; have q383 : x7_2 < (x3_1.length : Int) := of_decide_eq_true ax23; obtain ⟨ad383, e383, hx383_0⟩ := Kd.at_string (Kd.V_reads' HO_3.out).2.2 x7_2 p383 q383
             cases e383
             replace p383 := eq_true p383; replace q383 := eq_true q383
             go_wp2_with (first | ((with_reducible refine gd 48 114 ?_); refine gc 48 Tryz.func114 #[.slice A0 l0.length c0, .string (rdOf ByteArray.empty x3_1 x7_2)] (spec_l2Has.calls k2 _ _ l0 (rdOf ByteArray.empty x3_1 x7_2) t384 _ ax42 (HC0.out) A23.out) ?_; rintro e w' ⟨rfl, ⟨nd, rfl⟩⟩; refine ⟨_, rfl, ?_⟩; (try (rw [drewN_self wr]; generalize hq_ : World.drewN wr _ = wr; have n0_ : Aside0 (Kd.V Kd.string 9 wr w.heap.size (fun k_ => some k_ ≠ (u383000 : Value).ownBlock ∧ k_ ≠ gb370 ∧ k_ ≠ gb382) (.slice (some ad383) x3_1.length co34) x3_1) := ⟨ax81⟩; have n1_ := qR HO_383000 hq_; have n2_ := qB BK370 hq_; have n3_ := qB BK382 hq_; have n4_ := qL HB hq_; clear HO_3 HO_383000 BK370 BK382 HB hq_; have HO_3 := n0_; have HO_383000 := n1_; have BK370 := n2_; have BK382 := n3_; have HB := n4_; clear n0_ n1_ n2_ n3_ n4_))) | ((with_reducible refine gt 9 ?_); refine bx 9 #[.int .i64 0, .int .i64 0, .bool false] 74 ?_; intro gb385 hg w35 hbox hb; replace HO_3 := am (Kd.V_below (Kd.V_elderB ax80 gb385 (Nat.le_of_eq hg.symm)) hb); replace HO_383000 := am (Kd.R_below (Kd.R_elderB (rX HO_383000) gb385 (Nat.le_of_eq hg.symm)) hb); have BK385 := am (hbox); have GW385 := uH hg HB; have GE385 := uH hg HB; replace HB := uS HB hb; obtain ⟨NB370_385, NB385_370, BK370⟩ := uA hg hb BK370; obtain ⟨NB382_385, NB385_382, BK382⟩ := uA hg hb BK382; clear hb hbox hg; obtain ⟨hnb36, hnc36⟩ := nk NB385_370; obtain ⟨hnb37, hnc37⟩ := nk NB385_382; have hcz38_0 := bc (.int .i64 0) BK385 0; have hcz38_1 := bc (.int .i64 0) BK385 1; have hcz38_2 := bc (.bool false) BK385 2; have hfz38_0 := blk_frozen BK385.out 0; have hfz38_1 := blk_frozen BK385.out 1; have hfz38_2 := blk_frozen BK385.out 2) | ((with_reducible refine gate_store (t := 74) (p := 9) rfl ?_); refine store_event (t := 74) (p := 9) (v := ?vo_w39) (w1 := (((w35.setCell ⟨gb385, 0, none⟩ (.int .i64 (-1))).setCell ⟨gb385, 1, none⟩ (.int .i64 (-1))).setCell ⟨gb385, 2, none⟩ (.bool t384))) ?hg ?ho ?hn ?hr ?_; (case ho => rfl); (case hg => rfl); (case hn => rfl); (case hr => exact ax20); intro w39 hw; have n0_ : Aside0 (Kd.V Kd.string 9 w39 w.heap.size (fun k_ => some k_ ≠ (u383000 : Value).ownBlock ∧ k_ ≠ gb370 ∧ k_ ≠ gb382 ∧ k_ ≠ gb385) (.slice (some ad383) x3_1.length co34) x3_1) := ⟨(by rw [hw]; exact (by (with_reducible repeat (first | apply Kd.V_alloc | apply Kd.V_drewN | apply Kd.V_drew)); exact Kd.V_mono (Kd.V_far (p := ⟨gb385, 2, none⟩) (Kd.V_far (p := ⟨gb385, 1, none⟩) (Kd.V_far (p := ⟨gb385, 0, none⟩) (Kd.V_mono HO_3.out (fun k_ hk => (⟨hk, hk.2⟩ : _ ∧ k_ ≠ gb385))) (fun _ hk => hk.2) (.int .i64 (-1))) (fun _ hk => hk.2) (.int .i64 (-1))) (fun _ hk => hk.2) (.bool t384)) (fun _ hk => ⟨hk.1.1.1, ⟨hk.1.1.2.1, ⟨hk.1.1.2.2, hk.1.2⟩⟩⟩)))⟩; have n1_ : Aside0 (Kd.R k74 74 w39 w.heap.size (fun k_ => k_ ≠ gb385) u383000 x383000_2) := ⟨(by rw [hw]; exact ax82)⟩; have n2_ : Aside0 (w39.heap[gb370]? = some (.cells #[.slice none 0 0] 26 (0, 0))) := ⟨(by rw [hw]; exact (by (with_reducible repeat (first | refine blk_drewN ?_ _ | refine blk_drew ?_ | refine blk_alloc ?_ _)); refine blk_far ?_ NB370_385.out _; (with_reducible repeat (first | refine blk_drewN ?_ _ | refine blk_drew ?_ | refine blk_alloc ?_ _)); refine blk_far ?_ NB370_385.out _; (with_reducible repeat (first | refine blk_drewN ?_ _ | refine blk_drew ?_ | refine blk_alloc ?_ _)); refine blk_far ?_ NB370_385.out _; (with_reducible repeat (first | refine blk_drewN ?_ _ | refine blk_drew ?_ | refine blk_alloc ?_ _)); exact BK370.out))⟩; have n3_ : Aside0 (w39.heap[gb382]? = some (.cells #[u383000] 26 (0, 0))) := ⟨(by rw [hw]; exact (by (with_reducible repeat (first | refine blk_drewN ?_ _ | refine blk_drew ?_ | refine blk_alloc ?_ _)); refine blk_far ?_ NB382_385.out _; (with_reducible repeat (first | refine blk_drewN ?_ _ | refine blk_drew ?_ | refine blk_alloc ?_ _)); refine blk_far ?_ NB382_385.out _; (with_reducible repeat (first | refine blk_drewN ?_ _ | refine blk_drew ?_ | refine blk_alloc ?_ _)); refine blk_far ?_ NB382_385.out _; (with_reducible repeat (first | refine blk_drewN ?_ _ | refine blk_drew ?_ | refine blk_alloc ?_ _)); exact BK382.out))⟩; have n4_ : Aside0 (w39.heap[gb385]? = some (.cells #[.int .i64 (-1), .int .i64 (-1), .bool t384] 74 (0, 0))) := ⟨(by rw [hw]; exact (by (with_reducible repeat (first | refine blk_drewN ?_ _ | refine blk_drew ?_ | refine blk_alloc ?_ _)); refine blk_put (cs := #[.int .i64 (-1), .int .i64 (-1), .bool false]) ?_ 2 _ rfl; (with_reducible repeat (first | refine blk_drewN ?_ _ | refine blk_drew ?_ | refine blk_alloc ?_ _)); refine blk_put (cs := #[.int .i64 (-1), .int .i64 0, .bool false]) ?_ 1 _ rfl; (with_reducible repeat (first | refine blk_drewN ?_ _ | refine blk_drew ?_ | refine blk_alloc ?_ _)); refine blk_put (cs := #[.int .i64 0, .int .i64 0, .bool false]) ?_ 0 _ rfl; (with_reducible repeat (first | refine blk_drewN ?_ _ | refine blk_drew ?_ | refine blk_alloc ?_ _)); exact BK385.out))⟩; have n5_ : Aside0 (Below w.heap.size w w39) := ⟨ax83⟩; clear hw; clear HO_3; clear HO_383000; clear BK370; clear BK382; clear BK385; clear HB; have HO_3 := n0_; have HO_383000 := n1_; have BK370 := n2_; have BK382 := n3_; have BK385 := n4_; have HB := n5_; clear n0_ n1_ n2_ n3_ n4_ n5_; have p28 : 0 ≤ ((ji25) : Int) := of_decide_eq_true ax23; have q28 : (ji25) < ((rdOf ByteArray.empty x3_1 x7_2).size : Int) := of_decide_eq_true ax23; have hx28 := bt_at (rdOf ByteArray.empty x3_1 x7_2) (ji25); replace p28 := eq_true p28; replace q28 := eq_true q28; have hcz40_0 := bc (.int .i64 (-1)) BK385 0; have hcz40_1 := bc (.int .i64 (-1)) BK385 1; have hcz40_2 := bc (.bool t384) BK385 2; have hfz40_0 := blk_frozen BK385.out 0; have hfz40_1 := blk_frozen BK385.out 1; have hfz40_2 := blk_frozen BK385.out 2) | ((with_reducible refine gate_store (t := 3) (p := 59) rfl ?_); refine store_event (t := 3) (p := 59) (v := ?vo_w41) (w1 := (w39.setCell ⟨gb385, 0, none⟩ (.int .i64 (((bt (rdOf ByteArray.empty x3_1 x7_2) (ji25)) - 97) % 256)))) ?hg ?ho ?hn ?hr ?_; (case ho => rfl); (case hg => rfl); (case hn => rfl); (case hr => exact ax20); intro w41 hw; have n0_ : Aside0 (Kd.V Kd.string 9 w41 w.heap.size (fun k_ => some k_ ≠ (u383000 : Value).ownBlock ∧ k_ ≠ gb370 ∧ k_ ≠ gb382 ∧ k_ ≠ gb385) (.slice (some ad383) x3_1.length co34) x3_1) := ⟨(by rw [hw]; exact (by (with_reducible repeat (first | apply Kd.V_alloc | apply Kd.V_drewN | apply Kd.V_drew)); exact Kd.V_mono (Kd.V_far (p := ⟨gb385, 0, none⟩) (Kd.V_mono HO_3.out (fun k_ hk => (⟨hk, hk.2.2.2⟩ : _ ∧ k_ ≠ gb385))) (fun _ hk => hk.2) (.int .i64 (((bt (rdOf ByteArray.empty x3_1 x7_2) (ji25)) - 97) % 256))) (fun _ hk => ⟨hk.1.1, ⟨hk.1.2.1, ⟨hk.1.2.2.1, hk.1.2.2.2⟩⟩⟩)))⟩; have n1_ : Aside0 (Kd.R k74 74 w41 w.heap.size (fun k_ => k_ ≠ gb385) u383000 x383000_2) := ⟨(by rw [hw]; exact (by (with_reducible repeat (first | apply Kd.R_alloc | apply Kd.R_drewN | apply Kd.R_drew)); exact Kd.R_mono (Kd.R_far (p := ⟨gb385, 0, none⟩) (Kd.R_mono HO_383000.out (fun k_ hk => (⟨hk, hk⟩ : _ ∧ k_ ≠ gb385))) (fun _ hk => hk.2) (.int .i64 (((bt (rdOf ByteArray.empty x3_1 x7_2) (ji25)) - 97) % 256))) (fun _ hk => hk.1)))⟩; have n2_ : Aside0 (w41.heap[gb370]? = some (.cells #[.slice none 0 0] 26 (0, 0))) := ⟨(by rw [hw]; exact (by (with_reducible repeat (first | refine blk_drewN ?_ _ | refine blk_drew ?_ | refine blk_alloc ?_ _)); refine blk_far ?_ NB370_385.out _; (with_reducible repeat (first | refine blk_drewN ?_ _ | refine blk_drew ?_ | refine blk_alloc ?_ _)); exact BK370.out))⟩; have n3_ : Aside0 (w41.heap[gb382]? = some (.cells #[u383000] 26 (0, 0))) := ⟨(by rw [hw]; exact (by (with_reducible repeat (first | refine blk_drewN ?_ _ | refine blk_drew ?_ | refine blk_alloc ?_ _)); refine blk_far ?_ NB382_385.out _; (with_reducible repeat (first | refine blk_drewN ?_ _ | refine blk_drew ?_ | refine blk_alloc ?_ _)); exact BK382.out))⟩; have n4_ : Aside0 (w41.heap[gb385]? = some (.cells #[.int .i64 (((bt (rdOf ByteArray.empty x3_1 x7_2) (ji25)) - 97) % 256), .int .i64 (-1), .bool t384] 74 (0, 0))) := ⟨(by rw [hw]; exact (by (with_reducible repeat (first | refine blk_drewN ?_ _ | refine blk_drew ?_ | refine blk_alloc ?_ _)); refine blk_put (cs := #[.int .i64 (-1), .int .i64 (-1), .bool t384]) ?_ 0 _ rfl; (with_reducible repeat (first | refine blk_drewN ?_ _ | refine blk_drew ?_ | refine blk_alloc ?_ _)); exact BK385.out))⟩; have n5_ : Aside0 (Below w.heap.size w w41) := ⟨ax83⟩; clear hw; clear HO_3; clear HO_383000; clear BK370; clear BK382; clear BK385; clear HB; have HO_3 := n0_; have HO_383000 := n1_; have BK370 := n2_; have BK382 := n3_; have BK385 := n4_; have HB := n5_; clear n0_ n1_ n2_ n3_ n4_ n5_) | ((with_reducible refine gd 66 153 ?_); refine gc 66 Tryz.func153 #[.slice (some ad383) x3_1.length co34, .string js31] (spec_l2Place.calls k2 _ _ x3_1 js31 t386 _ ax84 ((Kd.V_reads' HO_3.out).2.1) A32.out) ?_; rintro e w' ⟨rfl, ⟨nd, rfl⟩⟩; refine ⟨_, rfl, ?_⟩; (try (rw [drewN_self w41]; generalize hq_ : World.drewN w41 _ = w41; have n0_ : Aside0 (Kd.V Kd.string 9 w41 w.heap.size (fun k_ => some k_ ≠ (u383000 : Value).ownBlock ∧ k_ ≠ gb370 ∧ k_ ≠ gb382 ∧ k_ ≠ gb385) (.slice (some ad383) x3_1.length co34) x3_1) := ⟨ax81⟩; have n1_ := qR HO_383000 hq_; have n2_ := qB BK370 hq_; have n3_ := qB BK382 hq_; have n4_ := qB BK385 hq_; have n5_ := qL HB hq_; clear HO_3 HO_383000 BK370 BK382 BK385 HB hq_; have HO_3 := n0_; have HO_383000 := n1_; have BK370 := n2_; have BK382 := n3_; have BK385 := n4_; have HB := n5_; clear n0_ n1_ n2_ n3_ n4_ n5_)); have hcz42_0 := bc (.int .i64 (((bt (rdOf ByteArray.empty x3_1 x7_2) (ji25)) - 97) % 256)) BK385 0; have hcz42_1 := bc (.int .i64 (-1)) BK385 1; have hcz42_2 := bc (.bool t384) BK385 2; have hfz42_0 := blk_frozen BK385.out 0; have hfz42_1 := blk_frozen BK385.out 1; have hfz42_2 := blk_frozen BK385.out 2; obtain ⟨hnb43, hnc43⟩ := nk NB382_370; obtain ⟨hcz44_0, hfz44_0⟩ := bz (u383000) BK382) | ((with_reducible refine gate_builtin (b := .append) (xs := #[.tmp 69, .tmp 71]) rfl ?_); at_builtin; refine Kd.R_append k74 (w0 := w) w.heap.size rfl (.tmp 69) (.tmp 71) 24 74 (.agg #[(.int .i64 0), (.int .i64 0), (.bool false)]) 24 rfl Tryz.underlying24 info74 rfl (by decide) (by omega) u383000 x383000_2 (⟨((bt (rdOf ByteArray.empty x3_1 x7_2) (ji25)) - 97) % 256, t386, t384⟩ : S74) [.int .i64 (((bt (rdOf ByteArray.empty x3_1 x7_2) (ji25)) - 97) % 256), .int .i64 t386, .bool t384] (fun k_ => k_ ≠ gb385) (fun _ => False) rfl ax20 ?aP (fun _ hk => hk.elim) ?aF ?aO ?aB ?aS ?aL ?_; (case aP => exact k74_mkM _ _ _ (⟨((bt (rdOf ByteArray.empty x3_1 x7_2) (ji25)) - 97) % 256, t386, t384⟩ : S74)); (case aB => exact aL); (case aF => exact (fun k_ hk => Kd.freshB (g := gb385) (o := .cells #[.int .i64 (((bt (rdOf ByteArray.empty x3_1 x7_2) (ji25)) - 97) % 256), .int .i64 t386, .bool t384] 74 (0, 0)) aU k_ hk)); (case aO => exact (by (with_reducible repeat (first | apply Kd.R_alloc | apply Kd.R_drewN | apply Kd.R_drew)); exact Kd.R_mono (Kd.R_far (p := ⟨gb385, 1, none⟩) (Kd.R_mono HO_383000.out (fun k_ hk => (⟨hk, hk⟩ : _ ∧ k_ ≠ gb385))) (fun _ hk => hk.2) (.int .i64 t386)) (fun _ hk => hk.1))); (case aS => exact ax28); (case aL => have := LMc33.out; omega); intro v388 w45 ho hb hg hat; rw [← Ny387.out] at ho; have n0_ := am (Kd.V_afterv (ok := (fun k_ => k_ ≠ gb370 ∧ k_ ≠ gb382 ∧ k_ ≠ gb385)) (by (with_reducible repeat (first | apply Kd.V_alloc | apply Kd.V_drewN | apply Kd.V_drew)); exact Kd.V_mono (Kd.V_far (p := ⟨gb385, 1, none⟩) (Kd.V_mono HO_3.out (fun k_ hk => (⟨hk, hk.2.2.2⟩ : _ ∧ k_ ≠ gb385))) (fun _ hk => hk.2) (.int .i64 t386)) (fun _ hk => ⟨⟨hk.1.2.1, ⟨hk.1.2.2.1, hk.1.2.2.2⟩⟩, hk.1.1⟩)) hg hat); have n1_ := am (blk_grown (g := gb370) (o := .cells #[.slice none 0 0] 26 (0, 0)) aU hg (Kd.R_ne HO_383000.out BK370.out (by decide))); have n2_ := am (blk_grown (g := gb382) (o := .cells #[u383000] 26 (0, 0)) aU hg (Kd.R_ne HO_383000.out BK382.out (by decide))); have n3_ := am (blk_grown (g := gb385) (o := .cells #[.int .i64 (((bt (rdOf ByteArray.empty x3_1 x7_2) (ji25)) - 97) % 256), .int .i64 t386, .bool t384] 74 (0, 0)) aU hg (Kd.R_away HO_383000.out (fun _ hk => hk))); have n4_ := am (hb); have n5_ := am (ho); clear HO_3; clear BK370; clear BK382; clear BK385; clear HB; clear HO_383000; have HO_3 := n0_; have BK370 := n1_; have BK382 := n2_; have BK385 := n3_; have HB := n4_; have HO389 := n5_; clear n0_ n1_ n2_ n3_ n4_ n5_; clear ho hb hg hat; obtain ⟨Ao46, co46, rfl⟩ := Kd.R_slice HO389.out; obtain ⟨hcz47_0, hfz47_0⟩ := bz (u383000) BK382))
             go_roundg k2
             case measure => have := HK1.out; have := HK2.out; omega
             case rel => exact ⟨(wrap64 (x7_2 + 1)), (y387), (.slice Ao46 y387.length co46), ax18, H', ⟨ax35⟩, ⟨(by (with_reducible repeat (first | apply Kd.V_alloc | apply Kd.V_drewN | apply Kd.V_drew)); exact Kd.V_mono (Kd.V_far (p := ⟨gb382, 0, none⟩) (Kd.V_mono HO_3.out (fun k_ hk => (⟨hk, hk.1.2.1⟩ : _ ∧ k_ ≠ gb382))) (fun _ hk => hk.2) (.slice Ao46 y387.length co46)) (fun _ hk => ⟨hk.1.2, ⟨hk.1.1.1, hk.1.1.2.1⟩⟩))⟩, ⟨aU⟩, ⟨aU⟩, ⟨aU⟩, ⟨aL⟩⟩
            ·exact ax14
           ·rw [if_neg c30] at H
            exact absurd H (by simp)
          ·rw [if_neg c27] at H
           exact absurd H (by simp)
         ·exact ax9
        ·rw [if_neg c24] at H
         have c24b0 := decide_eq_false c24; clear c24
         by_cases c48 : x383000_2.length < 5864062014805
         ·rw [if_pos c48] at H
          have LMc48 := am c48; clear c48; obtain ⟨y390, hy390⟩ : ∃ y_ : List (S74), y_ = (x383000_2 ++ [(⟨(-1), (-1), t384⟩ : S74)]) := ⟨_, rfl⟩
          replace H : (spec_l2Of.l2 k2 l0 x3_1 (wrap64 (x7_2 + 1)) y390) = some r := by first | (rw [hy390]; with_reducible exact H) | (have H2_ := (Option.bind_some _ _).symm.trans H; rw [hy390]; with_reducible exact H2_) | (have H2_ := (Option.bind_some _ _).symm.trans H; with_reducible exact H2_) | with_reducible exact H | (rw [hy390]; exact H) | exact H
          have Ny390 := am hy390; clear hy390; have H' := am H; clear H; obtain ⟨Ao49, co49, eo49⟩ := Kd.V_slice HO_3.out; subst eo49; have p383 : 0 ≤ (x7_2 : Int) := of_decide_eq_true ax23; have q383 : x7_2 < (x3_1.length : Int) := of_decide_eq_true ax23; obtain ⟨ad383, e383, hx383_0⟩ := Kd.at_string (Kd.V_reads' HO_3.out).2.2 x7_2 p383 q383
          cases e383
          replace p383 := eq_true p383; replace q383 := eq_true q383
          go_wp2_with (first | ((with_reducible refine gd 48 114 ?_); refine gc 48 Tryz.func114 #[.slice A0 l0.length c0, .string (rdOf ByteArray.empty x3_1 x7_2)] (spec_l2Has.calls k2 _ _ l0 (rdOf ByteArray.empty x3_1 x7_2) t384 _ ax42 (HC0.out) A23.out) ?_; rintro e w' ⟨rfl, ⟨nd, rfl⟩⟩; refine ⟨_, rfl, ?_⟩; (try (rw [drewN_self wr]; generalize hq_ : World.drewN wr _ = wr; have n0_ : Aside0 (Kd.V Kd.string 9 wr w.heap.size (fun k_ => some k_ ≠ (u383000 : Value).ownBlock ∧ k_ ≠ gb370 ∧ k_ ≠ gb382) (.slice (some ad383) x3_1.length co49) x3_1) := ⟨ax81⟩; have n1_ := qR HO_383000 hq_; have n2_ := qB BK370 hq_; have n3_ := qB BK382 hq_; have n4_ := qL HB hq_; clear HO_3 HO_383000 BK370 BK382 HB hq_; have HO_3 := n0_; have HO_383000 := n1_; have BK370 := n2_; have BK382 := n3_; have HB := n4_; clear n0_ n1_ n2_ n3_ n4_))) | ((with_reducible refine gt 9 ?_); refine bx 9 #[.int .i64 0, .int .i64 0, .bool false] 74 ?_; intro gb385 hg w50 hbox hb; replace HO_3 := am (Kd.V_below (Kd.V_elderB ax80 gb385 (Nat.le_of_eq hg.symm)) hb); replace HO_383000 := am (Kd.R_below (Kd.R_elderB (rX HO_383000) gb385 (Nat.le_of_eq hg.symm)) hb); have BK385 := am (hbox); have GW385 := uH hg HB; have GE385 := uH hg HB; replace HB := uS HB hb; obtain ⟨NB370_385, NB385_370, BK370⟩ := uA hg hb BK370; obtain ⟨NB382_385, NB385_382, BK382⟩ := uA hg hb BK382; clear hb hbox hg; obtain ⟨hnb51, hnc51⟩ := nk NB385_370; obtain ⟨hnb52, hnc52⟩ := nk NB385_382; have hcz53_0 := bc (.int .i64 0) BK385 0; have hcz53_1 := bc (.int .i64 0) BK385 1; have hcz53_2 := bc (.bool false) BK385 2; have hfz53_0 := blk_frozen BK385.out 0; have hfz53_1 := blk_frozen BK385.out 1; have hfz53_2 := blk_frozen BK385.out 2; obtain ⟨hnb54, hnc54⟩ := nk NB382_370; obtain ⟨hcz55_0, hfz55_0⟩ := bz (u383000) BK382) | ((with_reducible refine gate_builtin (b := .append) (xs := #[.tmp 69, .tmp 71]) rfl ?_); at_builtin; refine Kd.R_append k74 (w0 := w) w.heap.size rfl (.tmp 69) (.tmp 71) 24 74 (.agg #[(.int .i64 0), (.int .i64 0), (.bool false)]) 24 rfl Tryz.underlying24 info74 rfl (by decide) (by omega) u383000 x383000_2 (⟨(-1), (-1), t384⟩ : S74) [.int .i64 (-1), .int .i64 (-1), .bool t384] (fun k_ => k_ ≠ gb385) (fun _ => False) rfl ax20 ?aP (fun _ hk => hk.elim) ?aF ?aO ?aB ?aS ?aL ?_; (case aP => exact k74_mkM _ _ _ (⟨(-1), (-1), t384⟩ : S74)); (case aB => exact aL); (case aF => exact (fun k_ hk => Kd.freshB (g := gb385) (o := .cells #[.int .i64 (-1), .int .i64 (-1), .bool t384] 74 (0, 0)) aU k_ hk)); (case aO => exact ax82); (case aS => exact ax28); (case aL => have := LMc48.out; omega); intro v391 w56 ho hb hg hat; rw [← Ny390.out] at ho; have n0_ := am (Kd.V_afterv (ok := (fun k_ => k_ ≠ gb370 ∧ k_ ≠ gb382 ∧ k_ ≠ gb385)) (by (with_reducible repeat (first | apply Kd.V_alloc | apply Kd.V_drewN | apply Kd.V_drew)); exact Kd.V_mono (Kd.V_far (p := ⟨gb385, 2, none⟩) (Kd.V_far (p := ⟨gb385, 1, none⟩) (Kd.V_far (p := ⟨gb385, 0, none⟩) (Kd.V_mono HO_3.out (fun k_ hk => (⟨hk, hk.2⟩ : _ ∧ k_ ≠ gb385))) (fun _ hk => hk.2) (.int .i64 (-1))) (fun _ hk => hk.2) (.int .i64 (-1))) (fun _ hk => hk.2) (.bool t384)) (fun _ hk => ⟨⟨hk.1.1.2.1, ⟨hk.1.1.2.2, hk.1.2⟩⟩, hk.1.1.1⟩)) hg hat); have n1_ := am (blk_grown (g := gb370) (o := .cells #[.slice none 0 0] 26 (0, 0)) aU hg (Kd.R_ne HO_383000.out BK370.out (by decide))); have n2_ := am (blk_grown (g := gb382) (o := .cells #[u383000] 26 (0, 0)) aU hg (Kd.R_ne HO_383000.out BK382.out (by decide))); have n3_ := am (blk_grown (g := gb385) (o := .cells #[.int .i64 (-1), .int .i64 (-1), .bool t384] 74 (0, 0)) aU hg (Kd.R_away HO_383000.out (fun _ hk => hk.2))); have n4_ := am (hb); have n5_ := am (ho); clear HO_3; clear BK370; clear BK382; clear BK385; clear HB; clear HO_383000; have HO_3 := n0_; have BK370 := n1_; have BK382 := n2_; have BK385 := n3_; have HB := n4_; have HO392 := n5_; clear n0_ n1_ n2_ n3_ n4_ n5_; clear ho hb hg hat; obtain ⟨Ao57, co57, rfl⟩ := Kd.R_slice HO392.out; obtain ⟨hcz58_0, hfz58_0⟩ := bz (u383000) BK382))
          go_roundg k2
          case measure => have := HK1.out; have := HK2.out; omega
          case rel => exact ⟨(wrap64 (x7_2 + 1)), (y390), (.slice Ao57 y390.length co57), ax18, H', ⟨ax35⟩, ⟨(by (with_reducible repeat (first | apply Kd.V_alloc | apply Kd.V_drewN | apply Kd.V_drew)); exact Kd.V_mono (Kd.V_far (p := ⟨gb382, 0, none⟩) (Kd.V_mono HO_3.out (fun k_ hk => (⟨hk, hk.1.2.1⟩ : _ ∧ k_ ≠ gb382))) (fun _ hk => hk.2) (.slice Ao57 y390.length co57)) (fun _ hk => ⟨hk.1.2, ⟨hk.1.1.1, hk.1.1.2.1⟩⟩))⟩, ⟨aU⟩, ⟨aU⟩, ⟨aU⟩, ⟨aL⟩⟩
         ·rw [if_neg c48] at H
          exact absurd H (by simp)
       ·rw [if_neg c22] at H
        exact absurd H (by simp)
      ·rw [if_neg c21] at H
       have c21b0 := decide_eq_false c21; clear c21; obtain rfl := Option.some.inj H; obtain ⟨Ao59, co59, eo59⟩ := Kd.V_slice HO_3.out; subst eo59; obtain ⟨hnb60, hnc60⟩ := nk NB382_370; obtain ⟨hcz61_0, hfz61_0⟩ := bz (u383000) BK382; obtain ⟨Ao62, co62, rfl⟩ := Kd.R_slice HO_383000.out; obtain ⟨hcz63_0, hfz63_0⟩ := bz (.slice none 0 0) BK370
       go_wp2
       refine bodyPost_ret (results_cell_row rfl _ _ gb370 26 #[.slice Ao62 x383000_2.length co62] (0, 0) _ rfl (by (with_reducible repeat (first | refine blk_drewN ?_ _ | refine blk_drew ?_ | refine blk_alloc ?_ _)); refine blk_put (cs := #[.slice none 0 0]) ?_ 0 _ rfl; (with_reducible repeat (first | refine blk_drewN ?_ _ | refine blk_drew ?_ | refine blk_alloc ?_ _)); exact BK370.out) Tryz.underlying26 rfl (by kernel_rfl)) rfl ?_
       exact ⟨_, ax21, aU, aL⟩

/-! ### spec_l2Word: function 117 -/
mutual
def spec_l2Word.l0 : Nat → ByteArray → Int → Option (Bool)
 | 0, _, _ => none
 | k + 1, x0, x3 => if x3 < (x0.size : Int) then (spec_l2Word.j1 k x0 x3 (decide (x3 ≤ 12))) else (spec_l2Word.j1 k x0 x3 false)
def spec_l2Word.j1 : Nat → ByteArray → Int → Bool → Option (Bool)
 | 0, _, _, _ => none
 | k + 1, x0, x3, x11 => if x11 = true then (if 0 ≤ x3 then (if x3 < (x0.size : Int) then (if (bt x0 x3) < 97 then (some false) else (if (bt x0 x3) > 122 then (some false) else (spec_l2Word.l0 k x0 (wrap64 (x3 + 1))))) else (none)) else (none)) else (some (decide ((x0.size : Int) ≤ 12)))
end
def spec_l2Word.f (k : Nat) (a0 : ByteArray) : Option (Bool) := spec_l2Word.l0 k a0 0
theorem spec_l2Word.calls (k : Nat) (a0 : ByteArray) (r : Bool) (w : World) (h : spec_l2Word.f k a0 = some r) :
  Calls Tryz.prog 117 #[.string a0] w fun e w' => e = .returned (.bool r) ∧ Drawn0 w w' := by
 unfold spec_l2Word.f at h
 have H := h; clear h; have H' := am H; clear H
 go_enter Tryz.func117, Tryz.ntmps117
 go_wp2
 go_loopg [3] k (fun kq v3 w' => ∃ (x3_1 : Int), v3 = .int .i64 x3_1 ∧ Aside0 (spec_l2Word.l0 kq a0 x3_1 = some r) ∧ Aside0 (kq ≤ k) ∧ Drawn0 w w')
 case atStart => exact ⟨(0), ax18, H', ⟨Nat.le_refl _⟩, by repeat (first | exact Drawn0.refl _ | apply Drawn0.step)⟩
 case round =>
  clear H'; obtain ⟨x3_1, rfl, HA, HK1, ⟨m1, rfl⟩⟩ := hrel
  cases gk with
  | zero => exact absurd HA.out (by simp [spec_l2Word.l0])
  | succ k1 =>
   have H := HA.out; clear HA; simp only [spec_l2Word.l0] at H; have HC2 := am H; clear H
   go_upto_region 2 with (fail)
   go_cut [11] (fun v11 wc => ∃ (kq : Nat) (x11_1 : Bool), v11 = .bool x11_1 ∧ Aside0 (spec_l2Word.j1 kq a0 x3_1 x11_1 = some r) ∧ Aside0 (kq ≤ k1) ∧ Drawn0 w wc)
   case first =>
    have H := HC2.out; clear HC2
    by_cases c3 : x3_1 < (a0.size : Int)
    ·rw [if_pos c3] at H
     have c3b0 := decide_eq_true c3; clear c3; (first | rw [c3b0] | (simp only [i64_w, i32_w]; rw [c3b0]) | skip); have H' := am H; clear H
     go_wp2
     go_meet
     case rel => exact ⟨_, (decide (x3_1 ≤ 12)), ax18, H', ⟨ax52⟩, ax19⟩
    ·rw [if_neg c3] at H
     have c3b0 := decide_eq_false c3; clear c3; (first | rw [c3b0] | (simp only [i64_w, i32_w]; rw [c3b0]) | skip); have H' := am H; clear H
     go_wp2
     go_meet
     case rel => exact ⟨_, (false), ax18, H', ⟨ax52⟩, ax19⟩
   case rest =>
    clear HC2; obtain ⟨kq, x11_1, rfl, HA, HJ1, ⟨mc1, rfl⟩⟩ := hcut
    cases kq with
    | zero => exact absurd HA.out (by simp [spec_l2Word.j1])
    | succ kj1 =>
     have H := HA.out; clear HA; simp only [spec_l2Word.j1] at H
     by_cases c4 : x11_1 = true
     ·subst c4
      rw [if_pos rfl] at H
      by_cases c5 : 0 ≤ x3_1
      ·rw [if_pos c5] at H
       have c5b0 := decide_eq_true c5; clear c5
       by_cases c6 : x3_1 < (a0.size : Int)
       ·rw [if_pos c6] at H
        have c6b0 := decide_eq_true c6; clear c6
        by_cases c8 : (bt a0 x3_1) < 97
        ·rw [if_pos c8] at H
         have c8b0 := decide_eq_true c8; clear c8; obtain rfl := Option.some.inj H; have p7 : 0 ≤ (x3_1 : Int) := of_decide_eq_true ax23; have q7 : x3_1 < (a0.size : Int) := of_decide_eq_true ax23; have hx7 := bt_at a0 x3_1; replace p7 := eq_true p7; replace q7 := eq_true q7
         go_wp2
         go_ret
         exact ⟨ax18, ax19⟩
        ·rw [if_neg c8] at H
         have c8b0 := decide_eq_false c8; clear c8
         by_cases c10 : (bt a0 x3_1) > 122
         ·rw [if_pos c10] at H
          have c10b0 := decide_eq_true c10; clear c10; obtain rfl := Option.some.inj H; have p7 : 0 ≤ (x3_1 : Int) := of_decide_eq_true ax23; have q7 : x3_1 < (a0.size : Int) := of_decide_eq_true ax23; have hx7 := bt_at a0 x3_1; replace p7 := eq_true p7; replace q7 := eq_true q7; have p9 : 0 ≤ (x3_1 : Int) := of_decide_eq_true ax23; have q9 : x3_1 < (a0.size : Int) := of_decide_eq_true ax23; have hx9 := bt_at a0 x3_1; replace p9 := eq_true p9; replace q9 := eq_true q9
          go_wp2
          go_ret
          exact ⟨ax18, ax19⟩
         ·rw [if_neg c10] at H
          have c10b0 := decide_eq_false c10; clear c10; have H' := am H; clear H; have p7 : 0 ≤ (x3_1 : Int) := of_decide_eq_true ax23; have q7 : x3_1 < (a0.size : Int) := of_decide_eq_true ax23; have hx7 := bt_at a0 x3_1; replace p7 := eq_true p7; replace q7 := eq_true q7; have p9 : 0 ≤ (x3_1 : Int) := of_decide_eq_true ax23; have q9 : x3_1 < (a0.size : Int) := of_decide_eq_true ax23; have hx9 := bt_at a0 x3_1; replace p9 := eq_true p9; replace q9 := eq_true q9
          go_wp2
          go_roundg kj1
          case measure => have := HK1.out; have := HJ1.out; omega
          case rel => exact ⟨(wrap64 (x3_1 + 1)), ax18, H', ⟨(by have := HK1.out; have := HJ1.out; omega)⟩, ax19⟩
       ·exact ax5
      ·exact ax6
     ·replace c4 := Bool.eq_false_iff.mpr c4
      subst c4; rw [if_neg (show ¬ (false = true) by decide)] at H; obtain rfl := Option.some.inj H
      go_wp2
      go_ret
      exact ⟨ax18, ax19⟩

end Go.Proofs.YtcplbbflfgckbaaGreatDoor.X
namespace Go.Proofs.YtcplbbflfgckbaaGreatDoor.X
open Go.RowKit Go.Proofs.YtcplbbflfgckbaaGreatDoorW.PrintWords Go.Proofs.YtcplbbflfgckbaaGreatDoorW.PrintLast Go.Proofs.YtcplbbflfgckbaaGreatDoorW.PrintMore
attribute [local go_sem] max2_int min2_int max_two min_two max_three min_three max_four min_four   -- for this text's walks alone
set_option linter.unusedVariables false
set_option linter.unusedSimpArgs false
set_option maxHeartbeats 8000000
set_option maxRecDepth 100000

attribute [local go_sem high] eqA74
/-! ### spec_l2Set: function 144 -/
def spec_l2Set.l0 : Nat → List ByteArray → List ByteArray → Int → Option (List ByteArray × Bool)
 | 0, _, _, _ => none
 | k + 1, x0, x4, x5 => if x5 < (x0.length : Int) then (if 0 ≤ x5 then ((spec_l2Word.f k (rdOf ByteArray.empty x0 x5)).bind fun t397 => (if t397 = true then ((spec_l2Put.f k x4 (rdOf ByteArray.empty x0 x5)).bind fun t399 => (spec_l2Set.l0 k x0 t399 (wrap64 (x5 + 1)))) else (some ((([] : List ByteArray)), false)))) else (none)) else (some (x4, decide ((x4.length : Int) ≤ 40)))
def spec_l2Set.f (k : Nat) (l0 : List ByteArray) : Option (List ByteArray × Bool) := spec_l2Set.l0 k l0 (([] : List ByteArray)) 0
theorem spec_l2Set.calls (k : Nat) (A0 : Option Addr) (c0 : Nat) (l0 : List ByteArray) (r1 : List ByteArray) (r2 : Bool) (w : World) (hr0 : Kd.C Kd.string w A0 l0.length l0) (hc0 : l0.length ≤ c0) (h : spec_l2Set.f k l0 = some (r1, r2)) :
  Calls Tryz.prog 144 #[.slice A0 l0.length c0] w fun e w' => ∃ v0_ : Value, e = .returned (.tuple #[v0_, .bool r2]) ∧ Kd.V Kd.string 9 w' w.heap.size (fun k_ => (w.heap.size ≤ k_)) v0_ r1 ∧ Below w.heap.size w w' := by
 have HR0 := am hr0; have HC0 := am hc0; clear hr0 hc0; have HB := am (Below.refl w.heap.size w)
 unfold spec_l2Set.f at h
 have H := h; clear h; obtain ⟨y393, hy393⟩ : ∃ y_ : List ByteArray, y_ = (([] : List ByteArray)) := ⟨_, rfl⟩
 replace H : (spec_l2Set.l0 k l0 y393 0) = some (r1, r2) := by first | (rw [hy393]; with_reducible exact H) | (have H2_ := (Option.bind_some _ _).symm.trans H; rw [hy393]; with_reducible exact H2_) | (have H2_ := (Option.bind_some _ _).symm.trans H; with_reducible exact H2_) | with_reducible exact H | (rw [hy393]; exact H) | exact H
 have Ny393 := am hy393; clear hy393; have H' := am H; clear H
 go_enter Tryz.func144, Tryz.ntmps144
 go_wp2_with (first | ((with_reducible refine gt 6 ?_); refine Kd.R_lit Kd.string _ 9 ?hg (N := 6) ?hd (xs := ([] : List ByteArray)) (inner := []) (ok := fun _ => True) (okp := fun _ => True) ?hr ?hp (fun _ hk => hk) trivial (Below.refl _ _) (Nat.le_refl _) (by simp) ?_; (case hd => rfl); (case hg => rfl); (case hr => exact ax20); (case hp => exact ax31); intro v394 w2 ho3 hb hg_ hnew_; clear hg_ hnew_; (first | rw [← Ny393.out] at ho3 | (simp only [Int.reduceToNat] at ho3; rw [← Ny393.out] at ho3)); have HO395 := am (Kd.R_lower (Kd.R_newM (M := fun k_ => (w.heap.size ≤ k_)) ho3 (bS HB) (fun k_ h_ => h_)) (bS HB)); replace HB := uB HB hb; clear hb ho3))
 go_loopg [4, 5] k (fun kq v4 v5 w' => ∃ (x4_1 : List ByteArray) (x5_1 : Int), v5 = .int .i64 x5_1 ∧ Aside0 (spec_l2Set.l0 kq l0 x4_1 x5_1 = some (r1, r2)) ∧ Aside0 (kq ≤ k) ∧ Aside0 (Kd.V Kd.string 9 w' w.heap.size (fun k_ => (w.heap.size ≤ k_)) v4 x4_1) ∧ Aside0 (Below w.heap.size w w'))
 case atStart => exact ⟨(y393), (0), ax18, H', ⟨Nat.le_refl _⟩, ⟨Kd.R_V (by (with_reducible repeat (first | apply Kd.R_alloc | apply Kd.R_drewN | apply Kd.R_drew)); exact Kd.R_mono HO395.out (fun _ hk => hk.1))⟩, ⟨aL⟩⟩
 case round =>
  clear H'; obtain ⟨x4_1, x5_1, rfl, HA, HK1, HO_4, HB⟩ := hrel
  cases gk with
  | zero => exact absurd HA.out (by simp [spec_l2Set.l0])
  | succ k1 =>
   have H := HA.out; clear HA; simp only [spec_l2Set.l0] at H
   by_cases c4 : x5_1 < (l0.length : Int)
   ·rw [if_pos c4] at H
    have c4b0 := decide_eq_true c4; clear c4
    by_cases c5 : 0 ≤ x5_1
    ·rw [if_pos c5] at H
     have c5b0 := decide_eq_true c5; clear c5; obtain ⟨t397, A6, H⟩ := bs H
     by_cases c7 : t397 = true
     ·subst c7
      rw [if_pos rfl] at H; obtain ⟨t399, A8, H⟩ := bs H; have H' := am H; clear H; have p396 : 0 ≤ (x5_1 : Int) := of_decide_eq_true ax23; have q396 : x5_1 < (l0.length : Int) := of_decide_eq_true ax23; obtain ⟨ad396, e396, hx396_0⟩ := Kd.at_string HR0.out x5_1 p396 q396
      cases e396
      replace hx396_0 := uC HB hx396_0; replace p396 := eq_true p396; replace q396 := eq_true q396
      go_wp2_with (first | ((with_reducible refine gd 17 117 ?_); refine gc 17 Tryz.func117 #[.string (rdOf ByteArray.empty l0 x5_1)] (spec_l2Word.calls k1 (rdOf ByteArray.empty l0 x5_1) true _ A6.out) ?_; rintro e w' ⟨rfl, ⟨nd, rfl⟩⟩; refine ⟨_, rfl, ?_⟩; have p398 : 0 ≤ (x5_1 : Int) := of_decide_eq_true ax23; have q398 : x5_1 < (l0.length : Int) := of_decide_eq_true ax23; obtain ⟨ad398, e398, hx398_0⟩ := Kd.at_string HR0.out x5_1 p398 q398; obtain rfl : ad396 = ad398 := (by injection e398); replace hx398_0 := uC HB hx398_0; replace p398 := eq_true p398; replace q398 := eq_true q398; obtain ⟨Ao9, co9, eo9⟩ := Kd.V_slice HO_4.out; subst eo9) | ((with_reducible refine gd 25 149 ?_); refine gc 25 Tryz.func149 #[.slice Ao9 x4_1.length co9, .string (rdOf ByteArray.empty l0 x5_1)] (spec_l2Put.calls k1 (fun k_ => (w.heap.size ≤ k_)) _ _ x4_1 (rdOf ByteArray.empty l0 x5_1) t399 _ (HO_4.out) A8.out) ?_; rintro e w10 ⟨v400, rfl, ho0, hb⟩; refine ⟨_, rfl, ?_⟩; replace HO_4 := am (Kd.V_below ax85 hb); have HO401 := am (Kd.V_lower (Kd.V_mono (ok' := fun k_ => (w.heap.size ≤ k_)) ho0 (fun k_ hk_ => Or.elim hk_ (fun hs_ => hs_) (fun hn_ => (Nat.le_trans (bS HB) hn_)))) (bS HB)); replace HB := uB HB hb; (try clear hb ho0)))
      go_roundg k1
      case measure => have := HK1.out; omega
      case rel => exact ⟨(t399), (wrap64 (x5_1 + 1)), ax18, H', ⟨by have := HK1.out; omega⟩, ⟨(by (with_reducible repeat (first | apply Kd.V_alloc | apply Kd.V_drewN | apply Kd.V_drew)); exact HO401.out)⟩, ⟨aL⟩⟩
     ·replace c7 := Bool.eq_false_iff.mpr c7
      subst c7; rw [if_neg (show ¬ (false = true) by decide)] at H; obtain ⟨y402, hy402⟩ : ∃ y_ : List ByteArray, y_ = (([] : List ByteArray)) := ⟨_, rfl⟩
      replace H : (some (y402, false)) = some (r1, r2) := by first | (rw [hy402]; with_reducible exact H) | (have H2_ := (Option.bind_some _ _).symm.trans H; rw [hy402]; with_reducible exact H2_) | (have H2_ := (Option.bind_some _ _).symm.trans H; with_reducible exact H2_) | with_reducible exact H | (rw [hy402]; exact H) | exact H
      have Ny402 := am hy402; clear hy402; simp only [Option.some.injEq, Prod.mk.injEq] at H; obtain ⟨rfl, rfl⟩ := H; have p396 : 0 ≤ (x5_1 : Int) := of_decide_eq_true ax23; have q396 : x5_1 < (l0.length : Int) := of_decide_eq_true ax23; obtain ⟨ad396, e396, hx396_0⟩ := Kd.at_string HR0.out x5_1 p396 q396
      cases e396
      replace hx396_0 := uC HB hx396_0; replace p396 := eq_true p396; replace q396 := eq_true q396
      go_wp2_with (first | ((with_reducible refine gd 17 117 ?_); refine gc 17 Tryz.func117 #[.string (rdOf ByteArray.empty l0 x5_1)] (spec_l2Word.calls k1 (rdOf ByteArray.empty l0 x5_1) false _ A6.out) ?_; rintro e w' ⟨rfl, ⟨nd, rfl⟩⟩; refine ⟨_, rfl, ?_⟩) | ((with_reducible refine gt 19 ?_); refine Kd.R_lit Kd.string _ 9 ?hg (N := 19) ?hd (xs := ([] : List ByteArray)) (inner := []) (ok := fun _ => True) (okp := fun _ => True) ?hr ?hp (fun _ hk => hk) trivial (Below.refl _ _) (Nat.le_refl _) (by simp) ?_; (case hd => rfl); (case hg => rfl); (case hr => exact ax20); (case hp => exact ax31); intro v403 w11 ho12 hb hg_ hnew_; clear hg_ hnew_; (first | rw [← Ny402.out] at ho12 | (simp only [Int.reduceToNat] at ho12; rw [← Ny402.out] at ho12)); have HO404 := am (Kd.R_lower (Kd.R_newM (M := fun k_ => (w.heap.size ≤ k_)) ho12 (bS HB) (fun k_ h_ => h_)) (bS HB)); replace HB := uB HB hb; clear hb ho12))
      go_ret2
      exact ⟨_, ax21, Kd.R_V (by (with_reducible repeat (first | apply Kd.R_alloc | apply Kd.R_drewN | apply Kd.R_drew)); exact Kd.R_mono HO404.out (fun _ hk => hk.1)), aL⟩
    ·exact ax6
   ·rw [if_neg c4] at H
    have c4b0 := decide_eq_false c4; clear c4; simp only [Option.some.injEq, Prod.mk.injEq] at H; obtain ⟨rfl, rfl⟩ := H; obtain ⟨Ao13, co13, eo13⟩ := Kd.V_slice HO_4.out; subst eo13
    go_wp2
    go_ret2
    exact ⟨_, ax21, ax85, aL⟩

/-! ### spec_TrieOf: function 48 -/
def spec_TrieOf.f (k : Nat) (l0 : List ByteArray) : Option ((List (S74)) × Bool) := (spec_l2Set.f k l0).bind fun bt406 => (if bt406.2 = true then ((spec_l2Of.f k bt406.1).bind fun t410 => (some (t410, true))) else (some (([] : List (S74)), false)))
theorem spec_TrieOf.calls (k : Nat) (A0 : Option Addr) (c0 : Nat) (l0 : List ByteArray) (r1 : List (S74)) (r2 : Bool) (w : World) (hr0 : Kd.C Kd.string w A0 l0.length l0) (hc0 : l0.length ≤ c0) (h : spec_TrieOf.f k l0 = some (r1, r2)) :
  Calls Tryz.prog 48 #[.slice A0 l0.length c0] w fun e w' => ∃ v0_ : Value, e = .returned (.tuple #[.agg #[v0_], .bool r2]) ∧ Kd.R k74 74 w' w.heap.size (fun _ => True) v0_ r1 ∧ Below w.heap.size w w' := by
 have hu26 := Tryz.underlying26; have HR0 := am hr0; have HC0 := am hc0; clear hr0 hc0; have HB := am (Below.refl w.heap.size w)
 unfold spec_TrieOf.f at h
 have H := h; clear h; obtain ⟨⟨t406, t409⟩, A2, H⟩ := bs H
 by_cases c3 : t409 = true
 ·subst c3
  rw [if_pos rfl] at H; obtain ⟨t410, A4, H⟩ := bs H; simp only [Option.some.injEq, Prod.mk.injEq] at H; obtain ⟨rfl, rfl⟩ := H
  go_enter Tryz.func48, Tryz.ntmps48
  go_wp2_with (first | ((with_reducible refine gt 2 ?_); refine bx 2 #[.slice none 0 0] 26 ?_; intro gb405 hg w5 hbox hb; have BK405 := am (hbox); have GW405 := uG hg HB; have GE405 := uG hg HB; replace HB := uB HB hb; clear hb hbox hg) | ((with_reducible refine gd 8 144 ?_); refine gc 8 Tryz.func144 #[.slice A0 l0.length c0] (spec_l2Set.calls k _ _ l0 t406 true _ ax42 (HC0.out) A2.out) ?_; rintro e w6 ⟨v407, rfl, ho0, hb⟩; refine ⟨_, rfl, ?_⟩; have HO408 := am (Kd.V_lower (Kd.V_mono (ok' := fun k_ => k_ ≠ gb405) ho0 (fun k_ hk_ => (Kd.freshB (g := gb405) (o := .cells #[.slice none 0 0] 26 (0, 0)) aU k_ hk_))) (bS HB)); replace BK405 := ub BK405 hb; replace HB := uS HB hb; (try clear hb ho0); obtain ⟨Ao7, co7, eo7⟩ := Kd.V_slice HO408.out; subst eo7) | ((with_reducible refine gd 15 123 ?_); refine gc 15 Tryz.func123 #[.slice Ao7 t406.length co7] (spec_l2Of.calls k _ _ t406 t410 _ (by repeat (first | exact (Kd.V_reads' HO408.out).2.2 | (with_reducible refine Kd.C_alloc ?_ _) | (with_reducible refine Kd.C_drewN ?_ _) | (with_reducible refine Kd.C_drew ?_))) ((Kd.V_reads' HO408.out).2.1) A4.out) ?_; rintro e w8 ⟨v411, rfl, ho0, hb⟩; refine ⟨_, rfl, ?_⟩; replace HO408 := am (Kd.V_elder' (by (with_reducible repeat (first | apply Kd.V_alloc | apply Kd.V_drewN | apply Kd.V_drew)); exact HO408.out) (Kd.R_base ho0) hb); have HO412 := am (Kd.R_lower ho0 (bS HB)); replace BK405 := ub BK405 hb; replace HB := uS HB hb; (try clear hb ho0); obtain ⟨Ao9, co9, rfl⟩ := Kd.R_slice HO412.out; obtain ⟨hcz10_0, hfz10_0⟩ := bz (.slice none 0 0) BK405))
  refine bodyPost_ret (results_ct rfl _ _ gb405 26 #[.slice Ao9 t410.length co9] (0, 0) _ rfl ax86 Tryz.underlying26 rfl (by kernel_rfl)) rfl ?_
  exact ⟨_, ax21, aU, aL⟩
 ·replace c3 := Bool.eq_false_iff.mpr c3
  subst c3; rw [if_neg (show ¬ (false = true) by decide)] at H; simp only [Option.some.injEq, Prod.mk.injEq] at H; obtain ⟨rfl, rfl⟩ := H
  go_enter Tryz.func48, Tryz.ntmps48
  go_wp2_with (first | ((with_reducible refine gt 2 ?_); refine bx 2 #[.slice none 0 0] 26 ?_; intro gb405 hg w11 hbox hb; have BK405 := am (hbox); have GW405 := uG hg HB; have GE405 := uG hg HB; replace HB := uB HB hb; clear hb hbox hg) | ((with_reducible refine gd 8 144 ?_); refine gc 8 Tryz.func144 #[.slice A0 l0.length c0] (spec_l2Set.calls k _ _ l0 t406 false _ ax42 (HC0.out) A2.out) ?_; rintro e w12 ⟨v407, rfl, ho0, hb⟩; refine ⟨_, rfl, ?_⟩; have HO408 := am (Kd.V_lower (Kd.V_mono (ok' := fun k_ => k_ ≠ gb405) ho0 (fun k_ hk_ => (Kd.freshB (g := gb405) (o := .cells #[.slice none 0 0] 26 (0, 0)) aU k_ hk_))) (bS HB)); replace BK405 := ub BK405 hb; replace HB := uS HB hb; (try clear hb ho0); obtain ⟨hcz13_0, hfz13_0⟩ := bz (.slice none 0 0) BK405))
  refine bodyPost_ret (results_ct rfl _ _ gb405 26 #[.slice none 0 0] (0, 0) _ rfl ax86 Tryz.underlying26 rfl (by kernel_rfl)) rfl ?_
  exact ⟨_, ax21, ax29, aL⟩

/-! ### laws_rTrie: function 49 -/
def laws_rTrie.l0 : Nat → Int → List (S74) → List (S74) → Option (Bool)
 | 0, _, _, _ => none
 | k + 1, x5, x414000, x415000 => if x5 < (x414000.length : Int) then (if 0 ≤ x5 then (if x5 < (x415000.length : Int) then (if (!(((rd_T74 x414000 x5).f0) == ((rd_T74 x415000 x5).f0)) || (!(((rd_T74 x414000 x5).f1) == ((rd_T74 x415000 x5).f1)) || (!(((rd_T74 x414000 x5).f2) == ((rd_T74 x415000 x5).f2))))) = true then (some false) else (laws_rTrie.l0 k (wrap64 (x5 + 1)) x414000 x415000)) else (none)) else (none)) else (some true)
def laws_rTrie.f (k : Nat) (l0_0 : List (S74)) (l1_0 : List (S74)) : Option (Bool) := if (l0_0.length : Int) = (l1_0.length : Int) then (laws_rTrie.l0 k 0 l0_0 l1_0) else (some false)
theorem laws_rTrie.calls (k : Nat) (A0_0 : Option Addr) (c0_0 : Nat) (l0_0 : List (S74)) (A1_0 : Option Addr) (c1_0 : Nat) (l1_0 : List (S74)) (r : Bool) (w : World) (hr0_0 : Kd.C k74 w A0_0 l0_0.length l0_0) (hc0_0 : l0_0.length ≤ c0_0) (hr1_0 : Kd.C k74 w A1_0 l1_0.length l1_0) (hc1_0 : l1_0.length ≤ c1_0) (h : laws_rTrie.f k l0_0 l1_0 = some r) :
  Calls Tryz.prog 49 #[.agg #[.slice A0_0 l0_0.length c0_0], .agg #[.slice A1_0 l1_0.length c1_0]] w fun e w' => e = .returned (.bool r) ∧ Below w.heap.size w w' := by
 have hu26 := Tryz.underlying26; have hu74 := Tryz.underlying74; have HR0_0 := am hr0_0; have HC0_0 := am hc0_0; clear hr0_0 hc0_0; have HR1_0 := am hr1_0; have HC1_0 := am hc1_0; clear hr1_0 hc1_0; have HB := am (Below.refl w.heap.size w)
 unfold laws_rTrie.f at h
 have H := h; clear h
 by_cases c3 : (l0_0.length : Int) = (l1_0.length : Int)
 ·rw [if_pos c3] at H
  have c3b0 := beq_iff_eq.mpr c3; have c3b1 := bne_eq_false_iff_eq.mpr c3
  have c3b2 : (l0_0.length == l1_0.length) = true := by first | simpa using c3 | (simp at c3 ⊢; omega)
  clear c3; have H' := am H; clear H
  go_enter Tryz.func49, Tryz.ntmps49
  go_wp2_with (first | ((with_reducible refine gt 2 ?_); refine bx 2 #[.slice A0_0 l0_0.length c0_0] 26 ?_; intro gb413 hg w4 hbox hb; have BK413 := am (hbox); have GW413 := uG hg HB; have GE413 := uG hg HB; replace HB := uB HB hb; clear hb hbox hg) | ((with_reducible refine gt 3 ?_); refine bx 3 #[.slice A1_0 l1_0.length c1_0] 26 ?_; intro gb414 hg w5 hbox hb; have BK414 := am (hbox); have GW414 := uH hg HB; have GE414 := uH hg HB; replace HB := uS HB hb; obtain ⟨NB413_414, NB414_413, BK413⟩ := uA hg hb BK413; clear hb hbox hg; obtain ⟨hnb6, hnc6⟩ := nk NB413_414; obtain ⟨hcz7_0, hfz7_0⟩ := bz (.slice A0_0 l0_0.length c0_0) BK413; obtain ⟨hcz8_0, hfz8_0⟩ := bz (.slice A1_0 l1_0.length c1_0) BK414))
  repeat (go_quiet (fail); try go_wp2_with (first | ((with_reducible refine gt 2 ?_); refine bx 2 #[.slice A0_0 l0_0.length c0_0] 26 ?_; intro gb413 hg w4 hbox hb; have n0_ := uS HB hb; have n1_ := am (hbox); have n2_ := uH hg HB; have n3_ := uH hg HB; clear HB; have HB := n0_; have BK413 := n1_; have GW413 := n2_; have GE413 := n3_; clear n0_ n1_ n2_ n3_; clear hb hbox hg) | ((with_reducible refine gt 3 ?_); refine bx 3 #[.slice A1_0 l1_0.length c1_0] 26 ?_; intro gb414 hg w5 hbox hb; have n0_ := uZ BK413 hb; have n1_ := uS HB hb; have n2_ := am (hbox); have n3_ := uH hg HB; have n4_ := uH hg HB; have n5_ := am ((ax87 : gb413 ≠ gb414)); have n6_ := am ((ax88 : gb414 ≠ gb413)); clear BK413; clear HB; have BK413 := n0_; have HB := n1_; have BK414 := n2_; have GW414 := n3_; have GE414 := n4_; have NB413_414 := n5_; have NB414_413 := n6_; clear n0_ n1_ n2_ n3_ n4_ n5_ n6_; clear hb hbox hg; obtain ⟨hnb6, hnc6⟩ := nk NB413_414; have hcz7_0 : w5.cell? ⟨gb413, 0, none⟩ = some (.slice A0_0 l0_0.length c0_0) := (blk_cell BK413.out 0).trans rfl; have hfz7_0 := blk_frozen BK413.out 0; have hcz8_0 : w5.cell? ⟨gb414, 0, none⟩ = some (.slice A1_0 l1_0.length c1_0) := (blk_cell BK414.out 0).trans rfl; have hfz8_0 := blk_frozen BK414.out 0)))
  go_loopg [5] k (fun kq v5 w' => ∃ (x5_1 : Int), v5 = .int .i64 x5_1 ∧ Aside0 (laws_rTrie.l0 kq x5_1 l0_0 l1_0 = some r) ∧ Aside0 (kq ≤ k) ∧ Aside0 (w'.heap[gb413]? = some (.cells #[(.slice A0_0 l0_0.length c0_0)] 26 (0, 0))) ∧ Aside0 (w'.heap[gb414]? = some (.cells #[(.slice A1_0 l1_0.length c1_0)] 26 (0, 0))) ∧ Aside0 (Below w.heap.size w w'))
  case atStart => exact ⟨(0), ax18, H', ⟨Nat.le_refl _⟩, ⟨aU⟩, ⟨aU⟩, ⟨aL⟩⟩
  case round =>
   clear H'; (try clear hcz7_0);(try clear hfz7_0);(try clear hcz8_0);(try clear hfz8_0);(try clear c3);(try clear c3b2);(try clear c3b1);(try clear c3b0); obtain ⟨x5_1, rfl, HA, HK1, BK413, BK414, HB⟩ := hrel
   cases gk with
   | zero => exact absurd HA.out (by simp [laws_rTrie.l0])
   | succ k1 =>
    have H := HA.out; clear HA; simp only [laws_rTrie.l0] at H
    by_cases c9 : x5_1 < (l0_0.length : Int)
    ·rw [if_pos c9] at H
     have c9b0 := decide_eq_true c9; clear c9
     by_cases c10 : 0 ≤ x5_1
     ·rw [if_pos c10] at H
      have c10b0 := decide_eq_true c10; clear c10
      by_cases c11 : x5_1 < (l1_0.length : Int)
      ·rw [if_pos c11] at H
       have c11b0 := decide_eq_true c11; clear c11
       by_cases c12 : (!(((rd_T74 l0_0 x5_1).f0) == ((rd_T74 l1_0 x5_1).f0)) || (!(((rd_T74 l0_0 x5_1).f1) == ((rd_T74 l1_0 x5_1).f1)) || (!(((rd_T74 l0_0 x5_1).f2) == ((rd_T74 l1_0 x5_1).f2))))) = true
       ·rw [if_pos c12] at H
        have c12b0 : (!(((rd_T74 l0_0 x5_1).f0) == ((rd_T74 l1_0 x5_1).f0)) || (!(((rd_T74 l0_0 x5_1).f1) == ((rd_T74 l1_0 x5_1).f1)) || (!(((rd_T74 l0_0 x5_1).f2) == ((rd_T74 l1_0 x5_1).f2))))) = true := c12; clear c12; obtain rfl := Option.some.inj H; obtain ⟨hnb13, hnc13⟩ := nk NB413_414; obtain ⟨hcz14_0, hfz14_0⟩ := bz (.slice A0_0 l0_0.length c0_0) BK413; have p415 : 0 ≤ (x5_1 : Int) := of_decide_eq_true ax23; have q415 : x5_1 < (l0_0.length : Int) := of_decide_eq_true ax23; obtain ⟨ad415, e415, hx415_0, hx415_1, hx415_2⟩ := at_T74 HR0_0.out x5_1 p415 q415
        cases e415
        replace hx415_0 := uC HB hx415_0; replace hx415_1 := uC HB hx415_1; replace hx415_2 := uC HB hx415_2; replace p415 := eq_true p415; replace q415 := eq_true q415; obtain ⟨hcz15_0, hfz15_0⟩ := bz (.slice A1_0 l1_0.length c1_0) BK414; have p416 : 0 ≤ (x5_1 : Int) := of_decide_eq_true ax23; have q416 : x5_1 < (l1_0.length : Int) := of_decide_eq_true ax23; obtain ⟨ad416, e416, hx416_0, hx416_1, hx416_2⟩ := at_T74 HR1_0.out x5_1 p416 q416
        cases e416
        replace hx416_0 := uC HB hx416_0; replace hx416_1 := uC HB hx416_1; replace hx416_2 := uC HB hx416_2; replace p416 := eq_true p416; replace q416 := eq_true q416
        go_wp2
        repeat (go_quiet (fail); try go_wp2)
        go_ret
        exact ⟨ax21, aL⟩
       ·rw [if_neg c12] at H
        have c12b0 : (!(((rd_T74 l0_0 x5_1).f0) == ((rd_T74 l1_0 x5_1).f0)) || (!(((rd_T74 l0_0 x5_1).f1) == ((rd_T74 l1_0 x5_1).f1)) || (!(((rd_T74 l0_0 x5_1).f2) == ((rd_T74 l1_0 x5_1).f2))))) = false := by simpa using c12
        clear c12; have H' := am H; clear H; obtain ⟨hnb16, hnc16⟩ := nk NB413_414; obtain ⟨hcz17_0, hfz17_0⟩ := bz (.slice A0_0 l0_0.length c0_0) BK413; have p415 : 0 ≤ (x5_1 : Int) := of_decide_eq_true ax23; have q415 : x5_1 < (l0_0.length : Int) := of_decide_eq_true ax23; obtain ⟨ad415, e415, hx415_0, hx415_1, hx415_2⟩ := at_T74 HR0_0.out x5_1 p415 q415
        cases e415
        replace hx415_0 := uC HB hx415_0; replace hx415_1 := uC HB hx415_1; replace hx415_2 := uC HB hx415_2; replace p415 := eq_true p415; replace q415 := eq_true q415; obtain ⟨hcz18_0, hfz18_0⟩ := bz (.slice A1_0 l1_0.length c1_0) BK414; have p416 : 0 ≤ (x5_1 : Int) := of_decide_eq_true ax23; have q416 : x5_1 < (l1_0.length : Int) := of_decide_eq_true ax23; obtain ⟨ad416, e416, hx416_0, hx416_1, hx416_2⟩ := at_T74 HR1_0.out x5_1 p416 q416
        cases e416
        replace hx416_0 := uC HB hx416_0; replace hx416_1 := uC HB hx416_1; replace hx416_2 := uC HB hx416_2; replace p416 := eq_true p416; replace q416 := eq_true q416
        go_wp2
        repeat (go_quiet (fail); try go_wp2)
        go_roundg k1
        case measure => have := HK1.out; omega
        case rel => exact ⟨(wrap64 (x5_1 + 1)), ax18, H', ⟨by have := HK1.out; omega⟩, ⟨aU⟩, ⟨aU⟩, ⟨aL⟩⟩
      ·exact ax1
     ·exact ax4
    ·rw [if_neg c9] at H
     have c9b0 := decide_eq_false c9; clear c9; obtain rfl := Option.some.inj H; obtain ⟨hcz19_0, hfz19_0⟩ := bz (.slice A0_0 l0_0.length c0_0) BK413
     go_wp2
     repeat (go_quiet (fail); try go_wp2)
     go_ret
     exact ⟨ax21, aL⟩
 ·rw [if_neg c3] at H
  have c3b0 := beq_eq_false_iff_ne.mpr c3; have c3b1 := bne_iff_ne.mpr c3
  have c3b2 : (l0_0.length == l1_0.length) = false := by first | simpa using c3 | (simp at c3 ⊢; omega)
  obtain rfl := Option.some.inj H
  go_enter Tryz.func49, Tryz.ntmps49
  go_wp2_with (first | ((with_reducible refine gt 2 ?_); refine bx 2 #[.slice A0_0 l0_0.length c0_0] 26 ?_; intro gb413 hg w20 hbox hb; have BK413 := am (hbox); have GW413 := uG hg HB; have GE413 := uG hg HB; replace HB := uB HB hb; clear hb hbox hg) | ((with_reducible refine gt 3 ?_); refine bx 3 #[.slice A1_0 l1_0.length c1_0] 26 ?_; intro gb414 hg w21 hbox hb; have BK414 := am (hbox); have GW414 := uH hg HB; have GE414 := uH hg HB; replace HB := uS HB hb; obtain ⟨NB413_414, NB414_413, BK413⟩ := uA hg hb BK413; clear hb hbox hg; obtain ⟨hnb22, hnc22⟩ := nk NB413_414; obtain ⟨hcz23_0, hfz23_0⟩ := bz (.slice A0_0 l0_0.length c0_0) BK413; obtain ⟨hcz24_0, hfz24_0⟩ := bz (.slice A1_0 l1_0.length c1_0) BK414))
  repeat (go_quiet (fail); try go_wp2_with (first | ((with_reducible refine gt 2 ?_); refine bx 2 #[.slice A0_0 l0_0.length c0_0] 26 ?_; intro gb413 hg w20 hbox hb; have n0_ := uS HB hb; have n1_ := am (hbox); have n2_ := uH hg HB; have n3_ := uH hg HB; clear HB; have HB := n0_; have BK413 := n1_; have GW413 := n2_; have GE413 := n3_; clear n0_ n1_ n2_ n3_; clear hb hbox hg) | ((with_reducible refine gt 3 ?_); refine bx 3 #[.slice A1_0 l1_0.length c1_0] 26 ?_; intro gb414 hg w21 hbox hb; have n0_ := uZ BK413 hb; have n1_ := uS HB hb; have n2_ := am (hbox); have n3_ := uH hg HB; have n4_ := uH hg HB; have n5_ := am ((ax87 : gb413 ≠ gb414)); have n6_ := am ((ax88 : gb414 ≠ gb413)); clear BK413; clear HB; have BK413 := n0_; have HB := n1_; have BK414 := n2_; have GW414 := n3_; have GE414 := n4_; have NB413_414 := n5_; have NB414_413 := n6_; clear n0_ n1_ n2_ n3_ n4_ n5_ n6_; clear hb hbox hg; obtain ⟨hnb22, hnc22⟩ := nk NB413_414; have hcz23_0 : w21.cell? ⟨gb413, 0, none⟩ = some (.slice A0_0 l0_0.length c0_0) := (blk_cell BK413.out 0).trans rfl; have hfz23_0 := blk_frozen BK413.out 0; have hcz24_0 : w21.cell? ⟨gb414, 0, none⟩ = some (.slice A1_0 l1_0.length c1_0) := (blk_cell BK414.out 0).trans rfl; have hfz24_0 := blk_frozen BK414.out 0)))
  go_ret
  exact ⟨ax21, aL⟩

end Go.Proofs.YtcplbbflfgckbaaGreatDoor.X

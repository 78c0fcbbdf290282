-- By gen.py (the session's own program over the kit's printer): functions of the program, each with its contract. Lean checks it.
import Derived.Test.YtcplbbflfgckbaaGreatDoorX5
import Derived.Test.YtcplbbflfgckbaaGreatDoorX15
import Derived.Test.YtcplbbflfgckbaaGreatDoorX9
import Derived.Test.YtcplbbflfgckbaaGreatDoorX12
namespace Go.Proofs.YtcplbbflfgckbaaGreatDoor.X
open Go.RowKit Go.Proofs.YtcplbbflfgckbaaGreatDoorW.PrintWords Go.Proofs.YtcplbbflfgckbaaGreatDoorW.PrintLast Go.Proofs.YtcplbbflfgckbaaGreatDoorW.PrintMore
attribute [local go_sem] max2_int min2_int max_two min_two max_three min_three max_four min_four   -- for this text's walks alone
set_option linter.unusedVariables false
set_option linter.unusedSimpArgs false
set_option maxHeartbeats 8000000
set_option maxRecDepth 100000

/-! ### spec_l2Kids: function 163 -/
def spec_l2Kids.l0 : Nat → Int → List Int → Int → List (S74) → Option (List Int)
 | 0, _, _, _, _ => none
 | k + 1, x1, x5, x6, x699000 => if x6 < (x699000.length : Int) then (if 0 ≤ x6 then (if ((rd_T74 x699000 x6).f1) = x1 then (if x5.length < 17592186044416 then (spec_l2Kids.l0 k x1 (x5 ++ [x6]) (wrap64 (x6 + 1)) x699000) else (none)) else (spec_l2Kids.l0 k x1 x5 (wrap64 (x6 + 1)) x699000)) else (none)) else (some x5)
def spec_l2Kids.f (k : Nat) (l0_0 : List (S74)) (a1 : Int) : Option (List Int) := spec_l2Kids.l0 k a1 (([] : List Int)) (wrap64 (a1 + 1)) l0_0
theorem spec_l2Kids.calls (k : Nat) (A0_0 : Option Addr) (c0_0 : Nat) (l0_0 : List (S74)) (a1 : Int) (r : List Int) (w : World) (hr0_0 : Kd.C k74 w A0_0 l0_0.length l0_0) (hc0_0 : l0_0.length ≤ c0_0) (h : spec_l2Kids.f k l0_0 a1 = some r) :
  Calls Tryz.prog 163 #[.agg #[.slice A0_0 l0_0.length c0_0], .int .i64 a1] w fun e w' => ∃ v0_ : Value, e = .returned (v0_) ∧ Kd.R (Kd.int .i64) 3 w' w.heap.size (fun _ => True) v0_ r ∧ Below w.heap.size w w' := by
 have hu26 := Tryz.underlying26; have HR0_0 := am hr0_0; have HC0_0 := am hc0_0; clear hr0_0 hc0_0; have HB := am (Below.refl w.heap.size w)
 unfold spec_l2Kids.f at h
 have H := h; clear h; obtain ⟨y699, hy699⟩ : ∃ y_ : List Int, y_ = (([] : List Int)) := ⟨_, rfl⟩
 replace H : (spec_l2Kids.l0 k a1 y699 (wrap64 (a1 + 1)) l0_0) = some r := by first | (rw [hy699]; with_reducible exact H) | (have H2_ := (Option.bind_some _ _).symm.trans H; rw [hy699]; with_reducible exact H2_) | (have H2_ := (Option.bind_some _ _).symm.trans H; with_reducible exact H2_) | with_reducible exact H | (rw [hy699]; exact H) | exact H
 have Ny699 := am hy699; clear hy699; have H' := am H; clear H
 go_enter Tryz.func163, Tryz.ntmps163
 go_wp2_with (first | ((with_reducible refine gt 2 ?_); refine bx 2 #[.slice A0_0 l0_0.length c0_0] 26 ?_; intro gb698 hg w3 hbox hb; have BK698 := am (hbox); have GW698 := uG hg HB; have GE698 := uG hg HB; replace HB := uB HB hb; clear hb hbox hg) | ((with_reducible refine gt 7 ?_); refine Kd.R_lit (Kd.int .i64) _ 3 ?hg (N := 7) ?hd (xs := ([] : List Int)) (inner := []) (ok := fun _ => True) (okp := fun _ => True) ?hr ?hp (fun _ hk => hk) trivial (Below.refl _ _) (Nat.le_refl _) (by simp) ?_; (case hd => rfl); (case hg => rfl); (case hr => exact ax20); (case hp => exact ax31); intro v700 w4 ho5 hb hg_ hnew_; clear hg_ hnew_; (first | rw [← Ny699.out] at ho5 | (simp only [Int.reduceToNat] at ho5; rw [← Ny699.out] at ho5)); have HO701 := am (Kd.R_lower ho5 (bS HB)); replace BK698 := ub BK698 hb; replace HB := uS HB hb; clear hb ho5))
 go_loopg [5, 6] k (fun kq v5 v6 w' => ∃ (x5_1 : List Int) (x6_1 : Int), v6 = .int .i64 x6_1 ∧ Aside0 (spec_l2Kids.l0 kq a1 x5_1 x6_1 l0_0 = some r) ∧ Aside0 (kq ≤ k) ∧ Aside0 (Kd.R (Kd.int .i64) 3 w' w.heap.size (fun _ => True) v5 x5_1) ∧ Aside0 (w'.heap[gb698]? = some (.cells #[(.slice A0_0 l0_0.length c0_0)] 26 (0, 0))) ∧ Aside0 (Below w.heap.size w w'))
 case atStart => exact ⟨(y699), (wrap64 (a1 + 1)), ax18, H', ⟨Nat.le_refl _⟩, ⟨aU⟩, ⟨aU⟩, ⟨aL⟩⟩
 case round =>
  clear H'; obtain ⟨x5_1, x6_1, rfl, HA, HK1, HO_5, BK698, HB⟩ := hrel
  cases gk with
  | zero => exact absurd HA.out (by simp [spec_l2Kids.l0])
  | succ k1 =>
   have H := HA.out; clear HA; simp only [spec_l2Kids.l0] at H
   by_cases c6 : x6_1 < (l0_0.length : Int)
   ·rw [if_pos c6] at H
    have c6b0 := decide_eq_true c6; clear c6
    by_cases c7 : 0 ≤ x6_1
    ·rw [if_pos c7] at H
     have c7b0 := decide_eq_true c7; clear c7
     by_cases c8 : ((rd_T74 l0_0 x6_1).f1) = a1
     ·rw [if_pos c8] at H
      have c8b0 := beq_iff_eq.mpr c8; have c8b1 := bne_eq_false_iff_eq.mpr c8; clear c8
      by_cases c9 : x5_1.length < 17592186044416
      ·rw [if_pos c9] at H
       have LMc9 := am c9; clear c9; obtain ⟨y703, hy703⟩ : ∃ y_ : List Int, y_ = (x5_1 ++ [x6_1]) := ⟨_, rfl⟩
       replace H : (spec_l2Kids.l0 k1 a1 y703 (wrap64 (x6_1 + 1)) l0_0) = some r := by first | (rw [hy703]; with_reducible exact H) | (have H2_ := (Option.bind_some _ _).symm.trans H; rw [hy703]; with_reducible exact H2_) | (have H2_ := (Option.bind_some _ _).symm.trans H; with_reducible exact H2_) | with_reducible exact H | (rw [hy703]; exact H) | exact H
       have Ny703 := am hy703; clear hy703; have H' := am H; clear H; obtain ⟨hcz10_0, hfz10_0⟩ := bz (.slice A0_0 l0_0.length c0_0) BK698; have p702 : 0 ≤ (x6_1 : Int) := of_decide_eq_true ax23; have q702 : x6_1 < (l0_0.length : Int) := of_decide_eq_true ax23; obtain ⟨ad702, e702, hx702_0, hx702_1, hx702_2⟩ := at_T74 HR0_0.out x6_1 p702 q702
       cases e702
       replace hx702_0 := uC HB hx702_0; replace hx702_1 := uC HB hx702_1; replace hx702_2 := uC HB hx702_2; replace p702 := eq_true p702; replace q702 := eq_true q702
       go_wp2_with (first | ((with_reducible refine gate_builtin (b := .append) (xs := #[.tmp 25, .tmp 27]) rfl ?_); at_builtin; refine Kd.R_append (Kd.int .i64) (w0 := w) w.heap.size rfl (.tmp 25) (.tmp 27) 42 3 (.int .i64 0) 8 rfl Tryz.underlying42 info3 rfl (by decide) (by omega) u5 x5_1 x6_1 [.int .i64 x6_1] (fun _ => True) (fun _ => False) rfl rfl ?aP (fun _ hk => hk.elim) ?aF ?aO ?aB ?aS ?aL ?_; (case aP => exact rfl); (case aB => exact aL); (case aF => exact ax27); (case aO => exact (rX HO_5)); (case aS => exact ax28); (case aL => have := LMc9.out; omega); intro v704 w11 ho hb hg hat; rw [← Ny703.out] at ho; have n0_ := am (blk_grown (g := gb698) (o := .cells #[.slice (some ad702) l0_0.length c0_0] 26 (0, 0)) aU hg (Kd.R_ne HO_5.out BK698.out (by decide))); have n1_ := am (hb); have n2_ := am (ho); clear BK698; clear HB; clear HO_5; have BK698 := n0_; have HB := n1_; have HO705 := n2_; clear n0_ n1_ n2_; clear ho hb hg hat))
       go_roundg k1
       case measure => have := HK1.out; omega
       case rel => exact ⟨(y703), (wrap64 (x6_1 + 1)), ax18, H', ⟨by have := HK1.out; omega⟩, ⟨aU⟩, ⟨aU⟩, ⟨aL⟩⟩
      ·exact ax13
     ·rw [if_neg c8] at H
      have c8b0 := beq_eq_false_iff_ne.mpr c8; have c8b1 := bne_iff_ne.mpr c8; have H' := am H; clear H; obtain ⟨hcz12_0, hfz12_0⟩ := bz (.slice A0_0 l0_0.length c0_0) BK698; have p702 : 0 ≤ (x6_1 : Int) := of_decide_eq_true ax23; have q702 : x6_1 < (l0_0.length : Int) := of_decide_eq_true ax23; obtain ⟨ad702, e702, hx702_0, hx702_1, hx702_2⟩ := at_T74 HR0_0.out x6_1 p702 q702
      cases e702
      replace hx702_0 := uC HB hx702_0; replace hx702_1 := uC HB hx702_1; replace hx702_2 := uC HB hx702_2; replace p702 := eq_true p702; replace q702 := eq_true q702
      go_wp2
      go_roundg k1
      case measure => have := HK1.out; omega
      case rel => exact ⟨(x5_1), (wrap64 (x6_1 + 1)), ax18, H', ⟨by have := HK1.out; omega⟩, ⟨aU⟩, ⟨aU⟩, ⟨aL⟩⟩
    ·exact ax7
   ·rw [if_neg c6] at H
    have c6b0 := decide_eq_false c6; clear c6; obtain rfl := Option.some.inj H; obtain ⟨hcz13_0, hfz13_0⟩ := bz (.slice A0_0 l0_0.length c0_0) BK698
    go_wp2
    go_ret
    exact ⟨_, ax21, aU, aL⟩

/-! ### spec_l2Text: function 156 -/
mutual
def spec_l2Text.j0 : Nat → Int → ByteArray → List Int → List (S74) → Option (ByteArray)
 | 0, _, _, _, _ => none
 | k + 1, x1, x5, x6, x707000 => if 0 ≤ x1 then (if x1 < (x707000.length : Int) then (if (rd_T74 x707000 x1).f2 = true then (if x5.size + 1 ≤ 9223372036854775807 then (spec_l2Text.j1 k (x5 ++ (⟨#[46]⟩ : ByteArray)) x6 x707000) else (none)) else (spec_l2Text.j1 k x5 x6 x707000)) else (none)) else (none)
def spec_l2Text.j1 : Nat → ByteArray → List Int → List (S74) → Option (ByteArray)
 | 0, _, _, _ => none
 | k + 1, x5, x6, x707000 => if (x6.length : Int) = 0 then (some x5) else (if x5.size + 1 ≤ 9223372036854775807 then (spec_l2Text.l0 k (x5 ++ (⟨#[40]⟩ : ByteArray)) x6 0 x707000) else (none))
def spec_l2Text.l0 : Nat → ByteArray → List Int → Int → List (S74) → Option (ByteArray)
 | 0, _, _, _, _ => none
 | k + 1, x5, x6, x7, x707000 => if x7 < (x6.length : Int) then (if 0 ≤ x7 then ((spec_l2Text.f k x707000 (rd x6 x7)).bind fun t716 => (if x5.size + t716.size ≤ 9223372036854775807 then (spec_l2Text.l0 k (x5 ++ t716) x6 (wrap64 (x7 + 1)) x707000) else (none))) else (none)) else (if x5.size + 1 ≤ 9223372036854775807 then (some (x5 ++ (⟨#[41]⟩ : ByteArray))) else (none))
def spec_l2Text.f : Nat → List (S74) → Int → Option (ByteArray)
 | 0, _, _ => none
 | k + 1, l0_0, a1 => (spec_l2Kids.f k l0_0 a1).bind fun t707 => (if a1 > 0 then (if 0 ≤ a1 then (if a1 < (l0_0.length : Int) then (spec_l2Text.j0 k a1 (strOfNums (([(wrap64 (97 + ((rd_T74 l0_0 a1).f0))) % 256] : List Int))) t707 l0_0) else (none)) else (none)) else (spec_l2Text.j0 k a1 (⟨#[]⟩ : ByteArray) t707 l0_0))
end
def spec_l2Text.T12 : Bool × List (List Nat × List Nat) := (true, [([], []), ([], []), ([], []), ([], []), ([2, 3], [2, 3]), ([4], [4]), ([1, 5], [1, 5]), ([0, 6], [0, 6]), ([7, 6, 0, 1, 2, 3, 4, 5, 6, 7], [0, 7])])
def spec_l2Text.B12 : List Nat := [0, 0, 0, 0, 12, 28, 62, 127, 255]
theorem spec_l2Text.tab12 : rtab .any (opsOf Tryz.f156 12) = spec_l2Text.T12 := by kernel_rfl
theorem spec_l2Text.bits12 : waitsOk spec_l2Text.T12.2 spec_l2Text.B12 = true := by kernel_rfl
theorem spec_l2Text.calls (k : Nat) : ∀ (A0_0 : Option Addr) (c0_0 : Nat) (l0_0 : List (S74)) (a1 : Int) (r : ByteArray) (w : World) (hr0_0 : Kd.C k74 w A0_0 l0_0.length l0_0) (hc0_0 : l0_0.length ≤ c0_0) (h : spec_l2Text.f k l0_0 a1 = some r),
  Calls Tryz.prog 156 #[.agg #[.slice A0_0 l0_0.length c0_0], .int .i64 a1] w fun e w' => e = .returned (.string r) ∧ Below w.heap.size w w' := by
 induction k using Nat.strongRecOn with
 | _ k ih =>
 intro A0_0 c0_0 l0_0 a1 r w hr0_0 hc0_0 h
 cases k with
 | zero => exact absurd h (by simp [spec_l2Text.f])
 | succ k =>
 simp only [spec_l2Text.f] at h; have hu26 := Tryz.underlying26; have HR0_0 := am hr0_0; have HC0_0 := am hc0_0; clear hr0_0 hc0_0; have HB := am (Below.refl w.heap.size w); have H := h; clear h; obtain ⟨t707, A3, H⟩ := bs H; have HC4 := am H; clear H
 go_enter Tryz.func156, Tryz.ntmps156
 go_upto_if 12 with (first | ((with_reducible refine gt 2 ?_); refine bx 2 #[.slice A0_0 l0_0.length c0_0] 26 ?_; intro gb706 hg w5 hbox hb; have n0_ := uS HB hb; have n1_ := am (hbox); have n2_ := uH hg HB; have n3_ := uH hg HB; clear HB; have HB := n0_; have BK706 := n1_; have GW706 := n2_; have GE706 := n3_; clear n0_ n1_ n2_ n3_; clear hb hbox hg; have hcz6_0 : w5.cell? ⟨gb706, 0, none⟩ = some (.slice A0_0 l0_0.length c0_0) := (blk_cell BK706.out 0).trans rfl; have hfz6_0 := blk_frozen BK706.out 0) | ((with_reducible refine gate_callee (f := 163) rfl ?_); refine goesL_ (some 10) rfl rfl Tryz.func163 (by kernel_rfl) rfl #[.agg #[.slice A0_0 l0_0.length c0_0], .int .i64 a1] rfl ax26 ?_; (with_reducible refine (spec_l2Kids.calls k _ _ l0_0 a1 t707 _ ?side1 ?side2 A3.out).mono ?_); (case side1 => exact ax30); (case side2 => exact HC0_0.out); rintro e w7 ⟨v708, rfl, ho0, hb⟩; refine ⟨_, rfl, ?_⟩; have n0_ := am (Kd.R_lower ho0 (bS HB)); have n1_ := uZ BK706 hb; have n2_ := uS HB hb; clear BK706; clear HB; have HO709 := n0_; have BK706 := n1_; have HB := n2_; clear n0_ n1_ n2_; (try clear hb ho0)))
 (try simp only [Act.put, List.setIfInBounds_toArray, List.set_cons_zero, List.set_cons_succ])
 go_cut [5] (fun v5 wc => ∃ (kq : Nat) (x5_3 : ByteArray), v5 = .string x5_3 ∧ Aside0 (spec_l2Text.j0 kq a1 x5_3 t707 l0_0 = some r) ∧ Aside0 (kq ≤ k) ∧ Aside0 (Kd.R (Kd.int .i64) 3 wc w.heap.size (fun _ => True) v708 t707) ∧ Aside0 (wc.heap[gb706]? = some (.cells #[(.slice A0_0 l0_0.length c0_0)] 26 (0, 0))) ∧ Aside0 (Below w.heap.size w wc))
 case first =>
  have H := HC4.out; clear HC4
  by_cases c8 : a1 > 0
  ·rw [if_pos c8] at H
   have c8b0 := decide_eq_true c8; clear c8; (first | rw [c8b0] | (simp only [i64_w, i32_w]; rw [c8b0]) | skip)
   by_cases c9 : 0 ≤ a1
   ·rw [if_pos c9] at H
    have c9b0 := decide_eq_true c9; clear c9
    by_cases c10 : a1 < (l0_0.length : Int)
    ·rw [if_pos c10] at H
     have c10b0 := decide_eq_true c10; clear c10; obtain ⟨y711, hy711⟩ : ∃ y_ : List Int, y_ = (([(wrap64 (97 + ((rd_T74 l0_0 a1).f0))) % 256] : List Int)) := ⟨_, rfl⟩
     replace H : (spec_l2Text.j0 k a1 (strOfNums y711) t707 l0_0) = some r := by first | (rw [hy711]; with_reducible exact H) | (have H2_ := (Option.bind_some _ _).symm.trans H; rw [hy711]; with_reducible exact H2_) | (have H2_ := (Option.bind_some _ _).symm.trans H; with_reducible exact H2_) | with_reducible exact H | (rw [hy711]; exact H) | exact H
     have Ny711 := am hy711; clear hy711; have H' := am H; clear H; obtain ⟨hcz11_0, hfz11_0⟩ := bz (.slice A0_0 l0_0.length c0_0) BK706; have p710 : 0 ≤ (a1 : Int) := of_decide_eq_true ax23; have q710 : a1 < (l0_0.length : Int) := of_decide_eq_true ax23; obtain ⟨ad710, e710, hx710_0, hx710_1, hx710_2⟩ := at_T74 HR0_0.out a1 p710 q710
     cases e710
     replace hx710_0 := uC HB hx710_0; replace hx710_1 := uC HB hx710_1; replace hx710_2 := uC HB hx710_2; replace p710 := eq_true p710; replace q710 := eq_true q710
     go_wp2_with (first | ((with_reducible refine gt 21 ?_); refine Kd.R_lit (Kd.int .u8) _ 5 ?hg (N := 21) ?hd (xs := ([(wrap64 (97 + ((rd_T74 l0_0 a1).f0))) % 256] : List Int)) (inner := [.int .u8 ((wrap64 (97 + ((rd_T74 l0_0 a1).f0))) % 256)]) (ok := fun _ => True) (okp := fun _ => True) ?hr ?hp (fun _ hk => hk) trivial (Below.refl _ _) (Nat.le_refl _) (by simp) ?_; (case hd => rfl); (case hg => rfl); (case hr => exact ax20); (case hp => exact (Reps.one (show Kd.M (Kd.int .u8) _ _ _ ((wrap64 (97 + ((rd_T74 l0_0 a1).f0))) % 256) [.int .u8 ((wrap64 (97 + ((rd_T74 l0_0 a1).f0))) % 256)] from rfl) (Reps.none _ _))); intro v712 w12 ho13 hb hg_ hnew_; clear hg_ hnew_; (first | rw [← Ny711.out] at ho13 | (simp only [Int.reduceToNat] at ho13; rw [← Ny711.out] at ho13)); replace HO709 := uR HO709 hb; have HO713 := am (Kd.R_lower ho13 (bS HB)); replace BK706 := ub BK706 hb; replace HB := uS HB hb; clear hb ho13; have hcv14 := own_string (P := Tryz.prog) Tryz.underlying22 Tryz.underlying5 Tryz.underlying9 (Kd.own_of_R HO713.out)))
     go_meet
     case rel => exact ⟨_, (strOfNums y711), ax18, H', ⟨by first | omega | exact Nat.le_refl _⟩, ⟨aU⟩, ⟨aU⟩, ⟨aL⟩⟩
    ·exact ax4
   ·exact ax13
  ·rw [if_neg c8] at H
   have c8b0 := decide_eq_false c8; clear c8; (first | rw [c8b0] | (simp only [i64_w, i32_w]; rw [c8b0]) | skip); have H' := am H; clear H
   go_wp2
   go_meet
   case rel => exact ⟨_, ((⟨#[]⟩ : ByteArray)), ax18, H', ⟨by first | omega | exact Nat.le_refl _⟩, ⟨aU⟩, ⟨aU⟩, ⟨aL⟩⟩
 case rest =>
  clear HC4; (try clear hcz6_0);(try clear hfz6_0); obtain ⟨kq, x5_3, rfl, HA, HJ3, HO_6, BK706, HB⟩ := hcut
  cases kq with
  | zero => exact absurd HA.out (by simp [spec_l2Text.j0])
  | succ kj3 =>
   have H := HA.out; clear HA; simp only [spec_l2Text.j0] at H
   by_cases c15 : 0 ≤ a1
   ·rw [if_pos c15] at H
    have c15b0 := decide_eq_true c15; clear c15
    by_cases c16 : a1 < (l0_0.length : Int)
    ·rw [if_pos c16] at H
     have c16b0 := decide_eq_true c16; clear c16; have HC17 := am H; clear H; obtain ⟨hcz18_0, hfz18_0⟩ := bz (.slice A0_0 l0_0.length c0_0) BK706; have p714 : 0 ≤ (a1 : Int) := of_decide_eq_true ax23; have q714 : a1 < (l0_0.length : Int) := of_decide_eq_true ax23; obtain ⟨ad714, e714, hx714_0, hx714_1, hx714_2⟩ := at_T74 HR0_0.out a1 p714 q714
     cases e714
     replace hx714_0 := uC HB hx714_0; replace hx714_1 := uC HB hx714_1; replace hx714_2 := uC HB hx714_2; replace p714 := eq_true p714; replace q714 := eq_true q714
     go_upto_if 28 with (fail)
     go_cut [5] (fun v5 wc => ∃ (kq : Nat) (x5_16 : ByteArray), v5 = .string x5_16 ∧ Aside0 (spec_l2Text.j1 kq x5_16 t707 l0_0 = some r) ∧ Aside0 (kq ≤ kj3) ∧ Aside0 (Kd.R (Kd.int .i64) 3 wc w.heap.size (fun _ => True) v708 t707) ∧ Aside0 (wc.heap[gb706]? = some (.cells #[(.slice (some ad714) l0_0.length c0_0)] 26 (0, 0))) ∧ Aside0 (Below w.heap.size w wc))
     case first =>
      have H := HC17.out; clear HC17; obtain ⟨bq19, hbq19⟩ : ∃ b_ : Bool, b_ = ((rd_T74 l0_0 a1).f2) := ⟨_, rfl⟩
      replace H : (if bq19 = true then (if x5_3.size + 1 ≤ 9223372036854775807 then (spec_l2Text.j1 kj3 (x5_3 ++ (⟨#[46]⟩ : ByteArray)) t707 l0_0) else (none)) else (spec_l2Text.j1 kj3 x5_3 t707 l0_0)) = some r := by rw [← hbq19] at H; exact H
      have Nbq19 := am hbq19; clear hbq19; (try rw [← Nbq19.out])
      by_cases c20 : bq19 = true
      ·subst c20
       rw [if_pos rfl] at H
       by_cases c21 : x5_3.size + 1 ≤ 9223372036854775807
       ·rw [if_pos c21] at H
        have c21b0 := eq_true c21; have c21b1 := decide_eq_true c21
        try have c21b2 : (9223372036854775807 < x5_3.size + 1) = False := eq_false (Nat.not_lt.2 c21)
        clear c21; obtain ⟨js22, hjs22⟩ : ∃ j_ : ByteArray, (x5_3 ++ (⟨#[46]⟩ : ByteArray)) = j_ := ⟨_, rfl⟩; (first | rw [hjs22] at H | simp only [hjs22] at H); have H' := am H; clear H
        go_wp2
        go_meet
        case rel => exact ⟨_, (js22), (by first | rfl | (simp; done) | (simp only [← hjs22] <;> (first | rfl | simp)) | (simp [*]; done)), H', ⟨ax139⟩, ⟨aU⟩, ⟨aU⟩, ⟨aL⟩⟩
       ·rw [if_neg c21] at H
        exact absurd H (by simp)
      ·replace c20 := Bool.eq_false_iff.mpr c20
       subst c20; rw [if_neg (show ¬ (false = true) by decide)] at H; have H' := am H; clear H
       go_wp2
       go_meet
       case rel => exact ⟨_, (x5_3), ax18, H', ⟨ax139⟩, ⟨aU⟩, ⟨aU⟩, ⟨aL⟩⟩
     case rest =>
      clear HC17; (try clear q714);(try clear p714);(try clear hx714_2);(try clear hx714_1);(try clear hx714_0);(try clear hfz18_0);(try clear hcz18_0);(try clear c16);(try clear c16b0);(try clear c15);(try clear c15b0); obtain ⟨kq, x5_16, rfl, HA, HJ16, HO_6, BK706, HB⟩ := hcut
      cases kq with
      | zero => exact absurd HA.out (by simp [spec_l2Text.j1])
      | succ kj16 =>
       have H := HA.out; clear HA; simp only [spec_l2Text.j1] at H
       by_cases c23 : (t707.length : Int) = 0
       ·rw [if_pos c23] at H
        have c23b0 := beq_iff_eq.mpr c23; have c23b1 := bne_eq_false_iff_eq.mpr c23; clear c23; obtain rfl := Option.some.inj H; obtain ⟨Ao24, co24, rfl⟩ := Kd.R_slice HO_6.out
        go_wp2
        go_ret
        exact ⟨ax21, aL⟩
       ·rw [if_neg c23] at H
        have c23b0 := beq_eq_false_iff_ne.mpr c23; have c23b1 := bne_iff_ne.mpr c23
        have c23b2 : ¬ (t707 = []) := fun h_ => c23 (by rw [h_]; rfl)
        by_cases c25 : x5_16.size + 1 ≤ 9223372036854775807
        ·rw [if_pos c25] at H
         have c25b0 := eq_true c25; have c25b1 := decide_eq_true c25
         try have c25b2 : (9223372036854775807 < x5_16.size + 1) = False := eq_false (Nat.not_lt.2 c25)
         clear c25; obtain ⟨js26, hjs26⟩ : ∃ j_ : ByteArray, (x5_16 ++ (⟨#[40]⟩ : ByteArray)) = j_ := ⟨_, rfl⟩; (first | rw [hjs26] at H | simp only [hjs26] at H); have H' := am H; clear H; obtain ⟨Ao27, co27, rfl⟩ := Kd.R_slice HO_6.out
         go_wp2
         go_loopg [5, 7] kj16 (fun kq v5 v7 w' => ∃ (x5_3 : ByteArray) (x7_3 : Int), v5 = .string x5_3 ∧ v7 = .int .i64 x7_3 ∧ Aside0 (spec_l2Text.l0 kq x5_3 t707 x7_3 l0_0 = some r) ∧ Aside0 (kq ≤ kj16) ∧ Aside0 (Kd.R (Kd.int .i64) 3 w' w.heap.size (fun _ => True) (.slice Ao27 t707.length co27) t707) ∧ Aside0 (w'.heap[gb706]? = some (.cells #[(.slice (some ad714) l0_0.length c0_0)] 26 (0, 0))) ∧ Aside0 (Below w.heap.size w w'))
         case atStart => exact ⟨(js26), (0), (by first | rfl | (simp; done) | (simp only [← hjs26] <;> (first | rfl | simp)) | (simp [*]; done)), ax18, H', ⟨Nat.le_refl _⟩, ⟨aU⟩, ⟨aU⟩, ⟨aL⟩⟩
         case round =>
          clear H'; (try clear c25);(try clear c25b2);(try clear c25b1);(try clear c25b0);(try clear c23b2);(try clear c23);(try clear c23b1);(try clear c23b0); obtain ⟨x5_3, x7_3, rfl, rfl, HA, HK3, HO_6, BK706, HB⟩ := hrel
          cases gk with
          | zero => exact absurd HA.out (by simp [spec_l2Text.l0])
          | succ k3 =>
           have H := HA.out; clear HA; simp only [spec_l2Text.l0] at H
           by_cases c28 : x7_3 < (t707.length : Int)
           ·rw [if_pos c28] at H
            have c28b0 := decide_eq_true c28; clear c28
            by_cases c29 : 0 ≤ x7_3
            ·rw [if_pos c29] at H
             have c29b0 := decide_eq_true c29; clear c29; obtain ⟨t716, A30, H⟩ := bs H
             by_cases c31 : x5_3.size + t716.size ≤ 9223372036854775807
             ·rw [if_pos c31] at H
              have c31b0 := eq_true c31; have c31b1 := decide_eq_true c31
              try have c31b2 : (9223372036854775807 < x5_3.size + t716.size) = False := eq_false (Nat.not_lt.2 c31)
              clear c31; obtain ⟨js32, hjs32⟩ : ∃ j_ : ByteArray, (x5_3 ++ t716) = j_ := ⟨_, rfl⟩; (first | rw [hjs32] at H | simp only [hjs32] at H); have H' := am H; clear H
              try go_wp2
              replace HO_6 := am (Kd.R_drew HO_6.out); replace BK706 := am (blk_drew BK706.out); replace HB := am (below_drew1 HB.out); have p715 : 0 ≤ (x7_3 : Int) := of_decide_eq_true ax23; have q715 : x7_3 < (t707.length : Int) := of_decide_eq_true ax23; obtain ⟨ad715, e715, hx715_0⟩ := Kd.at_int (Kd.R_reads' HO_6.out).2.2 x7_3 p715 q715
              cases e715
              replace p715 := eq_true p715; replace q715 := eq_true q715; refine start_ (n := 9) (S := fun w' => w'.cell? ⟨gb706, 0, none⟩ = some (.slice (some ad714) l0_0.length c0_0) ∧ w'.cell? (ad715.add (x7_3).toNat) = some (.int .i64 (rd t707 x7_3))) (ds := []) (ob 9 0) (by kernel_rfl) rfl rfl ⟨(blk_cell BK706.out 0).trans rfl, hx715_0⟩ (fun hHeld => ?_); refine with_tabW spec_l2Text.tab12 spec_l2Text.bits12 (fun HT_ HW_ => ?_); generalize wr.drew = w33 at HO_6 BK706 HB hx715_0 hHeld ⊢; refine pu 0 43 ?_; refine pu 2 45 ?_; refine pu 3 46 ?_; refine pu 4 47 ?_; refine tk 1 44 ?_; refine tk 5 48 ?_; refine one_ (i := 6) (N := some 49) (ob 9 127) rfl rfl (one_of HT_.out (by kernel_rfl)) (by decide) (fun K hK => ?_); refine goes_ Tryz.func156 (by kernel_rfl) rfl #[.agg #[.slice (some ad714) l0_0.length c0_0], .int .i64 (rd t707 x7_3)] (by rfl) rfl rfl ax26 ?_
              with_reducible refine (ih k3 ax140 _ _ l0_0 (rd t707 x7_3) t716 _ ?side1 ?side2 A30.out).mono ?_
              (case side1 => exact ax30)
              (case side2 => exact HC0_0.out)
              rintro e w34 ⟨rfl, hb⟩; have HS1_ := (hb.cell (World.block_lt_of_cell? _ _ (hHeld.2))).trans (hHeld.2); refine ⟨_, rfl, ?_⟩; replace HO_6 := uR HO_6 hb; replace BK706 := ub BK706 hb; replace HB := uS HB hb; (try clear hb); (try clear hb2); (try clear hk); (try clear hi); refine hK.out _ _ ⟨(blk_cell BK706.out 0).trans rfl, HS1_⟩ (fun hHeld => ?_); clear hK K; refine nm 49 ?_; refine pu 7 50 ?_; refine pu 8 5 ?_; refine dn ?_
              try go_wp2
              go_roundg k3
              case measure => have := HJ3.out; have := HJ16.out; have := HK3.out; omega
              case rel => exact ⟨(js32), (wrap64 (x7_3 + 1)), (by first | rfl | (simp; done) | (simp only [← hjs32] <;> (first | rfl | simp)) | (simp [*]; done)), ax18, H', ⟨ax140⟩, ⟨aU⟩, ⟨aU⟩, ⟨aL⟩⟩
             ·exact ax15
            ·exact ax8
           ·rw [if_neg c28] at H
            have c28b0 := decide_eq_false c28; clear c28
            by_cases c35 : x5_3.size + 1 ≤ 9223372036854775807
            ·rw [if_pos c35] at H
             have c35b0 := eq_true c35; have c35b1 := decide_eq_true c35
             try have c35b2 : (9223372036854775807 < x5_3.size + 1) = False := eq_false (Nat.not_lt.2 c35)
             clear c35; obtain ⟨js36, hjs36⟩ : ∃ j_ : ByteArray, (x5_3 ++ (⟨#[41]⟩ : ByteArray)) = j_ := ⟨_, rfl⟩; (first | rw [hjs36] at H | simp only [hjs36] at H); obtain rfl := Option.some.inj H
             go_wp2
             go_ret
             exact ⟨(by first | rfl | (simp [errW_none, errW_some] <;> rfl) | (simp only [← hjs26, ← hjs36]; first | rfl | (simp [errW_none, errW_some] <;> rfl)) | (simp [*, errW_none, errW_some] <;> rfl)), aL⟩
            ·rw [if_neg c35] at H
             exact absurd H (by simp)
        ·rw [if_neg c25] at H
         exact absurd H (by simp)
    ·rw [if_neg c16] at H
     exact absurd H (by simp)
   ·rw [if_neg c15] at H
    exact absurd H (by simp)

/-! ### spec_TrieText: function 65 -/
def spec_TrieText.f (k : Nat) (l0_0 : List (S74)) : Option (ByteArray × Bool) := (spec_l2Trie.f k l0_0).bind fun t718 => (if t718 = true then ((spec_l2Text.f k l0_0 0).bind fun t719 => (some (t719, true))) else (some ((⟨#[]⟩ : ByteArray), false)))
theorem spec_TrieText.calls (k : Nat) (A0_0 : Option Addr) (c0_0 : Nat) (l0_0 : List (S74)) (r1 : ByteArray) (r2 : Bool) (w : World) (hr0_0 : Kd.C k74 w A0_0 l0_0.length l0_0) (hc0_0 : l0_0.length ≤ c0_0) (h : spec_TrieText.f k l0_0 = some (r1, r2)) :
  Calls Tryz.prog 65 #[.agg #[.slice A0_0 l0_0.length c0_0]] w fun e w' => e = .returned (.tuple #[.string r1, .bool r2]) ∧ Below w.heap.size w w' := by
 have hu26 := Tryz.underlying26; have HR0_0 := am hr0_0; have HC0_0 := am hc0_0; clear hr0_0 hc0_0; have HB := am (Below.refl w.heap.size w)
 unfold spec_TrieText.f at h
 have H := h; clear h; obtain ⟨t718, A2, H⟩ := bs H
 by_cases c3 : t718 = true
 ·subst c3
  rw [if_pos rfl] at H; obtain ⟨t719, A4, H⟩ := bs H; simp only [Option.some.injEq, Prod.mk.injEq] at H; obtain ⟨rfl, rfl⟩ := H
  go_enter Tryz.func65, Tryz.ntmps65
  go_wp2_with (first | ((with_reducible refine gt 1 ?_); refine bx 1 #[.slice A0_0 l0_0.length c0_0] 26 ?_; intro gb717 hg w5 hbox hb; have BK717 := am (hbox); have GW717 := uG hg HB; have GE717 := uG hg HB; replace HB := uB HB hb; clear hb hbox hg; obtain ⟨hcz6_0, hfz6_0⟩ := bz (.slice A0_0 l0_0.length c0_0) BK717) | ((with_reducible refine gd 5 113 ?_); refine gc 5 Tryz.func113 #[.agg #[.slice A0_0 l0_0.length c0_0]] (spec_l2Trie.calls k _ _ l0_0 true _ ax30 (HC0_0.out) A2.out) ?_; rintro e w7 ⟨rfl, hb⟩; refine ⟨_, rfl, ?_⟩; replace BK717 := ub BK717 hb; replace HB := uS HB hb; (try clear hb); obtain ⟨hcz8_0, hfz8_0⟩ := bz (.slice A0_0 l0_0.length c0_0) BK717) | ((with_reducible refine gd 8 156 ?_); refine gc 8 Tryz.func156 #[.agg #[.slice A0_0 l0_0.length c0_0], .int .i64 0] (spec_l2Text.calls k _ _ l0_0 0 t719 _ ax30 (HC0_0.out) A4.out) ?_; rintro e w9 ⟨rfl, hb⟩; refine ⟨_, rfl, ?_⟩; replace HB := uB HB hb; (try clear hb)))
  go_ret2
  exact ⟨ax21, aL⟩
 ·replace c3 := Bool.eq_false_iff.mpr c3
  subst c3; rw [if_neg (show ¬ (false = true) by decide)] at H; simp only [Option.some.injEq, Prod.mk.injEq] at H; obtain ⟨rfl, rfl⟩ := H
  go_enter Tryz.func65, Tryz.ntmps65
  go_wp2_with (first | ((with_reducible refine gt 1 ?_); refine bx 1 #[.slice A0_0 l0_0.length c0_0] 26 ?_; intro gb717 hg w10 hbox hb; have BK717 := am (hbox); have GW717 := uG hg HB; have GE717 := uG hg HB; replace HB := uB HB hb; clear hb hbox hg; obtain ⟨hcz11_0, hfz11_0⟩ := bz (.slice A0_0 l0_0.length c0_0) BK717) | ((with_reducible refine gd 5 113 ?_); refine gc 5 Tryz.func113 #[.agg #[.slice A0_0 l0_0.length c0_0]] (spec_l2Trie.calls k _ _ l0_0 false _ ax30 (HC0_0.out) A2.out) ?_; rintro e w12 ⟨rfl, hb⟩; refine ⟨_, rfl, ?_⟩; replace HB := uB HB hb; (try clear hb)))
  go_ret2
  exact ⟨ax21, aL⟩

end Go.Proofs.YtcplbbflfgckbaaGreatDoor.X
namespace Go.Proofs.YtcplbbflfgckbaaGreatDoor.X
open Go.RowKit Go.Proofs.YtcplbbflfgckbaaGreatDoorW.PrintWords Go.Proofs.YtcplbbflfgckbaaGreatDoorW.PrintLast Go.Proofs.YtcplbbflfgckbaaGreatDoorW.PrintMore
attribute [local go_sem] max2_int min2_int max_two min_two max_three min_three max_four min_four   -- for this text's walks alone
set_option linter.unusedVariables false
set_option linter.unusedSimpArgs false
set_option maxHeartbeats 8000000
set_option maxRecDepth 100000

/-! ### spec_l1Cur_spoilt: function 157 -/
def spec_l1Cur_spoilt.f (s0_0 : List Int) (s0_1 : Int) (s0_2 : Int) (a1 : ByteArray) (a2 : ByteArray) : Option (ByteArray × Int × Int) := if a1.toList = ([] : List UInt8) then (if 0 ≤ 1 then (if 1 ≤ (a2.size : Int) then (some (a2.extract 0 1, s0_1, s0_2)) else (none)) else (none)) else ((spec_l1Cur_pick.f s0_0 s0_1 s0_2 (a1.size : Int)).bind fun bt720 => ((spec_l1Cur_pick.f s0_0 bt720.2.1 bt720.2.2 (a2.size : Int)).bind fun bt723 => (if 0 ≤ bt723.1 then (if bt723.1 ≤ (a2.size : Int) then (if 0 ≤ 1 then (if 1 ≤ ((a2.extract (bt723.1 : Int).toNat a2.size).size : Int) then ((spec_l1Cur_pick.f s0_0 bt723.2.1 bt723.2.2 3).bind fun bt726 => (if bt726.1 = 0 then (if 0 ≤ bt720.1 then (if bt720.1 ≤ (a1.size : Int) then (if (a1.extract 0 (bt720.1 : Int).toNat).size + ((a2.extract (bt723.1 : Int).toNat a2.size).extract 0 1).size ≤ 9223372036854775807 then (if ((a1.extract 0 (bt720.1 : Int).toNat) ++ ((a2.extract (bt723.1 : Int).toNat a2.size).extract 0 1)).size + (a1.extract (bt720.1 : Int).toNat a1.size).size ≤ 9223372036854775807 then (some (((a1.extract 0 (bt720.1 : Int).toNat) ++ ((a2.extract (bt723.1 : Int).toNat a2.size).extract 0 1)) ++ (a1.extract (bt720.1 : Int).toNat a1.size), bt726.2.1, bt726.2.2)) else (none)) else (none)) else (none)) else (none)) else (if bt726.1 = 1 then (if 0 ≤ bt720.1 then (if bt720.1 ≤ (a1.size : Int) then (if (a1.extract 0 (bt720.1 : Int).toNat).size + ((a2.extract (bt723.1 : Int).toNat a2.size).extract 0 1).size ≤ 9223372036854775807 then (if 0 ≤ (wrap64 (bt720.1 + 1)) then (if (wrap64 (bt720.1 + 1)) ≤ (a1.size : Int) then (if ((a1.extract 0 (bt720.1 : Int).toNat) ++ ((a2.extract (bt723.1 : Int).toNat a2.size).extract 0 1)).size + (a1.extract ((wrap64 (bt720.1 + 1)) : Int).toNat a1.size).size ≤ 9223372036854775807 then (some (((a1.extract 0 (bt720.1 : Int).toNat) ++ ((a2.extract (bt723.1 : Int).toNat a2.size).extract 0 1)) ++ (a1.extract ((wrap64 (bt720.1 + 1)) : Int).toNat a1.size), bt726.2.1, bt726.2.2)) else (none)) else (none)) else (none)) else (none)) else (none)) else (none)) else (if 0 ≤ bt720.1 then (if bt720.1 ≤ (a1.size : Int) then (if 0 ≤ (wrap64 (bt720.1 + 1)) then (if (wrap64 (bt720.1 + 1)) ≤ (a1.size : Int) then (if (a1.extract 0 (bt720.1 : Int).toNat).size + (a1.extract ((wrap64 (bt720.1 + 1)) : Int).toNat a1.size).size ≤ 9223372036854775807 then (some ((a1.extract 0 (bt720.1 : Int).toNat) ++ (a1.extract ((wrap64 (bt720.1 + 1)) : Int).toNat a1.size), bt726.2.1, bt726.2.2)) else (none)) else (none)) else (none)) else (none)) else (none))))) else (none)) else (none)) else (none)) else (none))))
theorem spec_l1Cur_spoilt.calls (g : Nat) (s0_0 : List Int) (s0_1 : Int) (s0_2 : Int) (a1 : ByteArray) (a2 : ByteArray) (r1 : ByteArray) (r2 : Int) (r3 : Int) (w0 w : World) (hI : IsS82 w0 w g s0_0 s0_1 s0_2) (hB : Below w0.heap.size w0 w) (h : spec_l1Cur_spoilt.f s0_0 s0_1 s0_2 a1 a2 = some (r1, r2, r3)) :
  Calls Tryz.prog 157 #[.pointer (some ⟨g, 0, none⟩), .string a1, .string a2] w fun e w' => e = .returned (.string r1) ∧ IsS82 w0 w' g s0_0 r2 r3 ∧ Below w0.heap.size w0 w' ∧ KeepBut w w' g none := by
 have HI0 := am hI; have HK := am (KeepBut.refl w g none); have HL := am hB.size; clear hI; have HW0 := am hB.size; have HB := am hB; clear hB
 unfold spec_l1Cur_spoilt.f at h
 have H := h; clear h
 by_cases c4 : a1.toList = ([] : List UInt8)
 ·rw [if_pos c4] at H
  have c4b0 := beq_iff_eq.mpr c4; have c4b1 := bne_eq_false_iff_eq.mpr c4; clear c4
  by_cases c5 : 0 ≤ 1
  ·rw [if_pos c5] at H
   have c5b0 := eq_true c5; have c5b1 := decide_eq_true c5; clear c5
   by_cases c6 : 1 ≤ (a2.size : Int)
   ·rw [if_pos c6] at H
    have c6b0 := eq_true c6; have c6b1 := decide_eq_true c6; clear c6; obtain ⟨js7, hjs7⟩ : ∃ j_ : ByteArray, (a2.extract 0 1) = j_ := ⟨_, rfl⟩; (first | rw [hjs7] at H | simp only [hjs7] at H); simp only [Option.some.injEq, Prod.mk.injEq] at H; obtain ⟨rfl, rfl, rfl⟩ := H
    go_enter Tryz.func157, Tryz.ntmps157
    go_wp2
    repeat (go_quiet (fail); try go_wp2)
    go_ret
    exact ⟨(by first | rfl | (simp [errW_none, errW_some] <;> rfl) | (simp only [← hjs7]; first | rfl | (simp [errW_none, errW_some] <;> rfl)) | (simp [*, errW_none, errW_some] <;> rfl)), ax48, ax49, ax50⟩
   ·exact ax5
  ·exact ax6
 ·rw [if_neg c4] at H
  have c4b0 := beq_eq_false_iff_ne.mpr c4; have c4b1 := bne_iff_ne.mpr c4; obtain ⟨⟨t720, t721, t722⟩, A8, H⟩ := bs H; obtain ⟨⟨t723, t724, t725⟩, A9, H⟩ := bs H
  by_cases c10 : 0 ≤ t723
  ·rw [if_pos c10] at H
   have c10b0 := eq_true c10; have c10b1 := decide_eq_true c10; clear c10
   by_cases c11 : t723 ≤ (a2.size : Int)
   ·rw [if_pos c11] at H
    have c11b0 := eq_true c11; have c11b1 := decide_eq_true c11; clear c11; obtain ⟨js12, hjs12⟩ : ∃ j_ : ByteArray, (a2.extract (t723 : Int).toNat a2.size) = j_ := ⟨_, rfl⟩; (first | rw [hjs12] at H | simp only [hjs12] at H)
    by_cases c13 : 0 ≤ 1
    ·rw [if_pos c13] at H
     have c13b0 := eq_true c13; have c13b1 := decide_eq_true c13; clear c13
     by_cases c14 : 1 ≤ (js12.size : Int)
     ·rw [if_pos c14] at H
      have c14b0 := eq_true c14; have c14b1 := decide_eq_true c14; clear c14; obtain ⟨js15, hjs15⟩ : ∃ j_ : ByteArray, (js12.extract 0 1) = j_ := ⟨_, rfl⟩; (first | rw [hjs15] at H | simp only [hjs15] at H); obtain ⟨⟨t726, t727, t728⟩, A16, H⟩ := bs H
      by_cases c17 : t726 = 0
      ·rw [if_pos c17] at H
       have c17b0 := beq_iff_eq.mpr c17; have c17b1 := bne_eq_false_iff_eq.mpr c17; clear c17
       by_cases c18 : 0 ≤ t720
       ·rw [if_pos c18] at H
        have c18b0 := eq_true c18; have c18b1 := decide_eq_true c18; clear c18
        by_cases c19 : t720 ≤ (a1.size : Int)
        ·rw [if_pos c19] at H
         have c19b0 := eq_true c19; have c19b1 := decide_eq_true c19; clear c19; obtain ⟨js20, hjs20⟩ : ∃ j_ : ByteArray, (a1.extract 0 (t720 : Int).toNat) = j_ := ⟨_, rfl⟩; (first | rw [hjs20] at H | simp only [hjs20] at H)
         by_cases c21 : js20.size + js15.size ≤ 9223372036854775807
         ·rw [if_pos c21] at H
          have c21b0 := eq_true c21; have c21b1 := decide_eq_true c21
          try have c21b2 : (9223372036854775807 < js20.size + js15.size) = False := eq_false (Nat.not_lt.2 c21)
          clear c21; obtain ⟨js22, hjs22⟩ : ∃ j_ : ByteArray, (js20 ++ js15) = j_ := ⟨_, rfl⟩; (first | rw [hjs22] at H | simp only [hjs22] at H); have c23b0 := eq_true (of_decide_eq_true ax23 : 0 ≤ t720); have c24b0 := eq_true (of_decide_eq_true ax23 : t720 ≤ (a1.size : Int)); obtain ⟨js25, hjs25⟩ : ∃ j_ : ByteArray, (a1.extract (t720 : Int).toNat a1.size) = j_ := ⟨_, rfl⟩; (first | rw [hjs25] at H | simp only [hjs25] at H)
          by_cases c26 : js22.size + js25.size ≤ 9223372036854775807
          ·rw [if_pos c26] at H
           have c26b0 := eq_true c26; have c26b1 := decide_eq_true c26
           try have c26b2 : (9223372036854775807 < js22.size + js25.size) = False := eq_false (Nat.not_lt.2 c26)
           clear c26; obtain ⟨js27, hjs27⟩ : ∃ j_ : ByteArray, (js22 ++ js25) = j_ := ⟨_, rfl⟩; (first | rw [hjs27] at H | simp only [hjs27] at H); simp only [Option.some.injEq, Prod.mk.injEq] at H; obtain ⟨rfl, rfl, rfl⟩ := H
           go_enter Tryz.func157, Tryz.ntmps157
           go_wp2_with (first | (go_at_call 127; (with_reducible refine (spec_l1Cur_pick.calls g s0_0 s0_1 s0_2 (a1.size : Int) t720 t721 t722 w0 _ ?side1 ?side2 A8.out).mono ?_); (case side1 => exact ax48); (case side2 => exact ax51); rintro e w28 ⟨rfl, hi, hb, hk⟩; replace HK := am (KeepBut.trans ax50 hk (.inl rfl)); replace HB := am (hb); replace HI0 := am (hi); (try clear hb hk hi)) | (go_at_call 127; (with_reducible refine (spec_l1Cur_pick.calls g s0_0 t721 t722 (a2.size : Int) t723 t724 t725 w0 _ ?side1 ?side2 A9.out).mono ?_); (case side1 => exact ax48); (case side2 => exact ax51); rintro e w29 ⟨rfl, hi, hb, hk⟩; replace HK := am (KeepBut.trans ax50 hk (.inl rfl)); replace HB := am (hb); replace HI0 := am (hi); (try clear hb hk hi)) | (go_at_call 127; (with_reducible refine (spec_l1Cur_pick.calls g s0_0 t724 t725 3 t726 t727 t728 w0 _ ?side1 ?side2 A16.out).mono ?_); (case side1 => exact ax48); (case side2 => exact ax51); rintro e w30 ⟨rfl, hi, hb, hk⟩; replace HK := am (KeepBut.trans ax50 hk (.inl rfl)); replace HB := am (hb); replace HI0 := am (hi); (try clear hb hk hi)))
           repeat (go_quiet (fail); try go_wp2_with (first | (go_at_call 127; (with_reducible refine (spec_l1Cur_pick.calls g s0_0 s0_1 s0_2 (a1.size : Int) t720 t721 t722 w0 _ ?side1 ?side2 A8.out).mono ?_); (case side1 => exact ax48); (case side2 => exact ax51); rintro e w28 ⟨rfl, hi, hb, hk⟩; have n0_ := am (KeepBut.trans ax50 hk (.inl rfl)); have n1_ := am (hb); have n2_ := am (hi); clear HK; clear HB; clear HI0; have HK := n0_; have HB := n1_; have HI0 := n2_; clear n0_ n1_ n2_; (try clear hb hk hi)) | (go_at_call 127; (with_reducible refine (spec_l1Cur_pick.calls g s0_0 t721 t722 (a2.size : Int) t723 t724 t725 w0 _ ?side1 ?side2 A9.out).mono ?_); (case side1 => exact ax48); (case side2 => exact ax51); rintro e w29 ⟨rfl, hi, hb, hk⟩; have n0_ := am (KeepBut.trans ax50 hk (.inl rfl)); have n1_ := am (hb); have n2_ := am (hi); clear HK; clear HB; clear HI0; have HK := n0_; have HB := n1_; have HI0 := n2_; clear n0_ n1_ n2_; (try clear hb hk hi)) | (go_at_call 127; (with_reducible refine (spec_l1Cur_pick.calls g s0_0 t724 t725 3 t726 t727 t728 w0 _ ?side1 ?side2 A16.out).mono ?_); (case side1 => exact ax48); (case side2 => exact ax51); rintro e w30 ⟨rfl, hi, hb, hk⟩; have n0_ := am (KeepBut.trans ax50 hk (.inl rfl)); have n1_ := am (hb); have n2_ := am (hi); clear HK; clear HB; clear HI0; have HK := n0_; have HB := n1_; have HI0 := n2_; clear n0_ n1_ n2_; (try clear hb hk hi))))
           go_ret
           exact ⟨(by first | rfl | (simp [errW_none, errW_some] <;> rfl) | (simp only [← hjs12, ← hjs15, ← hjs20, ← hjs22, ← hjs25, ← hjs27]; first | rfl | (simp [errW_none, errW_some] <;> rfl)) | (simp [*, errW_none, errW_some] <;> rfl)), ax48, ax49, ax50⟩
          ·exact ax9
         ·rw [if_neg c21] at H
          exact absurd H (by simp)
        ·rw [if_neg c19] at H
         exact absurd H (by simp)
       ·rw [if_neg c18] at H
        exact absurd H (by simp)
      ·rw [if_neg c17] at H
       have c17b0 := beq_eq_false_iff_ne.mpr c17; have c17b1 := bne_iff_ne.mpr c17
       by_cases c31 : t726 = 1
       ·rw [if_pos c31] at H
        have c31b0 := beq_iff_eq.mpr c31; have c31b1 := bne_eq_false_iff_eq.mpr c31; clear c31
        by_cases c32 : 0 ≤ t720
        ·rw [if_pos c32] at H
         have c32b0 := eq_true c32; have c32b1 := decide_eq_true c32; clear c32
         by_cases c33 : t720 ≤ (a1.size : Int)
         ·rw [if_pos c33] at H
          have c33b0 := eq_true c33; have c33b1 := decide_eq_true c33; clear c33; obtain ⟨js34, hjs34⟩ : ∃ j_ : ByteArray, (a1.extract 0 (t720 : Int).toNat) = j_ := ⟨_, rfl⟩; (first | rw [hjs34] at H | simp only [hjs34] at H)
          by_cases c35 : js34.size + js15.size ≤ 9223372036854775807
          ·rw [if_pos c35] at H
           have c35b0 := eq_true c35; have c35b1 := decide_eq_true c35
           try have c35b2 : (9223372036854775807 < js34.size + js15.size) = False := eq_false (Nat.not_lt.2 c35)
           clear c35; obtain ⟨js36, hjs36⟩ : ∃ j_ : ByteArray, (js34 ++ js15) = j_ := ⟨_, rfl⟩; (first | rw [hjs36] at H | simp only [hjs36] at H); obtain ⟨ji37, hji37⟩ : ∃ j_ : Int, (wrap64 (t720 + 1)) = j_ := ⟨_, rfl⟩; (first | rw [hji37] at H | simp only [hji37] at H); (try rw [hji37] at A8); (try rw [hji37] at A9); (try rw [hji37] at A16); have hji37w : (IntKind.i64.wrap (t720 + 1)) = ji37 := (i64_w _).trans hji37
           by_cases c38 : 0 ≤ (ji37)
           ·rw [if_pos c38] at H
            have c38b0 := eq_true c38; have c38b1 := decide_eq_true c38; clear c38
            by_cases c39 : (ji37) ≤ (a1.size : Int)
            ·rw [if_pos c39] at H
             have c39b0 := eq_true c39; have c39b1 := decide_eq_true c39; clear c39; obtain ⟨js40, hjs40⟩ : ∃ j_ : ByteArray, (a1.extract ((ji37) : Int).toNat a1.size) = j_ := ⟨_, rfl⟩; (first | rw [hjs40] at H | simp only [hjs40] at H)
             by_cases c41 : js36.size + js40.size ≤ 9223372036854775807
             ·rw [if_pos c41] at H
              have c41b0 := eq_true c41; have c41b1 := decide_eq_true c41
              try have c41b2 : (9223372036854775807 < js36.size + js40.size) = False := eq_false (Nat.not_lt.2 c41)
              clear c41; obtain ⟨js42, hjs42⟩ : ∃ j_ : ByteArray, (js36 ++ js40) = j_ := ⟨_, rfl⟩; (first | rw [hjs42] at H | simp only [hjs42] at H); simp only [Option.some.injEq, Prod.mk.injEq] at H; obtain ⟨rfl, rfl, rfl⟩ := H
              go_enter Tryz.func157, Tryz.ntmps157
              go_wp2_with (first | (go_at_call 127; (with_reducible refine (spec_l1Cur_pick.calls g s0_0 s0_1 s0_2 (a1.size : Int) t720 t721 t722 w0 _ ?side1 ?side2 A8.out).mono ?_); (case side1 => exact ax48); (case side2 => exact ax51); rintro e w43 ⟨rfl, hi, hb, hk⟩; replace HK := am (KeepBut.trans ax50 hk (.inl rfl)); replace HB := am (hb); replace HI0 := am (hi); (try clear hb hk hi)) | (go_at_call 127; (with_reducible refine (spec_l1Cur_pick.calls g s0_0 t721 t722 (a2.size : Int) t723 t724 t725 w0 _ ?side1 ?side2 A9.out).mono ?_); (case side1 => exact ax48); (case side2 => exact ax51); rintro e w44 ⟨rfl, hi, hb, hk⟩; replace HK := am (KeepBut.trans ax50 hk (.inl rfl)); replace HB := am (hb); replace HI0 := am (hi); (try clear hb hk hi)) | (go_at_call 127; (with_reducible refine (spec_l1Cur_pick.calls g s0_0 t724 t725 3 t726 t727 t728 w0 _ ?side1 ?side2 A16.out).mono ?_); (case side1 => exact ax48); (case side2 => exact ax51); rintro e w45 ⟨rfl, hi, hb, hk⟩; replace HK := am (KeepBut.trans ax50 hk (.inl rfl)); replace HB := am (hb); replace HI0 := am (hi); (try clear hb hk hi)))
              repeat (go_quiet (fail); try go_wp2_with (first | (go_at_call 127; (with_reducible refine (spec_l1Cur_pick.calls g s0_0 s0_1 s0_2 (a1.size : Int) t720 t721 t722 w0 _ ?side1 ?side2 A8.out).mono ?_); (case side1 => exact ax48); (case side2 => exact ax51); rintro e w43 ⟨rfl, hi, hb, hk⟩; have n0_ := am (KeepBut.trans ax50 hk (.inl rfl)); have n1_ := am (hb); have n2_ := am (hi); clear HK; clear HB; clear HI0; have HK := n0_; have HB := n1_; have HI0 := n2_; clear n0_ n1_ n2_; (try clear hb hk hi)) | (go_at_call 127; (with_reducible refine (spec_l1Cur_pick.calls g s0_0 t721 t722 (a2.size : Int) t723 t724 t725 w0 _ ?side1 ?side2 A9.out).mono ?_); (case side1 => exact ax48); (case side2 => exact ax51); rintro e w44 ⟨rfl, hi, hb, hk⟩; have n0_ := am (KeepBut.trans ax50 hk (.inl rfl)); have n1_ := am (hb); have n2_ := am (hi); clear HK; clear HB; clear HI0; have HK := n0_; have HB := n1_; have HI0 := n2_; clear n0_ n1_ n2_; (try clear hb hk hi)) | (go_at_call 127; (with_reducible refine (spec_l1Cur_pick.calls g s0_0 t724 t725 3 t726 t727 t728 w0 _ ?side1 ?side2 A16.out).mono ?_); (case side1 => exact ax48); (case side2 => exact ax51); rintro e w45 ⟨rfl, hi, hb, hk⟩; have n0_ := am (KeepBut.trans ax50 hk (.inl rfl)); have n1_ := am (hb); have n2_ := am (hi); clear HK; clear HB; clear HI0; have HK := n0_; have HB := n1_; have HI0 := n2_; clear n0_ n1_ n2_; (try clear hb hk hi))))
              go_ret
              exact ⟨(by first | rfl | (simp [errW_none, errW_some] <;> rfl) | (simp only [← hjs12, ← hjs15, ← hjs34, ← hjs36, ← hji37, ← hjs40, ← hjs42]; first | rfl | (simp [errW_none, errW_some] <;> rfl)) | (simp [*, errW_none, errW_some] <;> rfl)), ax48, ax49, ax50⟩
             ·rw [if_neg c41] at H
              exact absurd H (by simp)
            ·rw [if_neg c39] at H
             exact absurd H (by simp)
           ·rw [if_neg c38] at H
            exact absurd H (by simp)
          ·rw [if_neg c35] at H
           exact absurd H (by simp)
         ·exact ax14
        ·rw [if_neg c32] at H
         exact absurd H (by simp)
       ·rw [if_neg c31] at H
        have c31b0 := beq_eq_false_iff_ne.mpr c31; have c31b1 := bne_iff_ne.mpr c31
        by_cases c46 : 0 ≤ t720
        ·rw [if_pos c46] at H
         have c46b0 := eq_true c46; have c46b1 := decide_eq_true c46; clear c46
         by_cases c47 : t720 ≤ (a1.size : Int)
         ·rw [if_pos c47] at H
          have c47b0 := eq_true c47; have c47b1 := decide_eq_true c47; clear c47; obtain ⟨js48, hjs48⟩ : ∃ j_ : ByteArray, (a1.extract 0 (t720 : Int).toNat) = j_ := ⟨_, rfl⟩; (first | rw [hjs48] at H | simp only [hjs48] at H); obtain ⟨ji49, hji49⟩ : ∃ j_ : Int, (wrap64 (t720 + 1)) = j_ := ⟨_, rfl⟩; (first | rw [hji49] at H | simp only [hji49] at H); (try rw [hji49] at A8); (try rw [hji49] at A9); (try rw [hji49] at A16); have hji49w : (IntKind.i64.wrap (t720 + 1)) = ji49 := (i64_w _).trans hji49
          by_cases c50 : 0 ≤ (ji49)
          ·rw [if_pos c50] at H
           have c50b0 := eq_true c50; have c50b1 := decide_eq_true c50; clear c50
           by_cases c51 : (ji49) ≤ (a1.size : Int)
           ·rw [if_pos c51] at H
            have c51b0 := eq_true c51; have c51b1 := decide_eq_true c51; clear c51; obtain ⟨js52, hjs52⟩ : ∃ j_ : ByteArray, (a1.extract ((ji49) : Int).toNat a1.size) = j_ := ⟨_, rfl⟩; (first | rw [hjs52] at H | simp only [hjs52] at H)
            by_cases c53 : js48.size + js52.size ≤ 9223372036854775807
            ·rw [if_pos c53] at H
             have c53b0 := eq_true c53; have c53b1 := decide_eq_true c53
             try have c53b2 : (9223372036854775807 < js48.size + js52.size) = False := eq_false (Nat.not_lt.2 c53)
             clear c53; obtain ⟨js54, hjs54⟩ : ∃ j_ : ByteArray, (js48 ++ js52) = j_ := ⟨_, rfl⟩; (first | rw [hjs54] at H | simp only [hjs54] at H); simp only [Option.some.injEq, Prod.mk.injEq] at H; obtain ⟨rfl, rfl, rfl⟩ := H
             go_enter Tryz.func157, Tryz.ntmps157
             go_wp2_with (first | (go_at_call 127; (with_reducible refine (spec_l1Cur_pick.calls g s0_0 s0_1 s0_2 (a1.size : Int) t720 t721 t722 w0 _ ?side1 ?side2 A8.out).mono ?_); (case side1 => exact ax48); (case side2 => exact ax51); rintro e w55 ⟨rfl, hi, hb, hk⟩; replace HK := am (KeepBut.trans ax50 hk (.inl rfl)); replace HB := am (hb); replace HI0 := am (hi); (try clear hb hk hi)) | (go_at_call 127; (with_reducible refine (spec_l1Cur_pick.calls g s0_0 t721 t722 (a2.size : Int) t723 t724 t725 w0 _ ?side1 ?side2 A9.out).mono ?_); (case side1 => exact ax48); (case side2 => exact ax51); rintro e w56 ⟨rfl, hi, hb, hk⟩; replace HK := am (KeepBut.trans ax50 hk (.inl rfl)); replace HB := am (hb); replace HI0 := am (hi); (try clear hb hk hi)) | (go_at_call 127; (with_reducible refine (spec_l1Cur_pick.calls g s0_0 t724 t725 3 t726 t727 t728 w0 _ ?side1 ?side2 A16.out).mono ?_); (case side1 => exact ax48); (case side2 => exact ax51); rintro e w57 ⟨rfl, hi, hb, hk⟩; replace HK := am (KeepBut.trans ax50 hk (.inl rfl)); replace HB := am (hb); replace HI0 := am (hi); (try clear hb hk hi)))
             repeat (go_quiet (fail); try go_wp2_with (first | (go_at_call 127; (with_reducible refine (spec_l1Cur_pick.calls g s0_0 s0_1 s0_2 (a1.size : Int) t720 t721 t722 w0 _ ?side1 ?side2 A8.out).mono ?_); (case side1 => exact ax48); (case side2 => exact ax51); rintro e w55 ⟨rfl, hi, hb, hk⟩; have n0_ := am (KeepBut.trans ax50 hk (.inl rfl)); have n1_ := am (hb); have n2_ := am (hi); clear HK; clear HB; clear HI0; have HK := n0_; have HB := n1_; have HI0 := n2_; clear n0_ n1_ n2_; (try clear hb hk hi)) | (go_at_call 127; (with_reducible refine (spec_l1Cur_pick.calls g s0_0 t721 t722 (a2.size : Int) t723 t724 t725 w0 _ ?side1 ?side2 A9.out).mono ?_); (case side1 => exact ax48); (case side2 => exact ax51); rintro e w56 ⟨rfl, hi, hb, hk⟩; have n0_ := am (KeepBut.trans ax50 hk (.inl rfl)); have n1_ := am (hb); have n2_ := am (hi); clear HK; clear HB; clear HI0; have HK := n0_; have HB := n1_; have HI0 := n2_; clear n0_ n1_ n2_; (try clear hb hk hi)) | (go_at_call 127; (with_reducible refine (spec_l1Cur_pick.calls g s0_0 t724 t725 3 t726 t727 t728 w0 _ ?side1 ?side2 A16.out).mono ?_); (case side1 => exact ax48); (case side2 => exact ax51); rintro e w57 ⟨rfl, hi, hb, hk⟩; have n0_ := am (KeepBut.trans ax50 hk (.inl rfl)); have n1_ := am (hb); have n2_ := am (hi); clear HK; clear HB; clear HI0; have HK := n0_; have HB := n1_; have HI0 := n2_; clear n0_ n1_ n2_; (try clear hb hk hi))))
             go_ret
             exact ⟨(by first | rfl | (simp [errW_none, errW_some] <;> rfl) | (simp only [← hjs12, ← hjs15, ← hjs48, ← hji49, ← hjs52, ← hjs54]; first | rfl | (simp [errW_none, errW_some] <;> rfl)) | (simp [*, errW_none, errW_some] <;> rfl)), ax48, ax49, ax50⟩
            ·rw [if_neg c53] at H
             exact absurd H (by simp)
           ·rw [if_neg c51] at H
            exact absurd H (by simp)
          ·rw [if_neg c50] at H
           exact absurd H (by simp)
         ·rw [if_neg c47] at H
          exact absurd H (by simp)
        ·rw [if_neg c46] at H
         exact absurd H (by simp)
     ·exact ax3
    ·rw [if_neg c13] at H
     exact absurd H (by simp)
   ·exact ax1
  ·exact ax4
/-! ### spec_DrawParseTrie: function 66 -/
def spec_DrawParseTrie.j0 : Nat → ByteArray → List Int → Int → Int → Option (ByteArray)
 | 0, _, _, _, _ => none
 | k + 1, x4, x730000, x730001, x730002 => (spec_l1Cur_one.f x730000 x730001 x730002 3).bind fun bt738 => (if bt738.1 = true then ((spec_l1Cur_spoilt.f x730000 bt738.2.1 bt738.2.2 x4 (⟨#[97, 98, 46, 40, 41, 32, 65]⟩ : ByteArray)).bind fun bt741 => (some bt741.1)) else (some x4))
def spec_DrawParseTrie.f (k : Nat) (l0 : List Int) : Option (ByteArray) := (spec_l1Cur_trie.f k l0 0 0).bind fun bt730 => ((spec_l2Trie.f k bt730.1).bind fun t736 => (if t736 = true then ((spec_l2Text.f k bt730.1 0).bind fun t737 => (spec_DrawParseTrie.j0 k t737 l0 bt730.2.1 bt730.2.2)) else (spec_DrawParseTrie.j0 k (⟨#[46, 40, 97, 46, 40, 98, 46, 41, 99, 46, 41]⟩ : ByteArray) l0 bt730.2.1 bt730.2.2)))
theorem spec_DrawParseTrie.calls (k : Nat) (A0 : Option Addr) (c0 : Nat) (l0 : List Int) (r : ByteArray) (w : World) (hr0 : Kd.C (Kd.int .u8) w A0 l0.length l0) (hc0 : l0.length ≤ c0) (h : spec_DrawParseTrie.f k l0 = some r) :
  Calls Tryz.prog 66 #[.slice A0 l0.length c0] w fun e w' => e = .returned (.string r) ∧ Below w.heap.size w w' := by
 have hu82 := Tryz.underlying82; have hu26 := Tryz.underlying26; have HR0 := am hr0; have HC0 := am hc0; clear hr0 hc0; have HB := am (Below.refl w.heap.size w)
 unfold spec_DrawParseTrie.f at h
 have H := h; clear h; obtain ⟨⟨t730, t733, t734⟩, A2, H⟩ := bs H; obtain ⟨t736, A3, H⟩ := bs H; have HC4 := am H; clear H
 go_enter Tryz.func66, Tryz.ntmps66
 go_upto_if 12 with (first | ((with_reducible refine gt 8 ?_); refine bx 8 #[.slice A0 l0.length c0, .int .i64 0, .int .u64 0] 82 ?_; intro gb729 hg w5 hbox hb; have n0_ := uS HB hb; have n1_ := am (hbox); have n2_ := uH hg HB; have n3_ := uH hg HB; have n4_ := am ((⟨_, _, hbox, ax36, HR0.out⟩ : IsS82 w w5 gb729 l0 0 0)); clear HB; have HB := n0_; have BK729 := n1_; have GW729 := n2_; have GE729 := n3_; have HI729 := n4_; clear n0_ n1_ n2_ n3_ n4_; clear hb hbox hg) | ((with_reducible refine gate_callee (f := 108) rfl ?_); refine goesL_ (some 10) rfl rfl Tryz.func108 (by kernel_rfl) rfl #[.pointer (some ⟨gb729, 0, none⟩)] rfl ax26 ?_; (with_reducible refine (spec_l1Cur_trie.calls k gb729 l0 0 0 t730 t733 t734 w _ ?side1 ?side2 A2.out).mono ?_); (case side1 => exact ax141); (case side2 => exact ax142); rintro e w6 ⟨v731, rfl, ho0, hi, hb, hk⟩; refine ⟨_, rfl, ?_⟩; have n0_ := am (Kd.R_lower ho0 (below_size ax142)); have n1_ := am (hb); have n2_ := am (hi); clear HB; clear HI729; have HO732 := n0_; have HB := n1_; have HI729 := n2_; clear n0_ n1_ n2_; (try clear hb hk hi ho0)) | ((with_reducible refine gt 5 ?_); refine bx 5 #[.slice none 0 0] 26 ?_; intro gb735 hg w7 hbox hb; have n0_ := am (Kd.R_below (rX HO732) hb); have n1_ := am (IsS82.below ax141 hb); have n2_ := am (below_step ax142 hb); have n3_ := am (hbox); have n4_ := am ((ax143 : w.heap.size ≤ gb735)); have n5_ := am ((ax143 : w.heap.size ≤ gb735)); have n6_ := am ((by rw [hg]; exact Nat.ne_of_lt (IsS82.lt (show IsS82 w _ gb729 l0 t733 t734 from ax141)) : gb729 ≠ gb735)); have n7_ := am ((by rw [hg]; exact Nat.ne_of_gt (IsS82.lt (show IsS82 w _ gb729 l0 t733 t734 from ax141)) : gb735 ≠ gb729)); clear HO732; clear HI729; clear HB; have HO732 := n0_; have HI729 := n1_; have HB := n2_; have BK735 := n3_; have GW735 := n4_; have GE735 := n5_; have NB729_735 := n6_; have NB735_729 := n7_; clear n0_ n1_ n2_ n3_ n4_ n5_ n6_ n7_; clear hb hbox hg; obtain ⟨Ao8, co8, rfl⟩ := Kd.R_slice HO732.out; obtain ⟨hnb9, hnc9⟩ := nk NB735_729; have hcz10_0 : w7.cell? ⟨gb735, 0, none⟩ = some (.slice none 0 0) := (blk_cell BK735.out 0).trans rfl; have hfz10_0 := blk_frozen BK735.out 0) | ((with_reducible refine gate_callee (f := 113) rfl ?_); refine goesL_ (some 12) rfl rfl Tryz.func113 (by kernel_rfl) rfl #[.agg #[.slice Ao8 t730.length co8]] rfl ax26 ?_; (with_reducible refine (spec_l2Trie.calls k _ _ t730 t736 _ ?side1 ?side2 A3.out).mono ?_); (case side1 => refine (Kd.R_reads' (e := 74) (base := w.heap.size) (ok := fun k_ => True) (n := t730.length) (c := co8) ?_).2.2; exact (rX HO732)); (case side2 => exact (Kd.R_reads' HO732.out).2.1); rintro e w11 ⟨rfl, hb⟩; refine ⟨_, rfl, ?_⟩; have n0_ := am (Kd.R_below (rX HO732) hb); have n1_ := am (IsS82.below (show IsS82 w (w7.setCell ⟨gb735, 0, none⟩ (.slice Ao8 t730.length co8)) gb729 l0 t733 t734 from ax144) hb); have n2_ := am (blk_below (g := gb735) (o := .cells #[.slice Ao8 t730.length co8] 26 (0, 0)) aU hb); have n3_ := am (below_step ax145 hb); clear HO732; clear HI729; clear BK735; clear HB; have HO732 := n0_; have HI729 := n1_; have BK735 := n2_; have HB := n3_; clear n0_ n1_ n2_ n3_; (try clear hb)))
 (try simp only [Act.put, List.setIfInBounds_toArray, List.set_cons_zero, List.set_cons_succ])
 go_cut [4] (fun v4 wc => ∃ (kq : Nat) (x4_3 : ByteArray), v4 = .string x4_3 ∧ Aside0 (spec_DrawParseTrie.j0 kq x4_3 l0 t733 t734 = some r) ∧ Aside0 (kq ≤ k) ∧ Aside0 (Kd.R k74 74 wc w.heap.size (fun _ => True) (.slice Ao8 t730.length co8) t730) ∧ Aside0 (wc.heap[gb735]? = some (.cells #[(.slice Ao8 t730.length co8)] 26 (0, 0))) ∧ Aside0 (IsS82 w wc gb729 l0 t733 t734) ∧ Aside0 (Below w.heap.size w wc))
 case first =>
  have H := HC4.out; clear HC4
  by_cases c12 : t736 = true
  ·subst c12
   rw [if_pos rfl] at H; obtain ⟨t737, A13, H⟩ := bs H; have H' := am H; clear H; obtain ⟨hnb14, hnc14⟩ := nk NB735_729; obtain ⟨hcz15_0, hfz15_0⟩ := bz (.slice Ao8 t730.length co8) BK735
   go_wp2_with (first | ((with_reducible refine gd 14 156 ?_); refine gc 14 Tryz.func156 #[.agg #[.slice Ao8 t730.length co8], .int .i64 0] (spec_l2Text.calls k _ _ t730 0 t737 _ (rd2 HO732) (rl HO732) A13.out) ?_; rintro e w16 ⟨rfl, hb⟩; refine ⟨_, rfl, ?_⟩; replace HO732 := uR HO732 hb; replace BK735 := ub BK735 hb; replace HB := am (below_step ax145 hb); replace HI729 := am (IsS82.below ax144 hb); (try clear hb)))
   go_meet
   case rel => exact ⟨_, (t737), ax18, H', ⟨by first | omega | exact Nat.le_refl _⟩, ⟨aU⟩, ⟨aU⟩, ⟨ax144⟩, ⟨ax146⟩⟩
  ·replace c12 := Bool.eq_false_iff.mpr c12
   subst c12; rw [if_neg (show ¬ (false = true) by decide)] at H; have H' := am H; clear H
   go_wp2
   go_meet
   case rel => exact ⟨_, ((⟨#[46, 40, 97, 46, 40, 98, 46, 41, 99, 46, 41]⟩ : ByteArray)), ax18, H', ⟨by first | omega | exact Nat.le_refl _⟩, ⟨aU⟩, ⟨aU⟩, ⟨ax144⟩, ⟨ax146⟩⟩
 case rest =>
  clear HC4; (try clear c0);(try clear hcz10_0);(try clear hfz10_0); obtain ⟨kq, x4_3, rfl, HA, HJ3, HO_736000, BK735, HI729, HB⟩ := hcut
  cases kq with
  | zero => exact absurd HA.out (by simp [spec_DrawParseTrie.j0])
  | succ kj3 =>
   have H := HA.out; clear HA; simp only [spec_DrawParseTrie.j0] at H; obtain ⟨⟨t738, t739, t740⟩, A17, H⟩ := bs H
   by_cases c18 : t738 = true
   ·subst c18
    rw [if_pos rfl] at H; obtain ⟨⟨t741, t742, t743⟩, A19, H⟩ := bs H; obtain rfl := Option.some.inj H
    go_wp2_with (first | ((with_reducible refine gd 16 122 ?_); refine gc 16 Tryz.func122 #[.pointer (some ⟨gb729, 0, none⟩), .int .i64 3] (spec_l1Cur_one.calls gb729 l0 t733 t734 3 true t739 t740 w _ ax141 ax142 A17.out) ?_; rintro e w20 ⟨rfl, hi, hb, hk⟩; refine ⟨_, rfl, ?_⟩; replace HB := am (hb); replace HI729 := am (hi); (try clear hb hk hi)) | ((with_reducible refine gd 19 157 ?_); refine gc 19 Tryz.func157 #[.pointer (some ⟨gb729, 0, none⟩), .string x4_3, .string (⟨#[97, 98, 46, 40, 41, 32, 65]⟩ : ByteArray)] (spec_l1Cur_spoilt.calls gb729 l0 t739 t740 x4_3 (⟨#[97, 98, 46, 40, 41, 32, 65]⟩ : ByteArray) t741 t742 t743 w _ ax141 ax142 A19.out) ?_; rintro e w21 ⟨rfl, hi, hb, hk⟩; refine ⟨_, rfl, ?_⟩; replace HB := am (hb); replace HI729 := am (hi); (try clear hb hk hi)))
    go_ret
    exact ⟨ax21, ax147⟩
   ·replace c18 := Bool.eq_false_iff.mpr c18
    subst c18; rw [if_neg (show ¬ (false = true) by decide)] at H; obtain rfl := Option.some.inj H
    go_wp2_with (first | ((with_reducible refine gd 16 122 ?_); refine gc 16 Tryz.func122 #[.pointer (some ⟨gb729, 0, none⟩), .int .i64 3] (spec_l1Cur_one.calls gb729 l0 t733 t734 3 false t739 t740 w _ ax141 ax142 A17.out) ?_; rintro e w22 ⟨rfl, hi, hb, hk⟩; refine ⟨_, rfl, ?_⟩; replace HB := am (hb); replace HI729 := am (hi); (try clear hb hk hi)))
    go_ret
    exact ⟨ax21, ax147⟩

end Go.Proofs.YtcplbbflfgckbaaGreatDoor.X
namespace Go.Proofs.YtcplbbflfgckbaaGreatDoor.X
open Go.RowKit Go.Proofs.YtcplbbflfgckbaaGreatDoorW.PrintWords Go.Proofs.YtcplbbflfgckbaaGreatDoorW.PrintLast Go.Proofs.YtcplbbflfgckbaaGreatDoorW.PrintMore
attribute [local go_sem] max2_int min2_int max_two min_two max_three min_three max_four min_four   -- for this text's walks alone
set_option linter.unusedVariables false
set_option linter.unusedSimpArgs false
set_option maxHeartbeats 8000000
set_option maxRecDepth 100000

/-! ### laws_rTexts: function 54 -/
def laws_rTexts.l0 : Nat → List ByteArray → List ByteArray → Int → Option (Bool)
 | 0, _, _, _ => none
 | k + 1, x0, x1, x5 => if x5 < (x0.length : Int) then (if 0 ≤ x5 then (if x5 < (x1.length : Int) then (if (rdOf ByteArray.empty x0 x5).toList = (rdOf ByteArray.empty x1 x5).toList then (laws_rTexts.l0 k x0 x1 (wrap64 (x5 + 1))) else (some false)) else (none)) else (none)) else (some true)
def laws_rTexts.f (k : Nat) (l0 : List ByteArray) (l1 : List ByteArray) : Option (Bool) := if (l0.length : Int) = (l1.length : Int) then (laws_rTexts.l0 k l0 l1 0) else (some false)
theorem laws_rTexts.calls (k : Nat) (A0 : Option Addr) (c0 : Nat) (l0 : List ByteArray) (A1 : Option Addr) (c1 : Nat) (l1 : List ByteArray) (r : Bool) (w : World) (hr0 : Kd.C Kd.string w A0 l0.length l0) (hc0 : l0.length ≤ c0) (hr1 : Kd.C Kd.string w A1 l1.length l1) (hc1 : l1.length ≤ c1) (h : laws_rTexts.f k l0 l1 = some r) :
  Calls Tryz.prog 54 #[.slice A0 l0.length c0, .slice A1 l1.length c1] w fun e w' => e = .returned (.bool r) ∧ Drawn0 w w' := by
 have HR0 := am hr0; have HC0 := am hc0; clear hr0 hc0; have HR1 := am hr1; have HC1 := am hc1; clear hr1 hc1
 unfold laws_rTexts.f at h
 have H := h; clear h
 by_cases c3 : (l0.length : Int) = (l1.length : Int)
 ·rw [if_pos c3] at H
  have c3b0 := beq_iff_eq.mpr c3; have c3b1 := bne_eq_false_iff_eq.mpr c3
  have c3b2 : (l0.length == l1.length) = true := by first | simpa using c3 | (simp at c3 ⊢; omega)
  clear c3; have H' := am H; clear H
  go_enter Tryz.func54, Tryz.ntmps54
  go_wp2
  repeat (go_quiet (fail); try go_wp2)
  go_loopg [5] k (fun kq v5 w' => ∃ (x5_1 : Int), v5 = .int .i64 x5_1 ∧ Aside0 (laws_rTexts.l0 kq l0 l1 x5_1 = some r) ∧ Aside0 (kq ≤ k) ∧ Drawn0 w w')
  case atStart => exact ⟨(0), ax18, H', ⟨Nat.le_refl _⟩, by repeat (first | exact Drawn0.refl _ | apply Drawn0.step)⟩
  case round =>
   clear H'; (try clear c3);(try clear c3b2);(try clear c3b1);(try clear c3b0); obtain ⟨x5_1, rfl, HA, HK1, ⟨m1, rfl⟩⟩ := hrel
   cases gk with
   | zero => exact absurd HA.out (by simp [laws_rTexts.l0])
   | succ k1 =>
    have H := HA.out; clear HA; simp only [laws_rTexts.l0] at H
    by_cases c4 : x5_1 < (l0.length : Int)
    ·rw [if_pos c4] at H
     have c4b0 := decide_eq_true c4; clear c4
     by_cases c5 : 0 ≤ x5_1
     ·rw [if_pos c5] at H
      have c5b0 := decide_eq_true c5; clear c5
      by_cases c6 : x5_1 < (l1.length : Int)
      ·rw [if_pos c6] at H
       have c6b0 := decide_eq_true c6; clear c6
       by_cases c7 : (rdOf ByteArray.empty l0 x5_1).toList = (rdOf ByteArray.empty l1 x5_1).toList
       ·rw [if_pos c7] at H
        have c7b0 := beq_iff_eq.mpr c7; have c7b1 := bne_eq_false_iff_eq.mpr c7; clear c7; have H' := am H; clear H; have p526 : 0 ≤ (x5_1 : Int) := of_decide_eq_true ax23; have q526 : x5_1 < (l0.length : Int) := of_decide_eq_true ax23; obtain ⟨ad526, e526, hx526_0⟩ := Kd.at_string HR0.out x5_1 p526 q526
        cases e526
        replace p526 := eq_true p526; replace q526 := eq_true q526; have p527 : 0 ≤ (x5_1 : Int) := of_decide_eq_true ax23; have q527 : x5_1 < (l1.length : Int) := of_decide_eq_true ax23; obtain ⟨ad527, e527, hx527_0⟩ := Kd.at_string HR1.out x5_1 p527 q527
        cases e527
        replace p527 := eq_true p527; replace q527 := eq_true q527
        go_wp2
        repeat (go_quiet (fail); try go_wp2)
        go_roundg k1
        case measure => have := HK1.out; omega
        case rel => exact ⟨(wrap64 (x5_1 + 1)), ax18, H', ⟨by have := HK1.out; omega⟩, ax19⟩
       ·rw [if_neg c7] at H
        have c7b0 := beq_eq_false_iff_ne.mpr c7; have c7b1 := bne_iff_ne.mpr c7; obtain rfl := Option.some.inj H; have p526 : 0 ≤ (x5_1 : Int) := of_decide_eq_true ax23; have q526 : x5_1 < (l0.length : Int) := of_decide_eq_true ax23; obtain ⟨ad526, e526, hx526_0⟩ := Kd.at_string HR0.out x5_1 p526 q526
        cases e526
        replace p526 := eq_true p526; replace q526 := eq_true q526; have p527 : 0 ≤ (x5_1 : Int) := of_decide_eq_true ax23; have q527 : x5_1 < (l1.length : Int) := of_decide_eq_true ax23; obtain ⟨ad527, e527, hx527_0⟩ := Kd.at_string HR1.out x5_1 p527 q527
        cases e527
        replace p527 := eq_true p527; replace q527 := eq_true q527
        go_wp2
        repeat (go_quiet (fail); try go_wp2)
        go_ret
        exact ⟨ax18, ax19⟩
      ·exact ax5
     ·exact ax6
    ·rw [if_neg c4] at H
     have c4b0 := decide_eq_false c4; clear c4; obtain rfl := Option.some.inj H
     go_wp2
     repeat (go_quiet (fail); try go_wp2)
     go_ret
     exact ⟨ax18, ax19⟩
 ·rw [if_neg c3] at H
  have c3b0 := beq_eq_false_iff_ne.mpr c3; have c3b1 := bne_iff_ne.mpr c3
  have c3b2 : (l0.length == l1.length) = false := by first | simpa using c3 | (simp at c3 ⊢; omega)
  obtain rfl := Option.some.inj H
  go_enter Tryz.func54, Tryz.ntmps54
  go_wp2
  repeat (go_quiet (fail); try go_wp2)
  go_ret
  exact ⟨ax18, ax19⟩

/-! ### spec_l1Cur_full: function 146 -/
def spec_l1Cur_full.l0 : Nat → List ByteArray → Int → Int → List Int → Int → Int → Option ((List (S74)) × Int × Int)
 | 0, _, _, _, _, _, _ => none
 | k + 1, x3, x4, x5, x1000, x1001, x1002 => if x5 < x4 then ((spec_l2Put.f k x3 (strOfNums (([(wrap64 (97 + (Int.tmod x5 26))) % 256, (wrap64 (97 + (wrap64 (Int.tdiv x5 26)))) % 256] : List Int)))).bind fun t538 => (spec_l1Cur_full.l0 k t538 x4 (wrap64 (x5 + 1)) x1000 x1001 x1002)) else ((spec_l2Of.f k x3).bind fun t541 => (some (t541, x1001, x1002)))
def spec_l1Cur_full.f (k : Nat) (s0_0 : List Int) (s0_1 : Int) (s0_2 : Int) : Option ((List (S74)) × Int × Int) := (spec_l1Cur_pick.f s0_0 s0_1 s0_2 2).bind fun bt532 => (spec_l1Cur_full.l0 k (([] : List ByteArray)) (wrap64 (39 + bt532.1)) 0 s0_0 bt532.2.1 bt532.2.2)
theorem spec_l1Cur_full.calls (k : Nat) (g : Nat) (s0_0 : List Int) (s0_1 : Int) (s0_2 : Int) (r1 : List (S74)) (r2 : Int) (r3 : Int) (w0 w : World) (hI : IsS82 w0 w g s0_0 s0_1 s0_2) (hB : Below w0.heap.size w0 w) (h : spec_l1Cur_full.f k s0_0 s0_1 s0_2 = some (r1, r2, r3)) :
  Calls Tryz.prog 146 #[.pointer (some ⟨g, 0, none⟩)] w fun e w' => ∃ v0_ : Value, e = .returned (.agg #[v0_]) ∧ Kd.R k74 74 w' w.heap.size (fun _ => True) v0_ r1 ∧ IsS82 w0 w' g s0_0 r2 r3 ∧ Below w0.heap.size w0 w' ∧ KeepBut w w' g none := by
 have hu26 := Tryz.underlying26; have HI0 := am hI; have HK := am (KeepBut.refl w g none); have HL := am hB.size; clear hI; have HW0 := am hB.size; have HB := am hB; clear hB
 unfold spec_l1Cur_full.f at h
 have H := h; clear h; obtain ⟨y529, hy529⟩ : ∃ y_ : List ByteArray, y_ = (([] : List ByteArray)) := ⟨_, rfl⟩
 replace H : ((spec_l1Cur_pick.f s0_0 s0_1 s0_2 2).bind fun bt532 => (spec_l1Cur_full.l0 k y529 (wrap64 (39 + bt532.1)) 0 s0_0 bt532.2.1 bt532.2.2)) = some (r1, r2, r3) := by first | (rw [hy529]; with_reducible exact H) | (have H2_ := (Option.bind_some _ _).symm.trans H; rw [hy529]; with_reducible exact H2_) | (have H2_ := (Option.bind_some _ _).symm.trans H; with_reducible exact H2_) | with_reducible exact H | (rw [hy529]; exact H) | exact H
 have Ny529 := am hy529; clear hy529; obtain ⟨⟨t532, t533, t534⟩, A2, H⟩ := bs H; have H' := am H; clear H
 go_enter Tryz.func146, Tryz.ntmps146
 go_wp2_with (first | ((with_reducible refine gt 2 ?_); refine bx 2 #[.slice none 0 0] 26 ?_; intro gb528 hg w3 hbox hb; replace HB := am (below_step ax51 hb); have BK528 := am (hbox); have GW528 := am ((ax89 : w.heap.size ≤ gb528)); have GE528 := am ((Nat.le_trans HW0.out (ax89 : w.heap.size ≤ gb528) : w0.heap.size ≤ gb528)); replace HK := am (KeepBut.trans ax50 (KeepBut.of_below hb g none) (.inl rfl)); have NB0_528 := am ((ax90 : g ≠ gb528)); have NB528_0 := am ((ax91 : gb528 ≠ g)); replace HI0 := am (IsS82.below ax48 hb); clear hb hbox hg) | ((with_reducible refine gt 6 ?_); refine Kd.R_lit Kd.string _ 9 ?hg (N := 6) ?hd (xs := ([] : List ByteArray)) (inner := []) (ok := fun _ => True) (okp := fun _ => True) ?hr ?hp (fun _ hk => hk) trivial (Below.refl _ _) (Nat.le_refl _) (by simp) ?_; (case hd => rfl); (case hg => rfl); (case hr => exact ax20); (case hp => exact ax31); intro v530 w4 ho5 hb hg_ hnew_; clear hg_ hnew_; (first | rw [← Ny529.out] at ho5 | (simp only [Int.reduceToNat] at ho5; rw [← Ny529.out] at ho5)); have HO531 := am (Kd.R_lower ho5 (keep_size (w := w) (g := g) (row := none) ax117)); replace BK528 := ub BK528 hb; replace HK := am (KeepBut.trans ax117 (KeepBut.of_below hb g none) (.inl rfl)); replace HB := am (below_step ax118 hb); replace HI0 := am (IsS82.below ax92 hb); clear hb ho5) | ((with_reducible refine gd 8 127 ?_); refine gc 8 Tryz.func127 #[.pointer (some ⟨g, 0, none⟩), .int .i64 2] (spec_l1Cur_pick.calls g s0_0 s0_1 s0_2 2 t532 t533 t534 w0 _ ax92 ax118 A2.out) ?_; rintro e w6 ⟨rfl, hi, hb, hk⟩; refine ⟨_, rfl, ?_⟩; replace BK528 := kB hk BK528 NB528_0; replace HO531 := rK (IsS82.apart (show IsS82 w0 _ g s0_0 s0_1 s0_2 from ax92) (rX HO531) (by decide)) hk; replace HK := am (KeepBut.trans ax117 hk (.inl rfl)); replace HB := am (hb); replace HI0 := am (hi); (try clear hb hk hi)))
 go_loopg [3, 5] k (fun kq v3 v5 w' => ∃ (x3_1 : List ByteArray) (x5_1 : Int), v5 = .int .i64 x5_1 ∧ Aside0 (spec_l1Cur_full.l0 kq x3_1 (wrap64 (39 + t532)) x5_1 s0_0 t533 t534 = some (r1, r2, r3)) ∧ Aside0 (kq ≤ k) ∧ Aside0 (Kd.V Kd.string 9 w' w.heap.size (fun k_ => k_ ≠ gb528 ∧ k_ ≠ g) v3 x3_1) ∧ Aside0 (w'.heap[gb528]? = some (.cells #[(.slice none 0 0)] 26 (0, 0))) ∧ Aside0 (IsS82 w0 w' g s0_0 t533 t534) ∧ Aside0 (KeepBut w w' g none) ∧ Aside0 (Below w0.heap.size w0 w'))
 case atStart => exact ⟨(y529), (0), ax18, H', ⟨Nat.le_refl _⟩, ⟨Kd.R_V (by (with_reducible repeat (first | apply Kd.R_alloc | apply Kd.R_drewN | apply Kd.R_drew)); exact Kd.R_mono (IsS82.apart HI0.out (Kd.R_types HO531.out BK528.out (by decide)) (by decide)) (fun _ hk => ⟨hk.1.2, hk.2⟩))⟩, ⟨aU⟩, ⟨ax92⟩, ⟨ax117⟩, ⟨ax107⟩⟩
 case round =>
  clear H'; obtain ⟨x3_1, x5_1, rfl, HA, HK1, HO_3, BK528, HI0, HK, HB⟩ := hrel
  cases gk with
  | zero => exact absurd HA.out (by simp [spec_l1Cur_full.l0])
  | succ k1 =>
   have H := HA.out; clear HA; simp only [spec_l1Cur_full.l0] at H
   by_cases c7 : x5_1 < (wrap64 (39 + t532))
   ·rw [if_pos c7] at H
    have c7b0 := decide_eq_true c7; clear c7; obtain ⟨y535, hy535⟩ : ∃ y_ : List Int, y_ = (([(wrap64 (97 + (Int.tmod x5_1 26))) % 256, (wrap64 (97 + (wrap64 (Int.tdiv x5_1 26)))) % 256] : List Int)) := ⟨_, rfl⟩
    replace H : ((spec_l2Put.f k1 x3_1 (strOfNums y535)).bind fun t538 => (spec_l1Cur_full.l0 k1 t538 (wrap64 (39 + t532)) (wrap64 (x5_1 + 1)) s0_0 t533 t534)) = some (r1, r2, r3) := by first | (rw [hy535]; with_reducible exact H) | (have H2_ := (Option.bind_some _ _).symm.trans H; rw [hy535]; with_reducible exact H2_) | (have H2_ := (Option.bind_some _ _).symm.trans H; with_reducible exact H2_) | with_reducible exact H | (rw [hy535]; exact H) | exact H
    have Ny535 := am hy535; clear hy535; obtain ⟨t538, A8, H⟩ := bs H; have H' := am H; clear H
    go_wp2_with (first | ((with_reducible refine gt 24 ?_); refine Kd.R_lit (Kd.int .u8) _ 5 ?hg (N := 24) ?hd (xs := ([(wrap64 (97 + (Int.tmod x5_1 26))) % 256, (wrap64 (97 + (wrap64 (Int.tdiv x5_1 26)))) % 256] : List Int)) (inner := [.int .u8 ((wrap64 (97 + (Int.tmod x5_1 26))) % 256), .int .u8 ((wrap64 (97 + (wrap64 (Int.tdiv x5_1 26)))) % 256)]) (ok := fun _ => True) (okp := fun _ => True) ?hr ?hp (fun _ hk => hk) trivial (Below.refl _ _) (Nat.le_refl _) (by simp) ?_; (case hd => rfl); (case hg => rfl); (case hr => exact ax20); (case hp => exact (Reps.one (show Kd.M (Kd.int .u8) _ _ _ ((wrap64 (97 + (Int.tmod x5_1 26))) % 256) [.int .u8 ((wrap64 (97 + (Int.tmod x5_1 26))) % 256)] from rfl) (Reps.one (show Kd.M (Kd.int .u8) _ _ _ ((wrap64 (97 + (wrap64 (Int.tdiv x5_1 26)))) % 256) [.int .u8 ((wrap64 (97 + (wrap64 (Int.tdiv x5_1 26)))) % 256)] from rfl) (Reps.none _ _)))); intro v536 w9 ho10 hb hg_ hnew_; clear hg_ hnew_; (first | rw [← Ny535.out] at ho10 | (simp only [Int.reduceToNat] at ho10; rw [← Ny535.out] at ho10)); replace HO_3 := am (Kd.V_elder' ax80 (Kd.R_base ho10) hb); have HO537 := am (Kd.R_lower ho10 (keep_size (w := w) (g := g) (row := none) ax117)); replace BK528 := ub BK528 hb; replace HK := am (KeepBut.trans ax117 (KeepBut.of_below hb g none) (.inl rfl)); replace HB := am (below_step ax118 hb); replace HI0 := am (IsS82.below ax92 hb); clear hb ho10; have hcv11 := own_string (P := Tryz.prog) Tryz.underlying22 Tryz.underlying5 Tryz.underlying9 (Kd.own_of_R HO537.out); obtain ⟨Ao12, co12, eo12⟩ := Kd.V_slice HO_3.out; subst eo12) | ((with_reducible refine gd 26 149 ?_); refine gc 26 Tryz.func149 #[.slice Ao12 x3_1.length co12, .string (strOfNums y535)] (spec_l2Put.calls k1 (fun k_ => ((k_ ≠ gb528 ∧ k_ ≠ g) ∧ some k_ ≠ (v536 : Value).ownBlock)) _ _ x3_1 (strOfNums y535) t538 _ (HO_3.out) A8.out) ?_; rintro e w13 ⟨v539, rfl, ho0, hb⟩; refine ⟨_, rfl, ?_⟩; replace HO_3 := am (Kd.V_below ax80 hb); have HO540 := am (Kd.V_lower (Kd.V_mono (ok' := fun k_ => some k_ ≠ (v536 : Value).ownBlock ∧ k_ ≠ gb528 ∧ k_ ≠ g) ho0 (fun k_ hk_ => ⟨Or.elim hk_ (fun hs_ => hs_.2) (fun hn_ => (Kd.fresh' (Kd.R_lt (rX HO537)) k_ hn_)), Or.elim hk_ (fun hs_ => hs_.1.1) (fun hn_ => (Kd.freshB (g := gb528) (o := .cells #[.slice none 0 0] 26 (0, 0)) aU k_ hn_)), Or.elim hk_ (fun hs_ => hs_.1.2) (fun hn_ => (IsS82.fresh ax92 k_ hn_))⟩)) (keep_size (w := w) (g := g) (row := none) ax117)); replace HO537 := uR HO537 hb; replace BK528 := ub BK528 hb; replace HK := am (KeepBut.trans ax117 (KeepBut.of_below hb g none) (.inl rfl)); replace HB := am (below_step ax118 hb); replace HI0 := am (IsS82.below ax92 hb); (try clear hb ho0)))
    go_roundg k1
    case measure => have := HK1.out; omega
    case rel => exact ⟨(t538), (wrap64 (x5_1 + 1)), ax18, H', ⟨by have := HK1.out; omega⟩, ⟨(by (with_reducible repeat (first | apply Kd.V_alloc | apply Kd.V_drewN | apply Kd.V_drew)); exact Kd.V_mono HO540.out (fun _ hk => ⟨hk.2.1, hk.2.2⟩))⟩, ⟨aU⟩, ⟨ax92⟩, ⟨ax117⟩, ⟨ax107⟩⟩
   ·rw [if_neg c7] at H
    have c7b0 := decide_eq_false c7; clear c7; obtain ⟨t541, A14, H⟩ := bs H; simp only [Option.some.injEq, Prod.mk.injEq] at H; obtain ⟨rfl, rfl, rfl⟩ := H; obtain ⟨Ao15, co15, eo15⟩ := Kd.V_slice HO_3.out; subst eo15
    go_wp2_with (first | ((with_reducible refine gd 28 123 ?_); refine gc 28 Tryz.func123 #[.slice Ao15 x3_1.length co15] (spec_l2Of.calls k1 _ _ x3_1 t541 _ ax84 ((Kd.V_reads' HO_3.out).2.1) A14.out) ?_; rintro e w16 ⟨v542, rfl, ho0, hb⟩; refine ⟨_, rfl, ?_⟩; replace HO_3 := am (Kd.V_elder' ax80 (Kd.R_base ho0) hb); have HO543 := am (Kd.R_lower ho0 (keep_size (w := w) (g := g) (row := none) ax117)); replace BK528 := ub BK528 hb; replace HK := am (KeepBut.trans ax117 (KeepBut.of_below hb g none) (.inl rfl)); replace HB := am (below_step ax118 hb); replace HI0 := am (IsS82.below ax92 hb); (try clear hb ho0); obtain ⟨Ao17, co17, rfl⟩ := Kd.R_slice HO543.out; obtain ⟨hnb18, hnc18⟩ := nk NB528_0; obtain ⟨hcz19_0, hfz19_0⟩ := bz (.slice none 0 0) BK528))
    refine bodyPost_ret (results_cell_row rfl _ _ gb528 26 #[.slice Ao17 t541.length co17] (0, 0) _ rfl (by (with_reducible repeat (first | refine blk_drewN ?_ _ | refine blk_drew ?_ | refine blk_alloc ?_ _)); refine blk_put (cs := #[.slice none 0 0]) ?_ 0 _ rfl; (with_reducible repeat (first | refine blk_drewN ?_ _ | refine blk_drew ?_ | refine blk_alloc ?_ _)); exact BK528.out) Tryz.underlying26 rfl (by kernel_rfl)) rfl ?_
    exact ⟨_, ax21, aU, ax92, ax107, ax117⟩

/-! ### spec_l1Cur_wordOf: function 109 -/
mutual
def spec_l1Cur_wordOf.j0 : Nat → Int → Bool → List Int → Int → Int → List (S74) → Option (ByteArray × Int × Int)
 | 0, _, _, _, _, _, _ => none
 | k + 1, x5, x20, x1000, x1001, x1002, x545000 => if x20 = true then ((spec_l1Cur_pick.f x1000 x1001 x1002 x5).bind fun bt549 => ((spec_l2Prefix.f k x545000 bt549.1).bind fun t552 => ((spec_l1Cur_one.f x1000 bt549.2.1 bt549.2.2 4).bind fun bt553 => (if bt553.1 = true then (spec_l1Cur_wordOf.j1 k t552 (decide ((t552.size : Int) < 12)) x1000 bt553.2.1 bt553.2.2) else (spec_l1Cur_wordOf.j1 k t552 false x1000 bt553.2.1 bt553.2.2))))) else ((spec_l1Cur_word.f k x1000 x1001 x1002).bind fun bt562 => (some (bt562.1, bt562.2.1, bt562.2.2)))
def spec_l1Cur_wordOf.j1 : Nat → ByteArray → Bool → List Int → Int → Int → Option (ByteArray × Int × Int)
 | 0, _, _, _, _, _ => none
 | k + 1, x6, x32, x1000, x1001, x1002 => if x32 = true then ((spec_l1Cur_of.f x1000 x1001 x1002 (([(⟨#[97]⟩ : ByteArray), (⟨#[98]⟩ : ByteArray), (⟨#[99]⟩ : ByteArray)] : List ByteArray))).bind fun bt559 => (if x6.size + bt559.1.size ≤ 9223372036854775807 then (some (x6 ++ bt559.1, bt559.2.1, bt559.2.2)) else (none))) else (some (x6, x1001, x1002))
end
def spec_l1Cur_wordOf.f (k : Nat) (s0_0 : List Int) (s0_1 : Int) (s0_2 : Int) (l1_0 : List (S74)) : Option (ByteArray × Int × Int) := if (l1_0.length : Int) > 0 then ((spec_l1Cur_one.f s0_0 s0_1 s0_2 3).bind fun bt545 => (if bt545.1 = true then (spec_l1Cur_wordOf.j0 k (l1_0.length : Int) false s0_0 bt545.2.1 bt545.2.2 l1_0) else ((spec_l2Trie.f k l1_0).bind fun t548 => (spec_l1Cur_wordOf.j0 k (l1_0.length : Int) t548 s0_0 bt545.2.1 bt545.2.2 l1_0)))) else (spec_l1Cur_wordOf.j0 k (l1_0.length : Int) false s0_0 s0_1 s0_2 l1_0)
theorem spec_l1Cur_wordOf.calls (k : Nat) (g : Nat) (s0_0 : List Int) (s0_1 : Int) (s0_2 : Int) (A1_0 : Option Addr) (c1_0 : Nat) (l1_0 : List (S74)) (r1 : ByteArray) (r2 : Int) (r3 : Int) (w0 w : World) (hI : IsS82 w0 w g s0_0 s0_1 s0_2) (hB : Below w0.heap.size w0 w) (hr1_0 : ∀ W_, KeepBut w W_ g none → Kd.C k74 W_ A1_0 l1_0.length l1_0) (hc1_0 : l1_0.length ≤ c1_0) (h : spec_l1Cur_wordOf.f k s0_0 s0_1 s0_2 l1_0 = some (r1, r2, r3)) :
  Calls Tryz.prog 109 #[.pointer (some ⟨g, 0, none⟩), .agg #[.slice A1_0 l1_0.length c1_0]] w fun e w' => e = .returned (.string r1) ∧ IsS82 w0 w' g s0_0 r2 r3 ∧ Below w0.heap.size w0 w' ∧ KeepBut w w' g none := by
 have hu26 := Tryz.underlying26; have HR1_0 := am hr1_0; have HC1_0 := am hc1_0; clear hr1_0 hc1_0; have HI0 := am hI; have HK := am (KeepBut.refl w g none); have HL := am hB.size; clear hI; have HW0 := am hB.size; have HB := am hB; clear hB
 unfold spec_l1Cur_wordOf.f at h
 have H := h; clear h; have HC3 := am H; clear H
 go_enter Tryz.func109, Tryz.ntmps109
 go_upto_region 2 with (first | ((with_reducible refine gt 3 ?_); (try (refine gate_guard (by rfl) ?_; dsimp only)); refine bx 3 #[.slice A1_0 l1_0.length c1_0] 26 ?_; intro gb544 hg w4 hbox hb; replace HB := am (below_step ax51 hb); have BK544 := am (hbox); have GW544 := am ((ax89 : w.heap.size ≤ gb544)); have GE544 := am ((Nat.le_trans HW0.out (ax89 : w.heap.size ≤ gb544) : w0.heap.size ≤ gb544)); replace HK := am (KeepBut.trans ax50 (KeepBut.of_below hb g none) (.inl rfl)); have NB0_544 := am ((ax90 : g ≠ gb544)); have NB544_0 := am ((ax91 : gb544 ≠ g)); replace HI0 := am (IsS82.below ax48 hb); clear hb hbox hg; obtain ⟨hnb5, hnc5⟩ := nk NB544_0; obtain ⟨hcz6_0, hfz6_0⟩ := bz (.slice A1_0 l1_0.length c1_0) BK544))
 (try simp only [Act.put, List.setIfInBounds_toArray, List.set_cons_zero, List.set_cons_succ])
 go_cut [20] (fun v20 wc => ∃ (kq : Nat) (x20_2 : Bool) (x1001_2 : Int) (x1002_2 : Int), v20 = .bool x20_2 ∧ Aside0 (spec_l1Cur_wordOf.j0 kq (l1_0.length : Int) x20_2 s0_0 x1001_2 x1002_2 l1_0 = some (r1, r2, r3)) ∧ Aside0 (kq ≤ k) ∧ Aside0 (wc.heap[gb544]? = some (.cells #[(.slice A1_0 l1_0.length c1_0)] 26 (0, 0))) ∧ Aside0 (IsS82 w0 wc g s0_0 x1001_2 x1002_2) ∧ Aside0 (KeepBut w wc g none) ∧ Aside0 (Below w0.heap.size w0 wc))
 case first =>
  have H := HC3.out; clear HC3
  by_cases c7 : (l1_0.length : Int) > 0
  ·rw [if_pos c7] at H
   have c7b0 := decide_eq_true c7; have c7b1 : decide (0 < l1_0.length) = true := decide_eq_true (by omega); clear c7; (first | rw [c7b0] | (simp only [i64_w, i32_w]; rw [c7b0]) | skip); obtain ⟨⟨t545, t546, t547⟩, A8, H⟩ := bs H
   by_cases c9 : t545 = true
   ·subst c9
    rw [if_pos rfl] at H; have H' := am H; clear H
    go_wp2_with (first | (go_at_call 122; (with_reducible refine (spec_l1Cur_one.calls g s0_0 s0_1 s0_2 3 true t546 t547 w0 _ ?side1 ?side2 A8.out).mono ?_); (case side1 => exact ax92); (case side2 => exact ax119); rintro e w10 ⟨rfl, hi, hb, hk⟩; replace BK544 := kB hk BK544 NB544_0; replace HK := am (KeepBut.trans ax120 hk (.inl rfl)); replace HB := am (hb); replace HI0 := am (hi); (try clear hb hk hi)))
    go_meet
    case rel => exact ⟨_, (false), (t546), (t547), ax18, H', ⟨by first | omega | exact Nat.le_refl _⟩, ⟨aU⟩, ⟨ax92⟩, ⟨ax120⟩, ⟨ax107⟩⟩
   ·replace c9 := Bool.eq_false_iff.mpr c9
    subst c9; rw [if_neg (show ¬ (false = true) by decide)] at H; obtain ⟨t548, A11, H⟩ := bs H; have H' := am H; clear H
    go_wp2_with (first | (go_at_call 122; (with_reducible refine (spec_l1Cur_one.calls g s0_0 s0_1 s0_2 3 false t546 t547 w0 _ ?side1 ?side2 A8.out).mono ?_); (case side1 => exact ax92); (case side2 => exact ax119); rintro e w12 ⟨rfl, hi, hb, hk⟩; replace BK544 := kB hk BK544 NB544_0; replace HK := am (KeepBut.trans ax120 hk (.inl rfl)); replace HB := am (hb); replace HI0 := am (hi); (try clear hb hk hi); obtain ⟨hnb13, hnc13⟩ := nk NB544_0; obtain ⟨hcz14_0, hfz14_0⟩ := bz (.slice A1_0 l1_0.length c1_0) BK544) | (go_at_call 113; (with_reducible refine (spec_l2Trie.calls k _ _ l1_0 t548 _ ?side1 ?side2 A11.out).mono ?_); (case side1 => exact ax121); (case side2 => exact HC1_0.out); rintro e w15 ⟨rfl, hb⟩; replace BK544 := ub BK544 hb; replace HK := am (KeepBut.trans ax120 (KeepBut.of_below hb g none) (.inl rfl)); replace HB := am (below_step ax119 hb); replace HI0 := am (IsS82.below ax92 hb); (try clear hb)))
    go_meet
    case rel => exact ⟨_, (t548), (t546), (t547), ax18, H', ⟨by first | omega | exact Nat.le_refl _⟩, ⟨aU⟩, ⟨ax92⟩, ⟨ax120⟩, ⟨ax107⟩⟩
  ·rw [if_neg c7] at H
   have c7b0 := decide_eq_false c7; have c7b1 : decide (0 < l1_0.length) = false := decide_eq_false (by omega); clear c7; (first | rw [c7b0] | (simp only [i64_w, i32_w]; rw [c7b0]) | skip); have H' := am H; clear H
   go_wp2
   go_meet
   case rel => exact ⟨_, (false), (s0_1), (s0_2), ax18, H', ⟨by first | omega | exact Nat.le_refl _⟩, ⟨aU⟩, ⟨ax92⟩, ⟨ax120⟩, ⟨ax107⟩⟩
 case rest =>
  clear HC3; (try clear hcz6_0);(try clear hfz6_0); obtain ⟨kq, x20_2, x1001_2, x1002_2, rfl, HA, HJ2, BK544, HI0, HK, HB⟩ := hcut
  cases kq with
  | zero => exact absurd HA.out (by simp [spec_l1Cur_wordOf.j0])
  | succ kj2 =>
   have H := HA.out; clear HA; simp only [spec_l1Cur_wordOf.j0] at H
   by_cases c16 : x20_2 = true
   ·subst c16
    rw [if_pos rfl] at H; obtain ⟨⟨t549, t550, t551⟩, A17, H⟩ := bs H; obtain ⟨t552, A18, H⟩ := bs H; have HC19 := am H; clear H
    try go_wp2
    replace BK544 := am (blk_drew BK544.out); replace HI0 := am (IsS82.drew HI0.out); replace HK := am (keep_drew HK.out); replace HB := am (below_drew1 HB.out); refine start_ (n := 6) (S := fun w' => w'.cell? ⟨gb544, 0, none⟩ = some (.slice A1_0 l1_0.length c1_0)) (ds := []) (ob 6 0) (by kernel_rfl) rfl rfl ((blk_cell BK544.out 0).trans rfl) (fun hHeld => ?_); generalize wc.drew = w20 at BK544 HI0 HK HB hHeld ⊢; refine pure_ (i := 1) (N := some 22) (v := ?_) (a' := ?_) (ob 6 2) rfl rfl (by kernel_rfl) (fun _ _ _ h => h) (Or.inl ⟨by rfl, ?_⟩) ?_ ?_
    rotate_left
    ·intro w'
     go_simp
     with_reducible rfl
    rotate_left
    ·exact ax11
    refine pure_ (i := 2) (N := some 23) (v := ?_) (a' := ?_) (ob 6 6) rfl rfl (by kernel_rfl) (fun _ _ _ h => h) (Or.inl ⟨by rfl, ?_⟩) ?_ ?_
    rotate_left
    ·intro w'
     go_simp
     with_reducible rfl
    rotate_left
    ·exact ax11
    refine take_ (i := 0) (N := some 21) (v := ?_) (a' := ?_) (ob 6 7) rfl rfl (by kernel_rfl) (fun _ _ _ h => h) (Or.inl ⟨by rfl, ?_⟩) hHeld ?_ ?_; rotate_left; exact ax10; rotate_left; exact ax11
    refine one_ (i := 3) (N := some 24) (ob 6 15) rfl rfl (by kernel_rfl) (by decide) (fun K hK => ?_); refine goes_ Tryz.func127 (by kernel_rfl) rfl #[.pointer (some ⟨g, 0, none⟩), .int .i64 (l1_0.length : Int)] (by rfl) rfl rfl ax26 ?_
    with_reducible refine (spec_l1Cur_pick.calls g s0_0 x1001_2 x1002_2 (l1_0.length : Int) t549 t550 t551 w0 _ ?side1 ?side2 A17.out).mono ?_
    (case side1 => exact ax92)
    (case side2 => exact ax119)
    rintro e w21 ⟨rfl, hi, hb, hk⟩; refine ⟨_, rfl, ?_⟩; replace BK544 := kB hk BK544 NB544_0; replace HK := am (KeepBut.trans ax120 hk (.inl rfl)); replace HB := am (hb); replace HI0 := am (hi); (try clear hb); (try clear hb2); (try clear hk); (try clear hi); refine hK.out _ _ ((blk_cell BK544.out 0).trans rfl) (fun hHeld => ?_); clear hK K; refine nm 24 ?_; refine one_ (i := 4) (N := some 25) (ob 6 31) rfl rfl (by kernel_rfl) (by decide) (fun K hK => ?_); refine goes_ Tryz.func165 (by kernel_rfl) rfl #[.agg #[.slice A1_0 l1_0.length c1_0], .int .i64 t549] (by rfl) rfl rfl ax26 ?_
    with_reducible refine (spec_l2Prefix.calls kj2 _ _ l1_0 t549 t552 _ ?side1 ?side2 A18.out).mono ?_
    (case side1 => exact ax121)
    (case side2 => exact HC1_0.out)
    rintro e w22 ⟨rfl, hb⟩; refine ⟨_, rfl, ?_⟩; replace BK544 := ub BK544 hb; replace HK := am (KeepBut.trans ax120 (KeepBut.of_below hb g none) (.inl rfl)); replace HB := am (below_step ax119 hb); replace HI0 := am (IsS82.below ax92 hb); (try clear hb); (try clear hb2); (try clear hk); (try clear hi); refine hK.out _ _ ((blk_cell BK544.out 0).trans rfl) (fun hHeld => ?_); clear hK K; refine nm 25 ?_; refine pure_ (i := 5) (N := some 6) (v := ?_) (a' := ?_) (ob 6 63) rfl rfl (by kernel_rfl) (fun _ _ _ h => h) (Or.inl ⟨by rfl, ?_⟩) ?_ ?_
    rotate_left
    ·intro w'
     go_simp
     with_reducible rfl
    rotate_left
    ·exact ax11
    refine done_ (by kernel_rfl) ?_
    go_upto_region 4 with (fail)
    go_cut [32] (fun v32 wc => ∃ (kq : Nat) (x32_18 : Bool) (x1001_18 : Int) (x1002_18 : Int), v32 = .bool x32_18 ∧ Aside0 (spec_l1Cur_wordOf.j1 kq t552 x32_18 s0_0 x1001_18 x1002_18 = some (r1, r2, r3)) ∧ Aside0 (kq ≤ kj2) ∧ Aside0 (wc.heap[gb544]? = some (.cells #[(.slice A1_0 l1_0.length c1_0)] 26 (0, 0))) ∧ Aside0 (IsS82 w0 wc g s0_0 x1001_18 x1002_18) ∧ Aside0 (KeepBut w wc g none) ∧ Aside0 (Below w0.heap.size w0 wc))
    case first =>
     have H := HC19.out; clear HC19; obtain ⟨⟨t553, t554, t555⟩, A23, H⟩ := bs H
     by_cases c24 : t553 = true
     ·subst c24
      rw [if_pos rfl] at H; have H' := am H; clear H
      go_wp2_with (first | ((with_reducible refine gd 27 122 ?_); refine gc 27 Tryz.func122 #[.pointer (some ⟨g, 0, none⟩), .int .i64 4] (spec_l1Cur_one.calls g s0_0 t550 t551 4 true t554 t555 w0 _ ax92 ax119 A23.out) ?_; rintro e w25 ⟨rfl, hi, hb, hk⟩; refine ⟨_, rfl, ?_⟩; replace BK544 := kB hk BK544 NB544_0; replace HK := am (KeepBut.trans ax120 hk (.inl rfl)); replace HB := am (hb); replace HI0 := am (hi); (try clear hb hk hi)))
      go_meet
      case rel => exact ⟨_, (decide ((t552.size : Int) < 12)), (t554), (t555), ax18, H', ⟨ax122⟩, ⟨aU⟩, ⟨ax92⟩, ⟨ax120⟩, ⟨ax107⟩⟩
     ·replace c24 := Bool.eq_false_iff.mpr c24
      subst c24; rw [if_neg (show ¬ (false = true) by decide)] at H; have H' := am H; clear H
      go_wp2_with (first | ((with_reducible refine gd 27 122 ?_); refine gc 27 Tryz.func122 #[.pointer (some ⟨g, 0, none⟩), .int .i64 4] (spec_l1Cur_one.calls g s0_0 t550 t551 4 false t554 t555 w0 _ ax92 ax119 A23.out) ?_; rintro e w26 ⟨rfl, hi, hb, hk⟩; refine ⟨_, rfl, ?_⟩; replace BK544 := kB hk BK544 NB544_0; replace HK := am (KeepBut.trans ax120 hk (.inl rfl)); replace HB := am (hb); replace HI0 := am (hi); (try clear hb hk hi)))
      go_meet
      case rel => exact ⟨_, (false), (t554), (t555), ax18, H', ⟨ax122⟩, ⟨aU⟩, ⟨ax92⟩, ⟨ax120⟩, ⟨ax107⟩⟩
    case rest =>
     clear HC19; (try clear c16); obtain ⟨kq, x32_18, x1001_18, x1002_18, rfl, HA, HJ18, BK544, HI0, HK, HB⟩ := hcut
     cases kq with
     | zero => exact absurd HA.out (by simp [spec_l1Cur_wordOf.j1])
     | succ kj18 =>
      have H := HA.out; clear HA; simp only [spec_l1Cur_wordOf.j1] at H
      by_cases c27 : x32_18 = true
      ·subst c27
       rw [if_pos rfl] at H; obtain ⟨y556, hy556⟩ : ∃ y_ : List ByteArray, y_ = (([(⟨#[97]⟩ : ByteArray), (⟨#[98]⟩ : ByteArray), (⟨#[99]⟩ : ByteArray)] : List ByteArray)) := ⟨_, rfl⟩
       replace H : ((spec_l1Cur_of.f s0_0 x1001_18 x1002_18 y556).bind fun bt559 => (if t552.size + bt559.1.size ≤ 9223372036854775807 then (some (t552 ++ bt559.1, bt559.2.1, bt559.2.2)) else (none))) = some (r1, r2, r3) := by first | (rw [hy556]; with_reducible exact H) | (have H2_ := (Option.bind_some _ _).symm.trans H; rw [hy556]; with_reducible exact H2_) | (have H2_ := (Option.bind_some _ _).symm.trans H; with_reducible exact H2_) | with_reducible exact H | (rw [hy556]; exact H) | exact H
       have Ny556 := am hy556; clear hy556; obtain ⟨⟨t559, t560, t561⟩, A28, H⟩ := bs H
       by_cases c29 : t552.size + t559.size ≤ 9223372036854775807
       ·rw [if_pos c29] at H
        have c29b0 := eq_true c29; have c29b1 := decide_eq_true c29
        try have c29b2 : (9223372036854775807 < t552.size + t559.size) = False := eq_false (Nat.not_lt.2 c29)
        clear c29; obtain ⟨js30, hjs30⟩ : ∃ j_ : ByteArray, (t552 ++ t559) = j_ := ⟨_, rfl⟩; (first | rw [hjs30] at H | simp only [hjs30] at H); simp only [Option.some.injEq, Prod.mk.injEq] at H; obtain ⟨rfl, rfl, rfl⟩ := H
        go_wp2_with (first | ((with_reducible refine gt 35 ?_); (try (refine gate_guard (by rfl) ?_; dsimp only)); refine Kd.R_lit Kd.string _ 9 ?hg (N := 35) ?hd (xs := ([(⟨#[97]⟩ : ByteArray), (⟨#[98]⟩ : ByteArray), (⟨#[99]⟩ : ByteArray)] : List ByteArray)) (inner := [.string (⟨#[97]⟩ : ByteArray), .string (⟨#[98]⟩ : ByteArray), .string (⟨#[99]⟩ : ByteArray)]) (ok := fun _ => True) (okp := fun _ => True) ?hr ?hp (fun _ hk => hk) trivial (Below.refl _ _) (Nat.le_refl _) (by simp) ?_; (case hd => rfl); (case hg => rfl); (case hr => exact ax20); (case hp => exact ax54); intro v557 w31 ho32 hb hg_ hnew_; clear hg_ hnew_; (first | rw [← Ny556.out] at ho32 | (simp only [Int.reduceToNat] at ho32; rw [← Ny556.out] at ho32)); have HO558 := am (Kd.R_lower ho32 (keep_size (w := w) (g := g) (row := none) ax50)); replace HK := am (KeepBut.trans ax50 (KeepBut.of_below hb g none) (.inl rfl)); replace HB := am (below_step ax51 hb); replace HI0 := am (IsS82.below ax48 hb); clear hb ho32; obtain ⟨Ao33, co33, rfl⟩ := Kd.R_slice HO558.out) | ((with_reducible refine gd 36 121 ?_); refine gc 36 Tryz.func121 #[.pointer (some ⟨g, 0, none⟩), .slice Ao33 y556.length co33] (spec_l1Cur_of.calls g s0_0 x1001_18 x1002_18 _ _ y556 t559 t560 t561 w0 _ ax48 ax51 (rd2 HO558) (rl HO558) (far_slice (IsS82.own_ne HI0.out HO558.out (by decide))) A28.out) ?_; rintro e w34 ⟨rfl, hi, hb, hk⟩; refine ⟨_, rfl, ?_⟩; replace HO558 := rK (IsS82.apart (show IsS82 w0 _ g s0_0 x1001_18 x1002_18 from ax48) (rX HO558) (by decide)) hk; replace HK := am (KeepBut.trans ax50 hk (.inl rfl)); replace HB := am (hb); replace HI0 := am (hi); (try clear hb hk hi)))
        go_ret
        exact ⟨(by first | rfl | (simp [errW_none, errW_some] <;> rfl) | (simp only [← hjs30]; first | rfl | (simp [errW_none, errW_some] <;> rfl)) | (simp [*, errW_none, errW_some] <;> rfl)), ax48, ax49, ax50⟩
       ·exact ax8
      ·replace c27 := Bool.eq_false_iff.mpr c27
       subst c27; rw [if_neg (show ¬ (false = true) by decide)] at H; simp only [Option.some.injEq, Prod.mk.injEq] at H; obtain ⟨rfl, rfl, rfl⟩ := H
       go_wp2
       go_ret
       exact ⟨ax21, ax92, ax107, ax120⟩
   ·replace c16 := Bool.eq_false_iff.mpr c16
    subst c16; rw [if_neg (show ¬ (false = true) by decide)] at H; obtain ⟨⟨t562, t563, t564⟩, A35, H⟩ := bs H; simp only [Option.some.injEq, Prod.mk.injEq] at H; obtain ⟨rfl, rfl, rfl⟩ := H
    go_wp2_with (first | ((with_reducible refine gd 40 147 ?_); refine gc 40 Tryz.func147 #[.pointer (some ⟨g, 0, none⟩)] (spec_l1Cur_word.calls kj2 g s0_0 x1001_2 x1002_2 t562 t563 t564 w0 _ ax48 ax51 A35.out) ?_; rintro e w36 ⟨rfl, hi, hb, hk⟩; refine ⟨_, rfl, ?_⟩; replace HK := am (KeepBut.trans ax50 hk (.inl rfl)); replace HB := am (hb); replace HI0 := am (hi); (try clear hb hk hi)))
    go_ret
    exact ⟨ax21, ax48, ax49, ax50⟩

end Go.Proofs.YtcplbbflfgckbaaGreatDoor.X
namespace Go.Proofs.YtcplbbflfgckbaaGreatDoor.X
open Go.RowKit Go.Proofs.YtcplbbflfgckbaaGreatDoorW.PrintWords Go.Proofs.YtcplbbflfgckbaaGreatDoorW.PrintLast Go.Proofs.YtcplbbflfgckbaaGreatDoorW.PrintMore
attribute [local go_sem] max2_int min2_int max_two min_two max_three min_three max_four min_four   -- for this text's walks alone
set_option linter.unusedVariables false
set_option linter.unusedSimpArgs false
set_option maxHeartbeats 8000000
set_option maxRecDepth 100000

/-! ### spec_CountWords: function 63 -/
def spec_CountWords.f (k : Nat) (l0_0 : List (S74)) : Option (Int × Bool) := (spec_l2Trie.f k l0_0).bind fun t673 => (if t673 = true then ((spec_l2Words.f k l0_0).bind fun t674 => (some ((t674.length : Int), true))) else (some (0, false)))
theorem spec_CountWords.calls (k : Nat) (A0_0 : Option Addr) (c0_0 : Nat) (l0_0 : List (S74)) (r1 : Int) (r2 : Bool) (w : World) (hr0_0 : Kd.C k74 w A0_0 l0_0.length l0_0) (hc0_0 : l0_0.length ≤ c0_0) (h : spec_CountWords.f k l0_0 = some (r1, r2)) :
  Calls Tryz.prog 63 #[.agg #[.slice A0_0 l0_0.length c0_0]] w fun e w' => e = .returned (.tuple #[.int .i64 r1, .bool r2]) ∧ Below w.heap.size w w' := by
 have hu26 := Tryz.underlying26; have HR0_0 := am hr0_0; have HC0_0 := am hc0_0; clear hr0_0 hc0_0; have HB := am (Below.refl w.heap.size w)
 unfold spec_CountWords.f at h
 have H := h; clear h; obtain ⟨t673, A2, H⟩ := bs H
 by_cases c3 : t673 = true
 ·subst c3
  rw [if_pos rfl] at H; obtain ⟨t674, A4, H⟩ := bs H; simp only [Option.some.injEq, Prod.mk.injEq] at H; obtain ⟨rfl, rfl⟩ := H
  go_enter Tryz.func63, Tryz.ntmps63
  go_wp2_with (first | ((with_reducible refine gt 1 ?_); refine bx 1 #[.slice A0_0 l0_0.length c0_0] 26 ?_; intro gb672 hg w5 hbox hb; have BK672 := am (hbox); have GW672 := uG hg HB; have GE672 := uG hg HB; replace HB := uB HB hb; clear hb hbox hg; obtain ⟨hcz6_0, hfz6_0⟩ := bz (.slice A0_0 l0_0.length c0_0) BK672) | ((with_reducible refine gd 5 113 ?_); refine gc 5 Tryz.func113 #[.agg #[.slice A0_0 l0_0.length c0_0]] (spec_l2Trie.calls k _ _ l0_0 true _ ax30 (HC0_0.out) A2.out) ?_; rintro e w7 ⟨rfl, hb⟩; refine ⟨_, rfl, ?_⟩; replace BK672 := ub BK672 hb; replace HB := uS HB hb; (try clear hb); obtain ⟨hcz8_0, hfz8_0⟩ := bz (.slice A0_0 l0_0.length c0_0) BK672) | ((with_reducible refine gd 8 115 ?_); refine gc 8 Tryz.func115 #[.agg #[.slice A0_0 l0_0.length c0_0]] (spec_l2Words.calls k _ _ l0_0 t674 _ ax30 (HC0_0.out) A4.out) ?_; rintro e w9 ⟨v675, rfl, ho0, hb⟩; refine ⟨_, rfl, ?_⟩; have HO676 := uL ho0 HB; replace HB := uB HB hb; (try clear hb ho0); obtain ⟨Ao10, co10, rfl⟩ := Kd.R_slice HO676.out))
  go_ret2
  exact ⟨ax21, aL⟩
 ·replace c3 := Bool.eq_false_iff.mpr c3
  subst c3; rw [if_neg (show ¬ (false = true) by decide)] at H; simp only [Option.some.injEq, Prod.mk.injEq] at H; obtain ⟨rfl, rfl⟩ := H
  go_enter Tryz.func63, Tryz.ntmps63
  go_wp2_with (first | ((with_reducible refine gt 1 ?_); refine bx 1 #[.slice A0_0 l0_0.length c0_0] 26 ?_; intro gb672 hg w11 hbox hb; have BK672 := am (hbox); have GW672 := uG hg HB; have GE672 := uG hg HB; replace HB := uB HB hb; clear hb hbox hg; obtain ⟨hcz12_0, hfz12_0⟩ := bz (.slice A0_0 l0_0.length c0_0) BK672) | ((with_reducible refine gd 5 113 ?_); refine gc 5 Tryz.func113 #[.agg #[.slice A0_0 l0_0.length c0_0]] (spec_l2Trie.calls k _ _ l0_0 false _ ax30 (HC0_0.out) A2.out) ?_; rintro e w13 ⟨rfl, hb⟩; refine ⟨_, rfl, ?_⟩; replace HB := uB HB hb; (try clear hb)))
  go_ret2
  exact ⟨ax21, aL⟩

/-! ### impl_Trie_kids: function 161 -/
def impl_Trie_kids.l0 : Nat → Int → List Int → List (S74) → Int → Int → Option (List Int)
 | 0, _, _, _, _, _ => none
 | k + 1, x1, x5, x10, x11, x12 => if x12 < x11 then (if 0 ≤ x12 then (if x12 < (x10.length : Int) then (if ((rd_T74 x10 x12).f1) = x1 then (if x5.length < 17592186044416 then (impl_Trie_kids.l0 k x1 (x5 ++ [x12]) x10 x11 (wrap64 (x12 + 1))) else (none)) else (impl_Trie_kids.l0 k x1 x5 x10 x11 (wrap64 (x12 + 1)))) else (none)) else (none)) else (some x5)
def impl_Trie_kids.f (k : Nat) (l0_0 : List (S74)) (a1 : Int) : Option (List Int) := impl_Trie_kids.l0 k a1 (([] : List Int)) l0_0 (l0_0.length : Int) 0
theorem impl_Trie_kids.calls (k : Nat) (A0_0 : Option Addr) (c0_0 : Nat) (l0_0 : List (S74)) (a1 : Int) (r : List Int) (w : World) (hr0_0 : Kd.C k74 w A0_0 l0_0.length l0_0) (hc0_0 : l0_0.length ≤ c0_0) (h : impl_Trie_kids.f k l0_0 a1 = some r) :
  Calls Tryz.prog 161 #[.agg #[.slice A0_0 l0_0.length c0_0], .int .i64 a1] w fun e w' => ∃ v0_ : Value, e = .returned (v0_) ∧ Kd.R (Kd.int .i64) 3 w' w.heap.size (fun _ => True) v0_ r ∧ Below w.heap.size w w' := by
 have hu26 := Tryz.underlying26; have hu74 := Tryz.underlying74; have HR0_0 := am hr0_0; have HC0_0 := am hc0_0; clear hr0_0 hc0_0; have HB := am (Below.refl w.heap.size w)
 unfold impl_Trie_kids.f at h
 have H := h; clear h; obtain ⟨y678, hy678⟩ : ∃ y_ : List Int, y_ = (([] : List Int)) := ⟨_, rfl⟩
 replace H : (impl_Trie_kids.l0 k a1 y678 l0_0 (l0_0.length : Int) 0) = some r := by first | (rw [hy678]; with_reducible exact H) | (have H2_ := (Option.bind_some _ _).symm.trans H; rw [hy678]; with_reducible exact H2_) | (have H2_ := (Option.bind_some _ _).symm.trans H; with_reducible exact H2_) | with_reducible exact H | (rw [hy678]; exact H) | exact H
 have Ny678 := am hy678; clear hy678; have H' := am H; clear H
 go_enter Tryz.func161, Tryz.ntmps161
 go_wp2_with (first | ((with_reducible refine gt 2 ?_); refine bx 2 #[.slice A0_0 l0_0.length c0_0] 26 ?_; intro gb677 hg w3 hbox hb; have BK677 := am (hbox); have GW677 := uG hg HB; have GE677 := uG hg HB; replace HB := uB HB hb; clear hb hbox hg) | ((with_reducible refine gt 8 ?_); refine Kd.R_lit (Kd.int .i64) _ 3 ?hg (N := 8) ?hd (xs := ([] : List Int)) (inner := []) (ok := fun _ => True) (okp := fun _ => True) ?hr ?hp (fun _ hk => hk) trivial (Below.refl _ _) (Nat.le_refl _) (by simp) ?_; (case hd => rfl); (case hg => rfl); (case hr => exact ax20); (case hp => exact ax31); intro v679 w4 ho5 hb hg_ hnew_; clear hg_ hnew_; (first | rw [← Ny678.out] at ho5 | (simp only [Int.reduceToNat] at ho5; rw [← Ny678.out] at ho5)); have HO680 := am (Kd.R_lower ho5 (bS HB)); replace BK677 := ub BK677 hb; replace HB := uS HB hb; clear hb ho5; obtain ⟨hcz6_0, hfz6_0⟩ := bz (.slice A0_0 l0_0.length c0_0) BK677))
 go_loopg [5, 12] k (fun kq v5 v12 w' => ∃ (x5_1 : List Int) (x12_1 : Int), v12 = .int .i64 x12_1 ∧ Aside0 (impl_Trie_kids.l0 kq a1 x5_1 l0_0 (l0_0.length : Int) x12_1 = some r) ∧ Aside0 (kq ≤ k) ∧ Aside0 (Kd.R (Kd.int .i64) 3 w' w.heap.size (fun _ => True) v5 x5_1) ∧ Aside0 (w'.heap[gb677]? = some (.cells #[(.slice A0_0 l0_0.length c0_0)] 26 (0, 0))) ∧ Aside0 (Below w.heap.size w w'))
 case atStart => exact ⟨(y678), (0), ax18, H', ⟨Nat.le_refl _⟩, ⟨aU⟩, ⟨aU⟩, ⟨aL⟩⟩
 case round =>
  clear H'; (try clear hcz6_0);(try clear hfz6_0); obtain ⟨x5_1, x12_1, rfl, HA, HK1, HO_5, BK677, HB⟩ := hrel
  cases gk with
  | zero => exact absurd HA.out (by simp [impl_Trie_kids.l0])
  | succ k1 =>
   have H := HA.out; clear HA; simp only [impl_Trie_kids.l0] at H
   by_cases c7 : x12_1 < (l0_0.length : Int)
   ·rw [if_pos c7] at H
    have c7b0 := decide_eq_true c7; clear c7
    by_cases c8 : 0 ≤ x12_1
    ·rw [if_pos c8] at H
     have c8b0 := decide_eq_true c8; clear c8
     by_cases c9 : x12_1 < (l0_0.length : Int)
     ·rw [if_pos c9] at H
      have c9b0 := decide_eq_true c9; clear c9
      by_cases c10 : ((rd_T74 l0_0 x12_1).f1) = a1
      ·rw [if_pos c10] at H
       have c10b0 := beq_iff_eq.mpr c10; have c10b1 := bne_eq_false_iff_eq.mpr c10; clear c10
       by_cases c11 : x5_1.length < 17592186044416
       ·rw [if_pos c11] at H
        have LMc11 := am c11; clear c11; obtain ⟨y683, hy683⟩ : ∃ y_ : List Int, y_ = (x5_1 ++ [x12_1]) := ⟨_, rfl⟩
        replace H : (impl_Trie_kids.l0 k1 a1 y683 l0_0 (l0_0.length : Int) (wrap64 (x12_1 + 1))) = some r := by first | (rw [hy683]; with_reducible exact H) | (have H2_ := (Option.bind_some _ _).symm.trans H; rw [hy683]; with_reducible exact H2_) | (have H2_ := (Option.bind_some _ _).symm.trans H; with_reducible exact H2_) | with_reducible exact H | (rw [hy683]; exact H) | exact H
        have Ny683 := am hy683; clear hy683; have H' := am H; clear H; have p681 : 0 ≤ (x12_1 : Int) := of_decide_eq_true ax23; have q681 : x12_1 < (l0_0.length : Int) := of_decide_eq_true ax23; obtain ⟨ad681, e681, hx681_0, hx681_1, hx681_2⟩ := at_T74 HR0_0.out x12_1 p681 q681
        cases e681
        replace hx681_0 := uC HB hx681_0; replace hx681_1 := uC HB hx681_1; replace hx681_2 := uC HB hx681_2; replace p681 := eq_true p681; replace q681 := eq_true q681
        go_wp2_with (first | ((with_reducible refine gt 7 ?_); refine bx 7 #[.int .i64 0, .int .i64 0, .bool false] 74 ?_; intro gb682 hg w12 hbox hb; replace HO_5 := uR HO_5 hb; have BK682 := am (hbox); have GW682 := uH hg HB; have GE682 := uH hg HB; replace HB := uS HB hb; obtain ⟨NB677_682, NB682_677, BK677⟩ := uA hg hb BK677; clear hb hbox hg; obtain ⟨hnb13, hnc13⟩ := nk NB682_677; have hcz14_0 := bc (.int .i64 0) BK682 0; have hcz14_1 := bc (.int .i64 0) BK682 1; have hcz14_2 := bc (.bool false) BK682 2; have hfz14_0 := blk_frozen BK682.out 0; have hfz14_1 := blk_frozen BK682.out 1; have hfz14_2 := blk_frozen BK682.out 2) | ((with_reducible refine gate_builtin (b := .append) (xs := #[.tmp 21, .tmp 23]) rfl ?_); at_builtin; refine Kd.R_append (Kd.int .i64) (w0 := w) w.heap.size rfl (.tmp 21) (.tmp 23) 42 3 (.int .i64 0) 8 rfl Tryz.underlying42 info3 rfl (by decide) (by omega) u5 x5_1 x12_1 [.int .i64 x12_1] (fun _ => True) (fun _ => False) rfl ax20 ?aP (fun _ hk => hk.elim) ?aF ?aO ?aB ?aS ?aL ?_; (case aP => exact rfl); (case aB => exact aL); (case aF => exact ax27); (case aO => exact (by (with_reducible repeat (first | apply Kd.R_alloc | apply Kd.R_drewN | apply Kd.R_drew)); exact Kd.R_mono (Kd.R_far (p := ⟨gb682, 2, none⟩) (Kd.R_far (p := ⟨gb682, 1, none⟩) (Kd.R_far (p := ⟨gb682, 0, none⟩) (Kd.R_types HO_5.out BK682.out (by decide)) (fun _ hk => hk.2) (.int .i64 ((rd_T74 l0_0 x12_1).f0))) (fun _ hk => hk.2) (.int .i64 ((rd_T74 l0_0 x12_1).f1))) (fun _ hk => hk.2) (.bool ((rd_T74 l0_0 x12_1).f2))) (fun _ hk => trivial))); (case aS => exact ax28); (case aL => have := LMc11.out; omega); intro v684 w15 ho hb hg hat; rw [← Ny683.out] at ho; have n0_ := am (blk_grown (g := gb677) (o := .cells #[.slice (some ad681) l0_0.length c0_0] 26 (0, 0)) aU hg (Kd.R_ne HO_5.out BK677.out (by decide))); have n1_ := am (blk_grown (g := gb682) (o := .cells #[.int .i64 ((rd_T74 l0_0 x12_1).f0), .int .i64 ((rd_T74 l0_0 x12_1).f1), .bool ((rd_T74 l0_0 x12_1).f2)] 74 (0, 0)) aU hg (Kd.R_ne HO_5.out BK682.out (by decide))); have n2_ := am (hb); have n3_ := am (ho); clear BK677; clear BK682; clear HB; clear HO_5; have BK677 := n0_; have BK682 := n1_; have HB := n2_; have HO685 := n3_; clear n0_ n1_ n2_ n3_; clear ho hb hg hat))
        go_roundg k1
        case measure => have := HK1.out; omega
        case rel => exact ⟨(y683), (wrap64 (x12_1 + 1)), ax18, H', ⟨by have := HK1.out; omega⟩, ⟨aU⟩, ⟨aU⟩, ⟨aL⟩⟩
       ·exact ax1
      ·rw [if_neg c10] at H
       have c10b0 := beq_eq_false_iff_ne.mpr c10; have c10b1 := bne_iff_ne.mpr c10; have H' := am H; clear H; have p681 : 0 ≤ (x12_1 : Int) := of_decide_eq_true ax23; have q681 : x12_1 < (l0_0.length : Int) := of_decide_eq_true ax23; obtain ⟨ad681, e681, hx681_0, hx681_1, hx681_2⟩ := at_T74 HR0_0.out x12_1 p681 q681
       cases e681
       replace hx681_0 := uC HB hx681_0; replace hx681_1 := uC HB hx681_1; replace hx681_2 := uC HB hx681_2; replace p681 := eq_true p681; replace q681 := eq_true q681
       go_wp2_with (first | ((with_reducible refine gt 7 ?_); refine bx 7 #[.int .i64 0, .int .i64 0, .bool false] 74 ?_; intro gb682 hg w16 hbox hb; replace HO_5 := uR HO_5 hb; have BK682 := am (hbox); have GW682 := uH hg HB; have GE682 := uH hg HB; replace HB := uS HB hb; obtain ⟨NB677_682, NB682_677, BK677⟩ := uA hg hb BK677; clear hb hbox hg; obtain ⟨hnb17, hnc17⟩ := nk NB682_677; have hcz18_0 := bc (.int .i64 0) BK682 0; have hcz18_1 := bc (.int .i64 0) BK682 1; have hcz18_2 := bc (.bool false) BK682 2; have hfz18_0 := blk_frozen BK682.out 0; have hfz18_1 := blk_frozen BK682.out 1; have hfz18_2 := blk_frozen BK682.out 2))
       go_roundg k1
       case measure => have := HK1.out; omega
       case rel => exact ⟨(x5_1), (wrap64 (x12_1 + 1)), ax18, H', ⟨by have := HK1.out; omega⟩, ⟨aU⟩, ⟨aU⟩, ⟨aL⟩⟩
     ·exact ax13
    ·rw [if_neg c8] at H
     exact absurd H (by simp)
   ·rw [if_neg c7] at H
    have c7b0 := decide_eq_false c7; clear c7; obtain rfl := Option.some.inj H
    go_wp2
    go_ret
    exact ⟨_, ax21, aU, aL⟩

/-! ### impl_Trie_text: function 155 -/
mutual
def impl_Trie_text.j0 : Nat → Int → ByteArray → List (S74) → Option (ByteArray)
 | 0, _, _, _ => none
 | k + 1, x1, x5, x687000 => if 0 ≤ x1 then (if x1 < (x687000.length : Int) then (if (rd_T74 x687000 x1).f2 = true then (if x5.size + 1 ≤ 9223372036854775807 then (impl_Trie_text.j1 k x1 (x5 ++ (⟨#[46]⟩ : ByteArray)) x687000) else (none)) else (impl_Trie_text.j1 k x1 x5 x687000)) else (none)) else (none)
def impl_Trie_text.j1 : Nat → Int → ByteArray → List (S74) → Option (ByteArray)
 | 0, _, _, _ => none
 | k + 1, x1, x5, x687000 => (impl_Trie_kids.f k x687000 x1).bind fun t690 => (if (t690.length : Int) = 0 then (some x5) else (if x5.size + 1 ≤ 9223372036854775807 then (impl_Trie_text.l0 k (x5 ++ (⟨#[40]⟩ : ByteArray)) t690 (t690.length : Int) 0 x687000) else (none)))
def impl_Trie_text.l0 : Nat → ByteArray → List Int → Int → Int → List (S74) → Option (ByteArray)
 | 0, _, _, _, _, _ => none
 | k + 1, x5, x35, x36, x37, x687000 => if x37 < x36 then (if 0 ≤ x37 then (if x37 < (x35.length : Int) then ((impl_Trie_text.f k x687000 (rd x35 x37)).bind fun t694 => (if x5.size + t694.size ≤ 9223372036854775807 then (impl_Trie_text.l0 k (x5 ++ t694) x35 x36 (wrap64 (x37 + 1)) x687000) else (none))) else (none)) else (none)) else (if x5.size + 1 ≤ 9223372036854775807 then (some (x5 ++ (⟨#[41]⟩ : ByteArray))) else (none))
def impl_Trie_text.f : Nat → List (S74) → Int → Option (ByteArray)
 | 0, _, _ => none
 | k + 1, l0_0, a1 => if a1 > 0 then (if 0 ≤ a1 then (if a1 < (l0_0.length : Int) then ((impl_letter.f ((rd_T74 l0_0 a1).f0)).bind fun t688 => (impl_Trie_text.j0 k a1 t688 l0_0)) else (none)) else (none)) else (impl_Trie_text.j0 k a1 (⟨#[]⟩ : ByteArray) l0_0)
end
theorem impl_Trie_text.calls (k : Nat) : ∀ (A0_0 : Option Addr) (c0_0 : Nat) (l0_0 : List (S74)) (a1 : Int) (r : ByteArray) (w : World) (hr0_0 : Kd.C k74 w A0_0 l0_0.length l0_0) (hc0_0 : l0_0.length ≤ c0_0) (h : impl_Trie_text.f k l0_0 a1 = some r),
  Calls Tryz.prog 155 #[.agg #[.slice A0_0 l0_0.length c0_0], .int .i64 a1] w fun e w' => e = .returned (.string r) ∧ Below w.heap.size w w' := by
 induction k using Nat.strongRecOn with
 | _ k ih =>
 intro A0_0 c0_0 l0_0 a1 r w hr0_0 hc0_0 h
 cases k with
 | zero => exact absurd h (by simp [impl_Trie_text.f])
 | succ k =>
 simp only [impl_Trie_text.f] at h; have hu26 := Tryz.underlying26; have HR0_0 := am hr0_0; have HC0_0 := am hc0_0; clear hr0_0 hc0_0; have HB := am (Below.refl w.heap.size w); have H := h; clear h; have HC3 := am H; clear H
 go_enter Tryz.func155, Tryz.ntmps155
 go_upto_if 10 with (first | ((with_reducible refine gt 2 ?_); refine bx 2 #[.slice A0_0 l0_0.length c0_0] 26 ?_; intro gb686 hg w4 hbox hb; have n0_ := uS HB hb; have n1_ := am (hbox); have n2_ := uH hg HB; have n3_ := uH hg HB; clear HB; have HB := n0_; have BK686 := n1_; have GW686 := n2_; have GE686 := n3_; clear n0_ n1_ n2_ n3_; clear hb hbox hg))
 (try simp only [Act.put, List.setIfInBounds_toArray, List.set_cons_zero, List.set_cons_succ])
 go_cut [5] (fun v5 wc => ∃ (kq : Nat) (x5_2 : ByteArray), v5 = .string x5_2 ∧ Aside0 (impl_Trie_text.j0 kq a1 x5_2 l0_0 = some r) ∧ Aside0 (kq ≤ k) ∧ Aside0 (wc.heap[gb686]? = some (.cells #[(.slice A0_0 l0_0.length c0_0)] 26 (0, 0))) ∧ Aside0 (Below w.heap.size w wc))
 case first =>
  have H := HC3.out; clear HC3
  by_cases c5 : a1 > 0
  ·rw [if_pos c5] at H
   have c5b0 := decide_eq_true c5; clear c5; (first | rw [c5b0] | (simp only [i64_w, i32_w]; rw [c5b0]) | skip)
   by_cases c6 : 0 ≤ a1
   ·rw [if_pos c6] at H
    have c6b0 := decide_eq_true c6; clear c6
    by_cases c7 : a1 < (l0_0.length : Int)
    ·rw [if_pos c7] at H
     have c7b0 := decide_eq_true c7; clear c7; obtain ⟨t688, A8, H⟩ := bs H; have H' := am H; clear H; obtain ⟨hcz9_0, hfz9_0⟩ := bz (.slice A0_0 l0_0.length c0_0) BK686; have p687 : 0 ≤ (a1 : Int) := of_decide_eq_true ax23; have q687 : a1 < (l0_0.length : Int) := of_decide_eq_true ax23; obtain ⟨ad687, e687, hx687_0, hx687_1, hx687_2⟩ := at_T74 HR0_0.out a1 p687 q687
     cases e687
     replace hx687_0 := uC HB hx687_0; replace hx687_1 := uC HB hx687_1; replace hx687_2 := uC HB hx687_2; replace p687 := eq_true p687; replace q687 := eq_true q687
     go_wp2_with (first | ((with_reducible refine gd 17 188 ?_); refine gc 17 Tryz.func188 #[.int .i64 ((rd_T74 l0_0 a1).f0)] (impl_letter.calls ((rd_T74 l0_0 a1).f0) t688 _ A8.out) ?_; rintro e w10 ⟨rfl, hb⟩; refine ⟨_, rfl, ?_⟩; replace BK686 := ub BK686 hb; replace HB := uS HB hb; (try clear hb)))
     go_meet
     case rel => exact ⟨_, (t688), ax18, H', ⟨by first | omega | exact Nat.le_refl _⟩, ⟨aU⟩, ⟨aL⟩⟩
    ·exact ax7
   ·exact ax5
  ·rw [if_neg c5] at H
   have c5b0 := decide_eq_false c5; clear c5; (first | rw [c5b0] | (simp only [i64_w, i32_w]; rw [c5b0]) | skip); have H' := am H; clear H
   go_wp2
   go_meet
   case rel => exact ⟨_, ((⟨#[]⟩ : ByteArray)), ax18, H', ⟨by first | omega | exact Nat.le_refl _⟩, ⟨aU⟩, ⟨aL⟩⟩
 case rest =>
  clear HC3; obtain ⟨kq, x5_2, rfl, HA, HJ2, BK686, HB⟩ := hcut
  cases kq with
  | zero => exact absurd HA.out (by simp [impl_Trie_text.j0])
  | succ kj2 =>
   have H := HA.out; clear HA; simp only [impl_Trie_text.j0] at H
   by_cases c11 : 0 ≤ a1
   ·rw [if_pos c11] at H
    have c11b0 := decide_eq_true c11; clear c11
    by_cases c12 : a1 < (l0_0.length : Int)
    ·rw [if_pos c12] at H
     have c12b0 := decide_eq_true c12; clear c12; have HC13 := am H; clear H; obtain ⟨hcz14_0, hfz14_0⟩ := bz (.slice A0_0 l0_0.length c0_0) BK686; have p689 : 0 ≤ (a1 : Int) := of_decide_eq_true ax23; have q689 : a1 < (l0_0.length : Int) := of_decide_eq_true ax23; obtain ⟨ad689, e689, hx689_0, hx689_1, hx689_2⟩ := at_T74 HR0_0.out a1 p689 q689
     cases e689
     replace hx689_0 := uC HB hx689_0; replace hx689_1 := uC HB hx689_1; replace hx689_2 := uC HB hx689_2; replace p689 := eq_true p689; replace q689 := eq_true q689
     go_upto_if 23 with (fail)
     go_cut [5] (fun v5 wc => ∃ (kq : Nat) (x5_12 : ByteArray), v5 = .string x5_12 ∧ Aside0 (impl_Trie_text.j1 kq a1 x5_12 l0_0 = some r) ∧ Aside0 (kq ≤ kj2) ∧ Aside0 (wc.heap[gb686]? = some (.cells #[(.slice (some ad689) l0_0.length c0_0)] 26 (0, 0))) ∧ Aside0 (Below w.heap.size w wc))
     case first =>
      have H := HC13.out; clear HC13; obtain ⟨bq15, hbq15⟩ : ∃ b_ : Bool, b_ = ((rd_T74 l0_0 a1).f2) := ⟨_, rfl⟩
      replace H : (if bq15 = true then (if x5_2.size + 1 ≤ 9223372036854775807 then (impl_Trie_text.j1 kj2 a1 (x5_2 ++ (⟨#[46]⟩ : ByteArray)) l0_0) else (none)) else (impl_Trie_text.j1 kj2 a1 x5_2 l0_0)) = some r := by rw [← hbq15] at H; exact H
      have Nbq15 := am hbq15; clear hbq15; (try rw [← Nbq15.out])
      by_cases c16 : bq15 = true
      ·subst c16
       rw [if_pos rfl] at H
       by_cases c17 : x5_2.size + 1 ≤ 9223372036854775807
       ·rw [if_pos c17] at H
        have c17b0 := eq_true c17; have c17b1 := decide_eq_true c17
        try have c17b2 : (9223372036854775807 < x5_2.size + 1) = False := eq_false (Nat.not_lt.2 c17)
        clear c17; obtain ⟨js18, hjs18⟩ : ∃ j_ : ByteArray, (x5_2 ++ (⟨#[46]⟩ : ByteArray)) = j_ := ⟨_, rfl⟩; (first | rw [hjs18] at H | simp only [hjs18] at H); have H' := am H; clear H
        go_wp2
        go_meet
        case rel => exact ⟨_, (js18), ax115, H', ⟨ax122⟩, ⟨aU⟩, ⟨aL⟩⟩
       ·rw [if_neg c17] at H
        exact absurd H (by simp)
      ·replace c16 := Bool.eq_false_iff.mpr c16
       subst c16; rw [if_neg (show ¬ (false = true) by decide)] at H; have H' := am H; clear H
       go_wp2
       go_meet
       case rel => exact ⟨_, (x5_2), ax18, H', ⟨ax122⟩, ⟨aU⟩, ⟨aL⟩⟩
     case rest =>
      clear HC13; (try clear q689);(try clear p689);(try clear hx689_2);(try clear hx689_1);(try clear hx689_0);(try clear hfz14_0);(try clear hcz14_0);(try clear c12);(try clear c12b0);(try clear c11);(try clear c11b0); obtain ⟨kq, x5_12, rfl, HA, HJ12, BK686, HB⟩ := hcut
      cases kq with
      | zero => exact absurd HA.out (by simp [impl_Trie_text.j1])
      | succ kj12 =>
       have H := HA.out; clear HA; simp only [impl_Trie_text.j1] at H; obtain ⟨t690, A19, H⟩ := bs H
       by_cases c20 : (t690.length : Int) = 0
       ·rw [if_pos c20] at H
        have c20b0 := beq_iff_eq.mpr c20; have c20b1 := bne_eq_false_iff_eq.mpr c20; clear c20; obtain rfl := Option.some.inj H; obtain ⟨hcz21_0, hfz21_0⟩ := bz (.slice (some ad689) l0_0.length c0_0) BK686
        go_wp2_with (first | ((with_reducible refine gd 28 161 ?_); refine gc 28 Tryz.func161 #[.agg #[.slice (some ad689) l0_0.length c0_0], .int .i64 a1] (impl_Trie_kids.calls kj12 _ _ l0_0 a1 t690 _ ax30 (HC0_0.out) A19.out) ?_; rintro e w22 ⟨v691, rfl, ho0, hb⟩; refine ⟨_, rfl, ?_⟩; have HO692 := uL ho0 HB; replace HB := uB HB hb; (try clear hb ho0); obtain ⟨Ao23, co23, rfl⟩ := Kd.R_slice HO692.out))
        go_ret
        exact ⟨ax21, aL⟩
       ·rw [if_neg c20] at H
        have c20b0 := beq_eq_false_iff_ne.mpr c20; have c20b1 := bne_iff_ne.mpr c20
        have c20b2 : ¬ (t690 = []) := fun h_ => c20 (by rw [h_]; rfl)
        by_cases c24 : x5_12.size + 1 ≤ 9223372036854775807
        ·rw [if_pos c24] at H
         have c24b0 := eq_true c24; have c24b1 := decide_eq_true c24
         try have c24b2 : (9223372036854775807 < x5_12.size + 1) = False := eq_false (Nat.not_lt.2 c24)
         clear c24; obtain ⟨js25, hjs25⟩ : ∃ j_ : ByteArray, (x5_12 ++ (⟨#[40]⟩ : ByteArray)) = j_ := ⟨_, rfl⟩; (first | rw [hjs25] at H | simp only [hjs25] at H); have H' := am H; clear H; obtain ⟨hcz26_0, hfz26_0⟩ := bz (.slice (some ad689) l0_0.length c0_0) BK686
         go_wp2_with (first | ((with_reducible refine gd 28 161 ?_); refine gc 28 Tryz.func161 #[.agg #[.slice (some ad689) l0_0.length c0_0], .int .i64 a1] (impl_Trie_kids.calls kj12 _ _ l0_0 a1 t690 _ ax30 (HC0_0.out) A19.out) ?_; rintro e w27 ⟨v691, rfl, ho0, hb⟩; refine ⟨_, rfl, ?_⟩; have HO692 := am (Kd.R_lower ho0 (bS HB)); replace BK686 := ub BK686 hb; replace HB := uS HB hb; (try clear hb ho0); obtain ⟨Ao28, co28, rfl⟩ := Kd.R_slice HO692.out))
         go_loopg [5, 37] kj12 (fun kq v5 v37 w' => ∃ (x5_3 : ByteArray) (x37_3 : Int), v5 = .string x5_3 ∧ v37 = .int .i64 x37_3 ∧ Aside0 (impl_Trie_text.l0 kq x5_3 t690 (t690.length : Int) x37_3 l0_0 = some r) ∧ Aside0 (kq ≤ kj12) ∧ Aside0 (Kd.R (Kd.int .i64) 3 w' w.heap.size (fun _ => True) (.slice Ao28 t690.length co28) t690) ∧ Aside0 (w'.heap[gb686]? = some (.cells #[(.slice (some ad689) l0_0.length c0_0)] 26 (0, 0))) ∧ Aside0 (Below w.heap.size w w'))
         case atStart => exact ⟨(js25), (0), (by first | rfl | (simp; done) | (simp only [← hjs25] <;> (first | rfl | simp)) | (simp [*]; done)), ax18, H', ⟨Nat.le_refl _⟩, ⟨aU⟩, ⟨aU⟩, ⟨aL⟩⟩
         case round =>
          clear H'; (try clear hfz26_0);(try clear hcz26_0);(try clear c24);(try clear c24b2);(try clear c24b1);(try clear c24b0);(try clear c20b2);(try clear c20);(try clear c20b1);(try clear c20b0);(try clear hfz21_0);(try clear hcz21_0); obtain ⟨x5_3, x37_3, rfl, rfl, HA, HK3, HO_35, BK686, HB⟩ := hrel
          cases gk with
          | zero => exact absurd HA.out (by simp [impl_Trie_text.l0])
          | succ k3 =>
           have H := HA.out; clear HA; simp only [impl_Trie_text.l0] at H
           by_cases c29 : x37_3 < (t690.length : Int)
           ·rw [if_pos c29] at H
            have c29b0 := decide_eq_true c29; clear c29
            by_cases c30 : 0 ≤ x37_3
            ·rw [if_pos c30] at H
             have c30b0 := decide_eq_true c30; clear c30
             by_cases c31 : x37_3 < (t690.length : Int)
             ·rw [if_pos c31] at H
              have c31b0 := decide_eq_true c31; clear c31; obtain ⟨t694, A32, H⟩ := bs H
              by_cases c33 : x5_3.size + t694.size ≤ 9223372036854775807
              ·rw [if_pos c33] at H
               have c33b0 := eq_true c33; have c33b1 := decide_eq_true c33
               try have c33b2 : (9223372036854775807 < x5_3.size + t694.size) = False := eq_false (Nat.not_lt.2 c33)
               clear c33; obtain ⟨js34, hjs34⟩ : ∃ j_ : ByteArray, (x5_3 ++ t694) = j_ := ⟨_, rfl⟩; (first | rw [hjs34] at H | simp only [hjs34] at H); have H' := am H; clear H; have p693 : 0 ≤ (x37_3 : Int) := of_decide_eq_true ax23; have q693 : x37_3 < (t690.length : Int) := of_decide_eq_true ax23; obtain ⟨ad693, e693, hx693_0⟩ := Kd.at_int (Kd.R_reads' HO_35.out).2.2 x37_3 p693 q693
               cases e693
               replace p693 := eq_true p693; replace q693 := eq_true q693; obtain ⟨hcz35_0, hfz35_0⟩ := bz (.slice (some ad689) l0_0.length c0_0) BK686
               go_wp2_with (first | ((with_reducible refine gd 44 155 ?_); refine gc 44 Tryz.func155 #[.agg #[.slice (some ad689) l0_0.length c0_0], .int .i64 (rd t690 x37_3)] (ih k3 ax138 _ _ l0_0 (rd t690 x37_3) t694 _ ax30 (HC0_0.out) A32.out) ?_; rintro e w36 ⟨rfl, hb⟩; refine ⟨_, rfl, ?_⟩; replace HO_35 := uR HO_35 hb; replace BK686 := ub BK686 hb; replace HB := uS HB hb; (try clear hb)))
               go_roundg k3
               case measure => have := HJ2.out; have := HJ12.out; have := HK3.out; omega
               case rel => exact ⟨(js34), (wrap64 (x37_3 + 1)), (by first | rfl | (simp; done) | (simp only [← hjs34] <;> (first | rfl | simp)) | (simp [*]; done)), ax18, H', ⟨ax138⟩, ⟨aU⟩, ⟨aU⟩, ⟨aL⟩⟩
              ·exact ax14
             ·exact ax15
            ·rw [if_neg c30] at H
             exact absurd H (by simp)
           ·rw [if_neg c29] at H
            have c29b0 := decide_eq_false c29; clear c29
            by_cases c37 : x5_3.size + 1 ≤ 9223372036854775807
            ·rw [if_pos c37] at H
             have c37b0 := eq_true c37; have c37b1 := decide_eq_true c37
             try have c37b2 : (9223372036854775807 < x5_3.size + 1) = False := eq_false (Nat.not_lt.2 c37)
             clear c37; obtain ⟨js38, hjs38⟩ : ∃ j_ : ByteArray, (x5_3 ++ (⟨#[41]⟩ : ByteArray)) = j_ := ⟨_, rfl⟩; (first | rw [hjs38] at H | simp only [hjs38] at H); obtain rfl := Option.some.inj H
             go_wp2
             go_ret
             exact ⟨(by first | rfl | (simp [errW_none, errW_some] <;> rfl) | (simp only [← hjs25, ← hjs38]; first | rfl | (simp [errW_none, errW_some] <;> rfl)) | (simp [*, errW_none, errW_some] <;> rfl)), aL⟩
            ·rw [if_neg c37] at H
             exact absurd H (by simp)
        ·rw [if_neg c24] at H
         exact absurd H (by simp)
    ·rw [if_neg c12] at H
     exact absurd H (by simp)
   ·exact ax1
/-! ### impl_TrieText: function 64 -/
def impl_TrieText.f (k : Nat) (l0_0 : List (S74)) : Option (ByteArray × Bool) := (impl_isTrie.f k l0_0).bind fun t696 => (if t696 = true then ((impl_Trie_text.f k l0_0 0).bind fun t697 => (some (t697, true))) else (some ((⟨#[]⟩ : ByteArray), false)))
theorem impl_TrieText.calls (k : Nat) (A0_0 : Option Addr) (c0_0 : Nat) (l0_0 : List (S74)) (r1 : ByteArray) (r2 : Bool) (w : World) (hr0_0 : Kd.C k74 w A0_0 l0_0.length l0_0) (hc0_0 : l0_0.length ≤ c0_0) (h : impl_TrieText.f k l0_0 = some (r1, r2)) :
  Calls Tryz.prog 64 #[.agg #[.slice A0_0 l0_0.length c0_0]] w fun e w' => e = .returned (.tuple #[.string r1, .bool r2]) ∧ Below w.heap.size w w' := by
 have hu26 := Tryz.underlying26; have HR0_0 := am hr0_0; have HC0_0 := am hc0_0; clear hr0_0 hc0_0; have HB := am (Below.refl w.heap.size w)
 unfold impl_TrieText.f at h
 have H := h; clear h; obtain ⟨t696, A2, H⟩ := bs H
 by_cases c3 : t696 = true
 ·subst c3
  rw [if_pos rfl] at H; obtain ⟨t697, A4, H⟩ := bs H; simp only [Option.some.injEq, Prod.mk.injEq] at H; obtain ⟨rfl, rfl⟩ := H
  go_enter Tryz.func64, Tryz.ntmps64
  go_wp2_with (first | ((with_reducible refine gt 1 ?_); refine bx 1 #[.slice A0_0 l0_0.length c0_0] 26 ?_; intro gb695 hg w5 hbox hb; have BK695 := am (hbox); have GW695 := uG hg HB; have GE695 := uG hg HB; replace HB := uB HB hb; clear hb hbox hg; obtain ⟨hcz6_0, hfz6_0⟩ := bz (.slice A0_0 l0_0.length c0_0) BK695) | ((with_reducible refine gd 5 124 ?_); refine gc 5 Tryz.func124 #[.agg #[.slice A0_0 l0_0.length c0_0]] (impl_isTrie.calls k _ _ l0_0 true _ ax30 (HC0_0.out) A2.out) ?_; rintro e w7 ⟨rfl, hb⟩; refine ⟨_, rfl, ?_⟩; replace BK695 := ub BK695 hb; replace HB := uS HB hb; (try clear hb); obtain ⟨hcz8_0, hfz8_0⟩ := bz (.slice A0_0 l0_0.length c0_0) BK695) | ((with_reducible refine gd 8 155 ?_); refine gc 8 Tryz.func155 #[.agg #[.slice A0_0 l0_0.length c0_0], .int .i64 0] (impl_Trie_text.calls k _ _ l0_0 0 t697 _ ax30 (HC0_0.out) A4.out) ?_; rintro e w9 ⟨rfl, hb⟩; refine ⟨_, rfl, ?_⟩; replace HB := uB HB hb; (try clear hb)))
  go_ret2
  exact ⟨ax21, aL⟩
 ·replace c3 := Bool.eq_false_iff.mpr c3
  subst c3; rw [if_neg (show ¬ (false = true) by decide)] at H; simp only [Option.some.injEq, Prod.mk.injEq] at H; obtain ⟨rfl, rfl⟩ := H
  go_enter Tryz.func64, Tryz.ntmps64
  go_wp2_with (first | ((with_reducible refine gt 1 ?_); refine bx 1 #[.slice A0_0 l0_0.length c0_0] 26 ?_; intro gb695 hg w10 hbox hb; have BK695 := am (hbox); have GW695 := uG hg HB; have GE695 := uG hg HB; replace HB := uB HB hb; clear hb hbox hg; obtain ⟨hcz11_0, hfz11_0⟩ := bz (.slice A0_0 l0_0.length c0_0) BK695) | ((with_reducible refine gd 5 124 ?_); refine gc 5 Tryz.func124 #[.agg #[.slice A0_0 l0_0.length c0_0]] (impl_isTrie.calls k _ _ l0_0 false _ ax30 (HC0_0.out) A2.out) ?_; rintro e w12 ⟨rfl, hb⟩; refine ⟨_, rfl, ?_⟩; replace HB := uB HB hb; (try clear hb)))
  go_ret2
  exact ⟨ax21, aL⟩

end Go.Proofs.YtcplbbflfgckbaaGreatDoor.X

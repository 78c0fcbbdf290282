-- By gen.py (the session's own program over the kit's printer): functions of the program, each with its contract. Lean checks it.
import Derived.Test.YtcbjfflaamlpcaaX0
import Derived.Test.YtcbjfflaamlpcaaX2
import Derived.Test.YtcbjfflaamlpcaaX7
import Derived.Test.YtcbjfflaamlpcaaX14
namespace Go.Proofs.Ytcbjfflaamlpcaa.X
open Go.RowKit Go.Proofs.YtcbjfflaamlpcaaW.PrintWords Go.Proofs.YtcbjfflaamlpcaaW.PrintLast Go.Proofs.YtcbjfflaamlpcaaW.PrintMore
attribute [local go_sem] max2_int min2_int max_two min_two max_three min_three max_four min_four   -- for this text's walks alone
set_option linter.unusedVariables false
set_option linter.unusedSimpArgs false

/-! ### spec_FatalWords: function 28 -/
def spec_FatalWords.l0 : Nat → Int → List ByteArray → Int → List (S67) → Option (List ByteArray × Bool)
 | 0, _, _, _, _ => none
 | k + 1, x1, x6, x7, x621000 => if x7 < (x621000.length : Int) then ((spec_l11Fatal.f k x621000 x7 x1).bind fun t625 => (if t625 = true then (if 0 ≤ x7 then ((spec_l11Open.f k x621000 ((rd_T67 x621000 x7).f1) x1).bind fun t627 => (if t627 = true then ((spec_l2Prefix.f k x621000 x7).bind fun t628 => (if x6.length < 8796093022208 then (spec_FatalWords.l0 k x1 (x6 ++ [t628]) (wrap64 (x7 + 1)) x621000) else (none))) else (spec_FatalWords.l0 k x1 x6 (wrap64 (x7 + 1)) x621000))) else (none)) else (spec_FatalWords.l0 k x1 x6 (wrap64 (x7 + 1)) x621000))) else (some (x6, true))
def spec_FatalWords.f (k : Nat) (l0_0 : List (S67)) (a1 : Int) : Option (List ByteArray × Bool) := (some (([] : List ByteArray) : List ByteArray)).bind fun y621 => ((spec_l11Good.f k l0_0 0 a1).bind fun t624 => (if t624 = true then (spec_FatalWords.l0 k a1 y621 1 l0_0) else (some (y621, false))))
theorem spec_FatalWords.mono_l : ∀ k, (∀ y0 y1 y2 y3, LeO (spec_FatalWords.l0 k y0 y1 y2 y3) (spec_FatalWords.l0 (k + 1) y0 y1 y2 y3))
 | 0 => fun _ _ _ _ r h => by simp [spec_FatalWords.l0] at h
 | k + 1 => by
  have ih0 := spec_FatalWords.mono_l k
  ·intro y0 y1 y2 y3
   unfold spec_FatalWords.l0
   repeat' first
   | (with_reducible exact ih0 _ _ _ _)
   | (with_reducible exact spec_l11Fatal.mono _ _ _ _)
   | (with_reducible exact spec_l11Good.mono _ _ _ _)
   | (with_reducible exact spec_l11Open.mono _ _ _ _)
   | (with_reducible exact spec_l2Prefix.mono _ _ _)
   | (with_reducible exact LeO.refl _)
   | (with_reducible exact LeO.none _)
   | (with_reducible refine LeO.ite ?_ ?_)
   | (with_reducible refine LeO.bind ?_ (fun _ => ?_))
   | exact ih0 _ _ _ _
   | exact spec_l11Fatal.mono _ _ _ _
   | exact spec_l11Good.mono _ _ _ _
   | exact spec_l11Open.mono _ _ _ _
   | exact spec_l2Prefix.mono _ _ _
   | exact LeO.none _
   | refine LeO.ite ?_ ?_
   | refine LeO.bind ?_ (fun _ => ?_)
theorem spec_FatalWords.mono : ∀ a0 a1 k, LeO (spec_FatalWords.f k a0 a1) (spec_FatalWords.f (k + 1) a0 a1) := by
 intro a0 a1 k
 have ih0 := spec_FatalWords.mono_l k
 unfold spec_FatalWords.f
 repeat' first
   | (with_reducible exact ih0 _ _ _ _)
   | (with_reducible exact spec_l11Fatal.mono _ _ _ _)
   | (with_reducible exact spec_l11Good.mono _ _ _ _)
   | (with_reducible exact spec_l11Open.mono _ _ _ _)
   | (with_reducible exact spec_l2Prefix.mono _ _ _)
   | (with_reducible exact LeO.refl _)
   | (with_reducible exact LeO.none _)
   | (with_reducible refine LeO.ite ?_ ?_)
   | (with_reducible refine LeO.bind ?_ (fun _ => ?_))
   | exact ih0 _ _ _ _
   | exact spec_l11Fatal.mono _ _ _ _
   | exact spec_l11Good.mono _ _ _ _
   | exact spec_l11Open.mono _ _ _ _
   | exact spec_l2Prefix.mono _ _ _
   | exact LeO.none _
   | refine LeO.ite ?_ ?_
   | refine LeO.bind ?_ (fun _ => ?_)
def spec_FatalWords.T7 : Bool × List (List Nat × List Nat) := (true, [([], []), ([], []), ([], []), ([0, 1, 2], [0, 1, 2]), ([3, 3], [3]), ([4], [4]), ([4], [4]), ([6, 4], [4, 6]), ([4], [4]), ([7, 8, 4], [4, 7, 8]), ([9, 4], [4, 9]), ([10, 4], [4, 10]), ([4], [4]), ([5, 11, 12, 4, 4], [4, 5, 11, 12]), ([4, 13], [4, 13])])
def spec_FatalWords.B7 : List Nat := [0, 0, 0, 7, 15, 31, 31, 95, 31, 479, 991, 2015, 31, 8191, 16383]
theorem spec_FatalWords.tab7 : rtab .any (opsOf Try.f28 7) = spec_FatalWords.T7 := by kernel_rfl
theorem spec_FatalWords.bits7 : waitsOk spec_FatalWords.T7.2 spec_FatalWords.B7 = true := by kernel_rfl
set_option maxHeartbeats 8000000 in
set_option maxRecDepth 100000 in
theorem spec_FatalWords.calls (k : Nat) (A0_0 : Option Addr) (c0_0 : Nat) (l0_0 : List (S67)) (a1 : Int) (r1 : List ByteArray) (r2 : Bool) (w : World) (hr0_0 : Kd.C k67 w A0_0 l0_0.length l0_0) (hc0_0 : l0_0.length ≤ c0_0) (h : spec_FatalWords.f k l0_0 a1 = some (r1, r2)) :
  Calls Try.prog 28 #[.agg #[.slice A0_0 l0_0.length c0_0], .int .i64 a1] w fun e w' => ∃ v0_ : Value, e = .returned (.tuple #[v0_, .bool r2]) ∧ Kd.R Kd.string 9 w' w.heap.size (fun _ => True) v0_ r1 ∧ Below w.heap.size w w' := by
 have hu30 := Try.underlying30; have HR0_0 := Aside0.mk hr0_0; have HC0_0 := Aside0.mk hc0_0; clear hr0_0 hc0_0; have HB := Aside0.mk (Below.refl w.heap.size w)
 have H : ((some (([] : List ByteArray) : List ByteArray)).bind fun y621 => ((spec_l11Good.f k l0_0 0 a1).bind fun t624 => (if t624 = true then (spec_FatalWords.l0 k a1 y621 1 l0_0) else (some (y621, false))))) = some (r1, r2) := h
 clear h
 obtain ⟨y621, hy621⟩ : ∃ y_ : List ByteArray, y_ = (([] : List ByteArray)) := ⟨_, rfl⟩
 replace H : ((spec_l11Good.f k l0_0 0 a1).bind fun t624 => (if t624 = true then (spec_FatalWords.l0 k a1 y621 1 l0_0) else (some (y621, false)))) = some (r1, r2) := by first | (rw [hy621]; with_reducible exact H) | (have H2_ := (Option.bind_some _ _).symm.trans H; rw [hy621]; with_reducible exact H2_) | (have H2_ := (Option.bind_some _ _).symm.trans H; with_reducible exact H2_) | with_reducible exact H | (rw [hy621]; exact H) | exact H
 have Ny621 := Aside0.mk hy621; clear hy621; replace H := Option.bind_eq_some_iff.mp H
 obtain ⟨t624, A30, H⟩ := H
 replace H : (if t624 = true then (spec_FatalWords.l0 k a1 y621 1 l0_0) else (some (y621, false))) = some (r1, r2) := H
 have A3 := Aside0.mk A30; clear A30
 by_cases c4 : t624 = true
 ·subst c4
  have H1 : (spec_FatalWords.l0 k a1 y621 1 l0_0) = some (r1, r2) := by rw [if_pos rfl] at H; exact H
  clear H; have H := H1; clear H1
  have H' := Aside0.mk H
  clear H
  go_enter Try.func28, Try.ntmps28
  go_wp2_with (first | ((with_reducible refine gate_dst (N := 2) rfl ?_); refine box_event ?hg (N := 2) ?hd (cs := #[.slice A0_0 l0_0.length c0_0]) (t := 30) ?hr ?_; (case hd => rfl); (case hg => rfl); (case hr => exact ax31); intro gb620 hg w5 hbox hb; have n0_ := Aside0.mk (below_step ax32 hb); have n1_ := Aside0.mk (hbox); have n2_ := Aside0.mk ((ax33 : w.heap.size ≤ gb620)); have n3_ := Aside0.mk ((ax33 : w.heap.size ≤ gb620)); clear HB; have HB := n0_; have BK620 := n1_; have GW620 := n2_; have GE620 := n3_; clear n0_ n1_ n2_ n3_; clear hb hbox hg) | ((with_reducible refine gate_dst (N := 8) rfl ?_); refine Kd.R_lit Kd.string _ 9 ?hg (N := 8) ?hd (xs := ([] : List ByteArray)) (inner := []) (ok := fun _ => True) (okp := fun _ => True) ?hr ?hp (fun _ hk => hk) trivial (Below.refl _ _) (Nat.le_refl _) (by simp) ?_; (case hd => rfl); (case hg => rfl); (case hr => exact ax31); (case hp => exact ax48); intro v622 w6 ho7 hb hg_ hnew_; clear hg_ hnew_; (first | rw [← Ny621.out] at ho7 | (simp only [Int.reduceToNat] at ho7; rw [← Ny621.out] at ho7)); have n0_ := Aside0.mk (Kd.R_lower ho7 (below_size ax245)); have n1_ := Aside0.mk (blk_below (g := gb620) (o := .cells #[.slice A0_0 l0_0.length c0_0] 30 (0, 0)) ax246 hb); have n2_ := Aside0.mk (below_step ax245 hb); clear BK620; clear HB; have HO623 := n0_; have BK620 := n1_; have HB := n2_; clear n0_ n1_ n2_; clear hb ho7; have hcz8_0 : w6.cell? ⟨gb620, 0, none⟩ = some (.slice A0_0 l0_0.length c0_0) := (blk_cell BK620.out 0).trans rfl; have hfz8_0 := blk_frozen BK620.out 0) | ((with_reducible refine gate_callee (f := 41) rfl ?_); refine goesL_ (some 11) rfl rfl Try.func41 (by kernel_rfl) rfl #[.agg #[.slice A0_0 l0_0.length c0_0], .int .i64 0, .int .i64 a1] rfl ax34 ?_; (with_reducible refine (spec_l11Good.calls k _ _ l0_0 0 a1 true _ ?side1 ?side2 A3.out).mono ?_); (case side1 => exact ax35); (case side2 => exact ax36); rintro e w9 ⟨rfl, hb⟩; refine ⟨_, rfl, ?_⟩; have n0_ := Aside0.mk (Kd.R_below ax247 hb); have n1_ := Aside0.mk (blk_below (g := gb620) (o := .cells #[.slice A0_0 l0_0.length c0_0] 30 (0, 0)) ax246 hb); have n2_ := Aside0.mk (below_step ax245 hb); clear HO623; clear BK620; clear HB; have HO623 := n0_; have BK620 := n1_; have HB := n2_; clear n0_ n1_ n2_; (try clear hb); (try clear hb2); (try clear hk); (try clear hi)))
  go_loopg [6, 7] k (fun kq v6 v7 w' => ∃ (x6_1 : List ByteArray) (x7_1 : Int), v7 = .int .i64 x7_1 ∧ Aside0 (spec_FatalWords.l0 kq a1 x6_1 x7_1 l0_0 = some (r1, r2)) ∧ Aside0 (kq ≤ k) ∧ Aside0 (Kd.R Kd.string 9 w' w.heap.size (fun _ => True) v6 x6_1) ∧ Aside0 (w'.heap[gb620]? = some (.cells #[(.slice A0_0 l0_0.length c0_0)] 30 (0, 0))) ∧ Aside0 (Below w.heap.size w w'))
  case atStart => exact ⟨(y621), (1), ax37, H', ⟨Nat.le_refl _⟩, ⟨by (with_reducible repeat (first | apply Kd.R_alloc | apply Kd.R_drewN | apply Kd.R_drew)); exact HO623.out⟩, ⟨by (with_reducible repeat (first | refine blk_drewN ?_ _ | refine blk_drew ?_ | refine blk_alloc ?_ _)); exact BK620.out⟩, ⟨by repeat (first | (with_reducible first | exact HB.out | apply below_alloc | apply pw_below_drewN | apply below_drew1 | refine below_set ?_ GE620.out) | exact HB.out)⟩⟩
  case round =>
   clear H'
   try clear c2
   try clear p2
   try clear c4
   try clear hcz8_0
   try clear hfz8_0
   obtain ⟨x6_1, x7_1, rfl, HA, HK1, HO_6, BK620, HB⟩ := hrel
   cases gk with
   | zero => exact absurd HA.out (by simp [spec_FatalWords.l0])
   | succ k1 =>
    have H := HA.out; clear HA
    simp only [spec_FatalWords.l0] at H
    by_cases c10 : x7_1 < (l0_0.length : Int)
    ·rw [if_pos c10] at H
     have c10b0 : decide (x7_1 < (l0_0.length : Int)) = true := decide_eq_true c10
     clear c10; replace H := Option.bind_eq_some_iff.mp H
     obtain ⟨t625, A110, H⟩ := H
     replace H : (if t625 = true then (if 0 ≤ x7_1 then ((spec_l11Open.f k1 l0_0 ((rd_T67 l0_0 x7_1).f1) a1).bind fun t627 => (if t627 = true then ((spec_l2Prefix.f k1 l0_0 x7_1).bind fun t628 => (if x6_1.length < 8796093022208 then (spec_FatalWords.l0 k1 a1 (x6_1 ++ [t628]) (wrap64 (x7_1 + 1)) l0_0) else (none))) else (spec_FatalWords.l0 k1 a1 x6_1 (wrap64 (x7_1 + 1)) l0_0))) else (none)) else (spec_FatalWords.l0 k1 a1 x6_1 (wrap64 (x7_1 + 1)) l0_0)) = some (r1, r2) := H
     have A11 := Aside0.mk A110; clear A110
     by_cases c12 : t625 = true
     ·subst c12
      have H1 : (if 0 ≤ x7_1 then ((spec_l11Open.f k1 l0_0 ((rd_T67 l0_0 x7_1).f1) a1).bind fun t627 => (if t627 = true then ((spec_l2Prefix.f k1 l0_0 x7_1).bind fun t628 => (if x6_1.length < 8796093022208 then (spec_FatalWords.l0 k1 a1 (x6_1 ++ [t628]) (wrap64 (x7_1 + 1)) l0_0) else (none))) else (spec_FatalWords.l0 k1 a1 x6_1 (wrap64 (x7_1 + 1)) l0_0))) else (none)) = some (r1, r2) := by rw [if_pos rfl] at H; exact H
      clear H; have H := H1; clear H1
      by_cases c13 : 0 ≤ x7_1
      ·rw [if_pos c13] at H
       have c13b0 : decide (0 ≤ x7_1) = true := decide_eq_true c13
       clear c13; replace H := Option.bind_eq_some_iff.mp H
       obtain ⟨t627, A140, H⟩ := H
       replace H : (if t627 = true then ((spec_l2Prefix.f k1 l0_0 x7_1).bind fun t628 => (if x6_1.length < 8796093022208 then (spec_FatalWords.l0 k1 a1 (x6_1 ++ [t628]) (wrap64 (x7_1 + 1)) l0_0) else (none))) else (spec_FatalWords.l0 k1 a1 x6_1 (wrap64 (x7_1 + 1)) l0_0)) = some (r1, r2) := H
       have A14 := Aside0.mk A140; clear A140
       by_cases c15 : t627 = true
       ·subst c15
        have H1 : ((spec_l2Prefix.f k1 l0_0 x7_1).bind fun t628 => (if x6_1.length < 8796093022208 then (spec_FatalWords.l0 k1 a1 (x6_1 ++ [t628]) (wrap64 (x7_1 + 1)) l0_0) else (none))) = some (r1, r2) := by rw [if_pos rfl] at H; exact H
        clear H; have H := H1; clear H1; replace H := Option.bind_eq_some_iff.mp H
        obtain ⟨t628, A160, H⟩ := H
        replace H : (if x6_1.length < 8796093022208 then (spec_FatalWords.l0 k1 a1 (x6_1 ++ [t628]) (wrap64 (x7_1 + 1)) l0_0) else (none)) = some (r1, r2) := H
        have A16 := Aside0.mk A160; clear A160
        by_cases c17 : x6_1.length < 8796093022208
        ·rw [if_pos c17] at H
         have LMc17 := Aside0.mk c17; clear c17
         obtain ⟨y629, hy629⟩ : ∃ y_ : List ByteArray, y_ = (x6_1 ++ [t628]) := ⟨_, rfl⟩
         replace H : (spec_FatalWords.l0 k1 a1 y629 (wrap64 (x7_1 + 1)) l0_0) = some (r1, r2) := by first | (rw [hy629]; with_reducible exact H) | (have H2_ := (Option.bind_some _ _).symm.trans H; rw [hy629]; with_reducible exact H2_) | (have H2_ := (Option.bind_some _ _).symm.trans H; with_reducible exact H2_) | with_reducible exact H | (rw [hy629]; exact H) | exact H
         have Ny629 := Aside0.mk hy629; clear hy629
         have H' := Aside0.mk H
         clear H
         have hcz18_0 : wr.cell? ⟨gb620, 0, none⟩ = some (.slice A0_0 l0_0.length c0_0) := (blk_cell BK620.out 0).trans rfl
         have hfz18_0 := blk_frozen BK620.out 0
         try go_wp2
         have n0_ := Aside0.mk (Kd.R_drew HO_6.out); have n1_ := Aside0.mk (blk_drew BK620.out); have n2_ := Aside0.mk (below_drew1 HB.out); clear HO_6; clear BK620; clear HB; have HO_6 := n0_; have BK620 := n1_; have HB := n2_; clear n0_ n1_ n2_
         have p626 : 0 ≤ (x7_1 : Int) := of_decide_eq_true ax38
         have q626 : x7_1 < (l0_0.length : Int) := of_decide_eq_true ax38
         obtain ⟨ad626, e626, hx626_0, hx626_1, hx626_2⟩ := at_T67 HR0_0.out x7_1 p626 q626
         have hw626_2 := hx626_2; have hw626_1 := hx626_1; have hw626_0 := hx626_0; cases e626; replace hx626_0 := (HB.out.cell (World.block_lt_of_cell? w _ hx626_0)).trans hx626_0; replace hx626_1 := (HB.out.cell (World.block_lt_of_cell? w _ hx626_1)).trans hx626_1; replace hx626_2 := (HB.out.cell (World.block_lt_of_cell? w _ hx626_2)).trans hx626_2; replace p626 := eq_true p626; replace q626 := eq_true q626
         refine start_ (n := 15) (S := fun w' => w'.cell? ⟨gb620, 0, none⟩ = some (.slice (some ad626) l0_0.length c0_0) ∧ w'.cell? (ad626.add ((x7_1).toNat * 3)) = some (.int .i64 ((rd_T67 l0_0 x7_1).f0)) ∧ w'.cell? ⟨(ad626.add ((x7_1).toNat * 3)).block, (ad626.add ((x7_1).toNat * 3)).off + 1, none⟩ = some (.int .i64 ((rd_T67 l0_0 x7_1).f1)) ∧ w'.cell? ⟨(ad626.add ((x7_1).toNat * 3)).block, (ad626.add ((x7_1).toNat * 3)).off + 2, none⟩ = some (.bool ((rd_T67 l0_0 x7_1).f2))) (ds := []) (ob 15 0) (by kernel_rfl) rfl rfl ⟨(blk_cell BK620.out 0).trans rfl, ((HB.out.cell (World.block_lt_of_cell? w _ hw626_0)).trans hw626_0), ((HB.out.cell (World.block_lt_of_cell? w _ hw626_1)).trans hw626_1), ((HB.out.cell (World.block_lt_of_cell? w _ hw626_2)).trans hw626_2)⟩ (fun hHeld => ?_); refine with_tabW spec_FatalWords.tab7 spec_FatalWords.bits7 (fun HT_ HW_ => ?_)
         generalize wr.drew = w19 at HO_6 BK620 HB hx626_0 hx626_1 hx626_2 hHeld ⊢
         refine pure_ (i := 1) (N := some 22) (v := ?_) (a' := ?_) (ob 15 2) rfl rfl (any_of HT_.out (by kernel_rfl)) (fun _ _ _ h => h) (Or.inl ⟨by rfl, ?_⟩) ?_ ?_; rotate_left; exact ax5; rotate_left; exact ax6
         refine pure_ (i := 2) (N := some 23) (v := ?_) (a' := ?_) (ob 15 6) rfl rfl (any_of HT_.out (by kernel_rfl)) (fun _ _ _ h => h) (Or.inl ⟨by rfl, ?_⟩) ?_ ?_; rotate_left; exact ax5; rotate_left; exact ax6
         refine take_ (i := 0) (N := some 21) (v := ?_) (a' := ?_) (ob 15 7) rfl rfl (take_ofW HT_.out HW_.out (by kernel_rfl)) (fun _ _ _ h => h) (Or.inl ⟨by rfl, ?_⟩) hHeld ?_ ?_; rotate_left; exact ax14; rotate_left; exact ax6
         refine one_ (i := 3) (N := some 24) (ob 15 15) rfl rfl (one_of HT_.out (by kernel_rfl)) (by decide) (fun K hK => ?_)
         refine goes_ Try.func57 (by kernel_rfl) rfl #[.agg #[.slice (some ad626) l0_0.length c0_0], .int .i64 x7_1, .int .i64 a1] (by rfl) rfl rfl ax34 ?_
         with_reducible refine (spec_l11Fatal.calls k1 _ _ l0_0 x7_1 a1 true _ ?side1 ?side2 A11.out).mono ?_
         (case side1 => exact ax35)
         (case side2 => exact ax36)
         rintro e w20 ⟨rfl, hb⟩
         refine ⟨_, rfl, ?_⟩
         have n0_ := Aside0.mk (Kd.R_below ax248 hb)
         have n1_ := Aside0.mk (blk_below (g := gb620) (o := .cells #[.slice (some ad626) l0_0.length c0_0] 30 (0, 0)) ax246 hb)
         have n2_ := Aside0.mk (below_step ax245 hb); clear HO_6; clear BK620; clear HB; have HO_6 := n0_; have BK620 := n1_; have HB := n2_; clear n0_ n1_ n2_; (try clear hb); (try clear hb2); (try clear hk); (try clear hi)
         refine hK.out _ _ ⟨(blk_cell BK620.out 0).trans rfl, ((HB.out.cell (World.block_lt_of_cell? w _ hw626_0)).trans hw626_0), ((HB.out.cell (World.block_lt_of_cell? w _ hw626_1)).trans hw626_1), ((HB.out.cell (World.block_lt_of_cell? w _ hw626_2)).trans hw626_2)⟩ (fun hHeld => ?_)
         clear hK K
         refine norm_ (a' := ?_) ?_ ?_
         rotate_left
         ·exact ax18
         refine pure_ (i := 4) (N := some 25) (v := ?_) (a' := ?_) (ob 15 31) rfl rfl (any_of HT_.out (by kernel_rfl)) (fun _ _ _ h => h) (Or.inl ⟨by rfl, ?_⟩) ?_ ?_; rotate_left; exact ax5; rotate_left; exact ax6
         refine pure_ (i := 6) (N := some 27) (v := ?_) (a' := ?_) (ob 15 95) rfl rfl (any_of HT_.out (by kernel_rfl)) (fun _ _ _ h => h) (Or.inl ⟨by rfl, ?_⟩) ?_ ?_; rotate_left; exact ax5; rotate_left; exact ax6
         refine pure_ (i := 8) (N := some 29) (v := ?_) (a' := ?_) (ob 15 351) rfl rfl (any_of HT_.out (by kernel_rfl)) (fun _ _ _ h => h) (Or.inl ⟨by rfl, ?_⟩) ?_ ?_; rotate_left; exact ax5; rotate_left; exact ax6
         refine pure_ (i := 12) (N := some 33) (v := ?_) (a' := ?_) (ob 15 4447) rfl rfl (any_of HT_.out (by kernel_rfl)) (fun _ _ _ h => h) (Or.inl ⟨by rfl, ?_⟩) ?_ ?_; rotate_left; exact ax5; rotate_left; exact ax6
         refine take_ (i := 5) (N := some 26) (v := ?_) (a' := ?_) (ob 15 4479) rfl rfl (take_ofW HT_.out HW_.out (by kernel_rfl)) (fun _ _ _ h => h) (Or.inl ⟨by rfl, ?_⟩) hHeld ?_ ?_; rotate_left; exact ax14; rotate_left; exact ax6
         refine take_ (i := 7) (N := some 28) (v := ?_) (a' := ?_) (ob 15 4607) rfl rfl (take_ofW HT_.out HW_.out (by kernel_rfl)) (fun _ _ _ h => h) (Or.inl ⟨by rfl, ?_⟩) hHeld ?_ ?_; rotate_left; exact ax14; rotate_left; exact ax6
         refine pure_ (i := 9) (N := some 30) (v := ?_) (a' := ?_) (ob 15 5119) rfl rfl (any_of HT_.out (by kernel_rfl)) (fun _ _ _ h => h) (Or.inl ⟨by rfl, ?_⟩) ?_ ?_; rotate_left; exact ax5; rotate_left; exact ax6
         refine pure_ (i := 10) (N := some 31) (v := ?_) (a' := ?_) (ob 15 6143) rfl rfl (any_of HT_.out (by kernel_rfl)) (fun _ _ _ h => h) (Or.inl ⟨by rfl, ?_⟩) ?_ ?_; rotate_left; exact ax5; rotate_left; exact ax6
         refine take_ (i := 11) (N := some 32) (v := ?_) (a' := ?_) (ob 15 8191) rfl rfl (take_ofW HT_.out HW_.out (by kernel_rfl)) (fun _ _ _ h => h) (Or.inl ⟨by rfl, ?_⟩) hHeld ?_ ?_; rotate_left; exact ax14; rotate_left; exact ax6
         refine one_ (i := 13) (N := some 34) (ob 15 16383) rfl rfl (one_of HT_.out (by kernel_rfl)) (by decide) (fun K hK => ?_)
         refine goes_ Try.func42 (by kernel_rfl) rfl #[.agg #[.slice (some ad626) l0_0.length c0_0], .int .i64 ((rd_T67 l0_0 x7_1).f1), .int .i64 a1] (by rfl) rfl rfl ax34 ?_
         with_reducible refine (spec_l11Open.calls k1 _ _ l0_0 ((rd_T67 l0_0 x7_1).f1) a1 true _ ?side1 ?side2 A14.out).mono ?_
         (case side1 => exact ax35)
         (case side2 => exact ax36)
         rintro e w21 ⟨rfl, hb⟩
         refine ⟨_, rfl, ?_⟩
         have n0_ := Aside0.mk (Kd.R_below ax248 hb)
         have n1_ := Aside0.mk (blk_below (g := gb620) (o := .cells #[.slice (some ad626) l0_0.length c0_0] 30 (0, 0)) ax246 hb)
         have n2_ := Aside0.mk (below_step ax245 hb); clear HO_6; clear BK620; clear HB; have HO_6 := n0_; have BK620 := n1_; have HB := n2_; clear n0_ n1_ n2_; (try clear hb); (try clear hb2); (try clear hk); (try clear hi)
         refine hK.out _ _ ⟨(blk_cell BK620.out 0).trans rfl, ((HB.out.cell (World.block_lt_of_cell? w _ hw626_0)).trans hw626_0), ((HB.out.cell (World.block_lt_of_cell? w _ hw626_1)).trans hw626_1), ((HB.out.cell (World.block_lt_of_cell? w _ hw626_2)).trans hw626_2)⟩ (fun hHeld => ?_)
         clear hK K
         refine norm_ (a' := ?_) ?_ ?_
         rotate_left
         ·show Act.put _ (some 34) _ = _
          simp only [Act.put, List.setIfInBounds_toArray, List.set_cons_zero, List.set_cons_succ, i64_w, i32_w]
          rfl
         refine pure_ (i := 14) (N := some 35) (v := ?_) (a' := ?_) (ob 15 32767) rfl rfl (any_of HT_.out (by kernel_rfl)) (fun _ _ _ h => h) (Or.inl ⟨by rfl, ?_⟩) ?_ ?_; rotate_left; exact ax5; rotate_left; exact ax6
         refine done_ (done_of HT_.out (by kernel_rfl)) ?_
         have hcz22_0 : w21.cell? ⟨gb620, 0, none⟩ = some (.slice (some ad626) l0_0.length c0_0) := (blk_cell BK620.out 0).trans rfl
         have hfz22_0 := blk_frozen BK620.out 0
         try go_wp2_with (first | ((with_reducible refine gate_callee (f := 62) rfl ?_); refine goesL_ (some 39) rfl rfl Try.func62 (by kernel_rfl) rfl #[.agg #[.slice (some ad626) l0_0.length c0_0], .int .i64 x7_1] rfl ax34 ?_; (with_reducible refine (spec_l2Prefix.calls k1 _ _ l0_0 x7_1 t628 _ ?side1 ?side2 A16.out).mono ?_); (case side1 => exact ax35); (case side2 => exact ax36); rintro e w23 ⟨rfl, hb⟩; refine ⟨_, rfl, ?_⟩; have n0_ := Aside0.mk (Kd.R_below ax248 hb); have n1_ := Aside0.mk (blk_below (g := gb620) (o := .cells #[.slice (some ad626) l0_0.length c0_0] 30 (0, 0)) ax246 hb); have n2_ := Aside0.mk (below_step ax245 hb); clear HO_6; clear BK620; clear HB; have HO_6 := n0_; have BK620 := n1_; have HB := n2_; clear n0_ n1_ n2_; (try clear hb); (try clear hb2); (try clear hk); (try clear hi)) | ((with_reducible refine gate_builtin (b := .append) (xs := #[.tmp 36, .tmp 40]) rfl ?_); at_builtin; refine Kd.R_append Kd.string (w0 := w) w.heap.size rfl (.tmp 36) (.tmp 40) 40 9 (.string ⟨#[]⟩) 16 rfl Try.underlying40 info9 rfl (by decide) (by omega) u6 x6_1 t628 [.string t628] (fun _ => True) (fun _ => False) rfl rfl ?aP (fun _ hk => hk.elim) ?aF ?aO ?aB ?aS ?aL ?_; (case aP => exact rfl); (case aB => exact ax245); (case aF => exact ax52); (case aO => exact ax248); (case aS => exact (below_size ax245)); (case aL => have := LMc17.out; omega); intro v630 w24 ho hb hg hat; rw [← Ny629.out] at ho; have n0_ := Aside0.mk (blk_grown (g := gb620) (o := .cells #[.slice (some ad626) l0_0.length c0_0] 30 (0, 0)) ax246 hg (Kd.R_ne HO_6.out BK620.out (by decide))); have n1_ := Aside0.mk (hb); have n2_ := Aside0.mk (ho); clear BK620; clear HB; clear HO_6; have BK620 := n0_; have HB := n1_; have HO631 := n2_; clear n0_ n1_ n2_; clear ho hb hg hat))
         go_roundg k1
         case measure => have := HK1.out; omega
         case rel => exact ⟨(y629), (wrap64 (x7_1 + 1)), ax37, H', ⟨by have := HK1.out; omega⟩, ⟨by (with_reducible repeat (first | apply Kd.R_alloc | apply Kd.R_drewN | apply Kd.R_drew)); exact HO631.out⟩, ⟨by (with_reducible repeat (first | refine blk_drewN ?_ _ | refine blk_drew ?_ | refine blk_alloc ?_ _)); exact BK620.out⟩, ⟨by repeat (first | (with_reducible first | exact HB.out | apply below_alloc | apply pw_below_drewN | apply below_drew1 | refine below_set ?_ GE620.out) | exact HB.out)⟩⟩
        ·rw [if_neg c17] at H
         exact absurd H (by simp)
       ·replace c15 := Bool.eq_false_iff.mpr c15
        subst c15
        have H1 : (spec_FatalWords.l0 k1 a1 x6_1 (wrap64 (x7_1 + 1)) l0_0) = some (r1, r2) := by rw [if_neg (show ¬ (false = true) by decide)] at H; exact H
        clear H; have H := H1; clear H1
        have H' := Aside0.mk H
        clear H
        have hcz25_0 : wr.cell? ⟨gb620, 0, none⟩ = some (.slice A0_0 l0_0.length c0_0) := (blk_cell BK620.out 0).trans rfl
        have hfz25_0 := blk_frozen BK620.out 0
        try go_wp2
        have n0_ := Aside0.mk (Kd.R_drew HO_6.out); have n1_ := Aside0.mk (blk_drew BK620.out); have n2_ := Aside0.mk (below_drew1 HB.out); clear HO_6; clear BK620; clear HB; have HO_6 := n0_; have BK620 := n1_; have HB := n2_; clear n0_ n1_ n2_
        have p626 : 0 ≤ (x7_1 : Int) := of_decide_eq_true ax38
        have q626 : x7_1 < (l0_0.length : Int) := of_decide_eq_true ax38
        obtain ⟨ad626, e626, hx626_0, hx626_1, hx626_2⟩ := at_T67 HR0_0.out x7_1 p626 q626
        have hw626_2 := hx626_2; have hw626_1 := hx626_1; have hw626_0 := hx626_0; cases e626; replace hx626_0 := (HB.out.cell (World.block_lt_of_cell? w _ hx626_0)).trans hx626_0; replace hx626_1 := (HB.out.cell (World.block_lt_of_cell? w _ hx626_1)).trans hx626_1; replace hx626_2 := (HB.out.cell (World.block_lt_of_cell? w _ hx626_2)).trans hx626_2; replace p626 := eq_true p626; replace q626 := eq_true q626
        refine start_ (n := 15) (S := fun w' => w'.cell? ⟨gb620, 0, none⟩ = some (.slice (some ad626) l0_0.length c0_0) ∧ w'.cell? (ad626.add ((x7_1).toNat * 3)) = some (.int .i64 ((rd_T67 l0_0 x7_1).f0)) ∧ w'.cell? ⟨(ad626.add ((x7_1).toNat * 3)).block, (ad626.add ((x7_1).toNat * 3)).off + 1, none⟩ = some (.int .i64 ((rd_T67 l0_0 x7_1).f1)) ∧ w'.cell? ⟨(ad626.add ((x7_1).toNat * 3)).block, (ad626.add ((x7_1).toNat * 3)).off + 2, none⟩ = some (.bool ((rd_T67 l0_0 x7_1).f2))) (ds := []) (ob 15 0) (by kernel_rfl) rfl rfl ⟨(blk_cell BK620.out 0).trans rfl, ((HB.out.cell (World.block_lt_of_cell? w _ hw626_0)).trans hw626_0), ((HB.out.cell (World.block_lt_of_cell? w _ hw626_1)).trans hw626_1), ((HB.out.cell (World.block_lt_of_cell? w _ hw626_2)).trans hw626_2)⟩ (fun hHeld => ?_); refine with_tabW spec_FatalWords.tab7 spec_FatalWords.bits7 (fun HT_ HW_ => ?_)
        generalize wr.drew = w26 at HO_6 BK620 HB hx626_0 hx626_1 hx626_2 hHeld ⊢
        refine pure_ (i := 1) (N := some 22) (v := ?_) (a' := ?_) (ob 15 2) rfl rfl (any_of HT_.out (by kernel_rfl)) (fun _ _ _ h => h) (Or.inl ⟨by rfl, ?_⟩) ?_ ?_; rotate_left; exact ax5; rotate_left; exact ax6
        refine pure_ (i := 2) (N := some 23) (v := ?_) (a' := ?_) (ob 15 6) rfl rfl (any_of HT_.out (by kernel_rfl)) (fun _ _ _ h => h) (Or.inl ⟨by rfl, ?_⟩) ?_ ?_; rotate_left; exact ax5; rotate_left; exact ax6
        refine take_ (i := 0) (N := some 21) (v := ?_) (a' := ?_) (ob 15 7) rfl rfl (take_ofW HT_.out HW_.out (by kernel_rfl)) (fun _ _ _ h => h) (Or.inl ⟨by rfl, ?_⟩) hHeld ?_ ?_; rotate_left; exact ax14; rotate_left; exact ax6
        refine one_ (i := 3) (N := some 24) (ob 15 15) rfl rfl (one_of HT_.out (by kernel_rfl)) (by decide) (fun K hK => ?_)
        refine goes_ Try.func57 (by kernel_rfl) rfl #[.agg #[.slice (some ad626) l0_0.length c0_0], .int .i64 x7_1, .int .i64 a1] (by rfl) rfl rfl ax34 ?_
        with_reducible refine (spec_l11Fatal.calls k1 _ _ l0_0 x7_1 a1 true _ ?side1 ?side2 A11.out).mono ?_
        (case side1 => exact ax35)
        (case side2 => exact ax36)
        rintro e w27 ⟨rfl, hb⟩
        refine ⟨_, rfl, ?_⟩
        have n0_ := Aside0.mk (Kd.R_below ax248 hb)
        have n1_ := Aside0.mk (blk_below (g := gb620) (o := .cells #[.slice (some ad626) l0_0.length c0_0] 30 (0, 0)) ax246 hb)
        have n2_ := Aside0.mk (below_step ax245 hb); clear HO_6; clear BK620; clear HB; have HO_6 := n0_; have BK620 := n1_; have HB := n2_; clear n0_ n1_ n2_; (try clear hb); (try clear hb2); (try clear hk); (try clear hi)
        refine hK.out _ _ ⟨(blk_cell BK620.out 0).trans rfl, ((HB.out.cell (World.block_lt_of_cell? w _ hw626_0)).trans hw626_0), ((HB.out.cell (World.block_lt_of_cell? w _ hw626_1)).trans hw626_1), ((HB.out.cell (World.block_lt_of_cell? w _ hw626_2)).trans hw626_2)⟩ (fun hHeld => ?_)
        clear hK K
        refine norm_ (a' := ?_) ?_ ?_
        rotate_left
        ·exact ax18
        refine pure_ (i := 4) (N := some 25) (v := ?_) (a' := ?_) (ob 15 31) rfl rfl (any_of HT_.out (by kernel_rfl)) (fun _ _ _ h => h) (Or.inl ⟨by rfl, ?_⟩) ?_ ?_; rotate_left; exact ax5; rotate_left; exact ax6
        refine pure_ (i := 6) (N := some 27) (v := ?_) (a' := ?_) (ob 15 95) rfl rfl (any_of HT_.out (by kernel_rfl)) (fun _ _ _ h => h) (Or.inl ⟨by rfl, ?_⟩) ?_ ?_; rotate_left; exact ax5; rotate_left; exact ax6
        refine pure_ (i := 8) (N := some 29) (v := ?_) (a' := ?_) (ob 15 351) rfl rfl (any_of HT_.out (by kernel_rfl)) (fun _ _ _ h => h) (Or.inl ⟨by rfl, ?_⟩) ?_ ?_; rotate_left; exact ax5; rotate_left; exact ax6
        refine pure_ (i := 12) (N := some 33) (v := ?_) (a' := ?_) (ob 15 4447) rfl rfl (any_of HT_.out (by kernel_rfl)) (fun _ _ _ h => h) (Or.inl ⟨by rfl, ?_⟩) ?_ ?_; rotate_left; exact ax5; rotate_left; exact ax6
        refine take_ (i := 5) (N := some 26) (v := ?_) (a' := ?_) (ob 15 4479) rfl rfl (take_ofW HT_.out HW_.out (by kernel_rfl)) (fun _ _ _ h => h) (Or.inl ⟨by rfl, ?_⟩) hHeld ?_ ?_; rotate_left; exact ax14; rotate_left; exact ax6
        refine take_ (i := 7) (N := some 28) (v := ?_) (a' := ?_) (ob 15 4607) rfl rfl (take_ofW HT_.out HW_.out (by kernel_rfl)) (fun _ _ _ h => h) (Or.inl ⟨by rfl, ?_⟩) hHeld ?_ ?_; rotate_left; exact ax14; rotate_left; exact ax6
        refine pure_ (i := 9) (N := some 30) (v := ?_) (a' := ?_) (ob 15 5119) rfl rfl (any_of HT_.out (by kernel_rfl)) (fun _ _ _ h => h) (Or.inl ⟨by rfl, ?_⟩) ?_ ?_; rotate_left; exact ax5; rotate_left; exact ax6
        refine pure_ (i := 10) (N := some 31) (v := ?_) (a' := ?_) (ob 15 6143) rfl rfl (any_of HT_.out (by kernel_rfl)) (fun _ _ _ h => h) (Or.inl ⟨by rfl, ?_⟩) ?_ ?_; rotate_left; exact ax5; rotate_left; exact ax6
        refine take_ (i := 11) (N := some 32) (v := ?_) (a' := ?_) (ob 15 8191) rfl rfl (take_ofW HT_.out HW_.out (by kernel_rfl)) (fun _ _ _ h => h) (Or.inl ⟨by rfl, ?_⟩) hHeld ?_ ?_; rotate_left; exact ax14; rotate_left; exact ax6
        refine one_ (i := 13) (N := some 34) (ob 15 16383) rfl rfl (one_of HT_.out (by kernel_rfl)) (by decide) (fun K hK => ?_)
        refine goes_ Try.func42 (by kernel_rfl) rfl #[.agg #[.slice (some ad626) l0_0.length c0_0], .int .i64 ((rd_T67 l0_0 x7_1).f1), .int .i64 a1] (by rfl) rfl rfl ax34 ?_
        with_reducible refine (spec_l11Open.calls k1 _ _ l0_0 ((rd_T67 l0_0 x7_1).f1) a1 false _ ?side1 ?side2 A14.out).mono ?_
        (case side1 => exact ax35)
        (case side2 => exact ax36)
        rintro e w28 ⟨rfl, hb⟩
        refine ⟨_, rfl, ?_⟩
        have n0_ := Aside0.mk (Kd.R_below ax248 hb)
        have n1_ := Aside0.mk (blk_below (g := gb620) (o := .cells #[.slice (some ad626) l0_0.length c0_0] 30 (0, 0)) ax246 hb)
        have n2_ := Aside0.mk (below_step ax245 hb); clear HO_6; clear BK620; clear HB; have HO_6 := n0_; have BK620 := n1_; have HB := n2_; clear n0_ n1_ n2_; (try clear hb); (try clear hb2); (try clear hk); (try clear hi)
        refine hK.out _ _ ⟨(blk_cell BK620.out 0).trans rfl, ((HB.out.cell (World.block_lt_of_cell? w _ hw626_0)).trans hw626_0), ((HB.out.cell (World.block_lt_of_cell? w _ hw626_1)).trans hw626_1), ((HB.out.cell (World.block_lt_of_cell? w _ hw626_2)).trans hw626_2)⟩ (fun hHeld => ?_)
        clear hK K
        refine norm_ (a' := ?_) ?_ ?_
        rotate_left
        ·show Act.put _ (some 34) _ = _
         simp only [Act.put, List.setIfInBounds_toArray, List.set_cons_zero, List.set_cons_succ, i64_w, i32_w]
         rfl
        refine pure_ (i := 14) (N := some 35) (v := ?_) (a' := ?_) (ob 15 32767) rfl rfl (any_of HT_.out (by kernel_rfl)) (fun _ _ _ h => h) (Or.inl ⟨by rfl, ?_⟩) ?_ ?_; rotate_left; exact ax5; rotate_left; exact ax6
        refine done_ (done_of HT_.out (by kernel_rfl)) ?_
        try go_wp2
        go_roundg k1
        case measure => have := HK1.out; omega
        case rel => exact ⟨(x6_1), (wrap64 (x7_1 + 1)), ax37, H', ⟨by have := HK1.out; omega⟩, ⟨by (with_reducible repeat (first | apply Kd.R_alloc | apply Kd.R_drewN | apply Kd.R_drew)); exact HO_6.out⟩, ⟨by (with_reducible repeat (first | refine blk_drewN ?_ _ | refine blk_drew ?_ | refine blk_alloc ?_ _)); exact BK620.out⟩, ⟨by repeat (first | (with_reducible first | exact HB.out | apply below_alloc | apply pw_below_drewN | apply below_drew1 | refine below_set ?_ GE620.out) | exact HB.out)⟩⟩
      ·rw [if_neg c13] at H
       exact absurd H (by simp)
     ·replace c12 := Bool.eq_false_iff.mpr c12
      subst c12
      have H1 : (spec_FatalWords.l0 k1 a1 x6_1 (wrap64 (x7_1 + 1)) l0_0) = some (r1, r2) := by rw [if_neg (show ¬ (false = true) by decide)] at H; exact H
      clear H; have H := H1; clear H1
      have H' := Aside0.mk H
      clear H
      have hcz29_0 : wr.cell? ⟨gb620, 0, none⟩ = some (.slice A0_0 l0_0.length c0_0) := (blk_cell BK620.out 0).trans rfl
      have hfz29_0 := blk_frozen BK620.out 0
      try go_wp2
      have n0_ := Aside0.mk (Kd.R_drew HO_6.out); have n1_ := Aside0.mk (blk_drew BK620.out); have n2_ := Aside0.mk (below_drew1 HB.out); clear HO_6; clear BK620; clear HB; have HO_6 := n0_; have BK620 := n1_; have HB := n2_; clear n0_ n1_ n2_
      refine start_ (n := 15) (S := fun w' => w'.cell? ⟨gb620, 0, none⟩ = some (.slice A0_0 l0_0.length c0_0)) (ds := []) (ob 15 0) (by kernel_rfl) rfl rfl ((blk_cell BK620.out 0).trans rfl) (fun hHeld => ?_); refine with_tabW spec_FatalWords.tab7 spec_FatalWords.bits7 (fun HT_ HW_ => ?_)
      generalize wr.drew = w30 at HO_6 BK620 HB hHeld ⊢
      refine pure_ (i := 1) (N := some 22) (v := ?_) (a' := ?_) (ob 15 2) rfl rfl (any_of HT_.out (by kernel_rfl)) (fun _ _ _ h => h) (Or.inl ⟨by rfl, ?_⟩) ?_ ?_; rotate_left; exact ax5; rotate_left; exact ax6
      refine pure_ (i := 2) (N := some 23) (v := ?_) (a' := ?_) (ob 15 6) rfl rfl (any_of HT_.out (by kernel_rfl)) (fun _ _ _ h => h) (Or.inl ⟨by rfl, ?_⟩) ?_ ?_; rotate_left; exact ax5; rotate_left; exact ax6
      refine take_ (i := 0) (N := some 21) (v := ?_) (a' := ?_) (ob 15 7) rfl rfl (take_ofW HT_.out HW_.out (by kernel_rfl)) (fun _ _ _ h => h) (Or.inl ⟨by rfl, ?_⟩) hHeld ?_ ?_
      rotate_left
      ·intro w' s0
       go_simp
       with_reducible rfl
      rotate_left
      ·exact ax6
      refine one_ (i := 3) (N := some 24) (ob 15 15) rfl rfl (one_of HT_.out (by kernel_rfl)) (by decide) (fun K hK => ?_)
      refine goes_ Try.func57 (by kernel_rfl) rfl #[.agg #[.slice A0_0 l0_0.length c0_0], .int .i64 x7_1, .int .i64 a1] (by rfl) rfl rfl ax34 ?_
      with_reducible refine (spec_l11Fatal.calls k1 _ _ l0_0 x7_1 a1 false _ ?side1 ?side2 A11.out).mono ?_
      (case side1 => exact ax35)
      (case side2 => exact ax36)
      rintro e w31 ⟨rfl, hb⟩
      refine ⟨_, rfl, ?_⟩
      have n0_ := Aside0.mk (Kd.R_below ax248 hb)
      have n1_ := Aside0.mk (blk_below (g := gb620) (o := .cells #[.slice A0_0 l0_0.length c0_0] 30 (0, 0)) ax246 hb)
      have n2_ := Aside0.mk (below_step ax245 hb); clear HO_6; clear BK620; clear HB; have HO_6 := n0_; have BK620 := n1_; have HB := n2_; clear n0_ n1_ n2_; (try clear hb); (try clear hb2); (try clear hk); (try clear hi)
      refine hK.out _ _ ((blk_cell BK620.out 0).trans rfl) (fun hHeld => ?_)
      clear hK K
      refine norm_ (a' := ?_) ?_ ?_
      rotate_left
      ·exact ax18
      refine pure_ (i := 4) (N := some 25) (v := ?_) (a' := ?_) (ob 15 31) rfl rfl (any_of HT_.out (by kernel_rfl)) (fun _ _ _ h => h) (Or.inl ⟨by rfl, ?_⟩) ?_ ?_; rotate_left; exact ax5; rotate_left; exact ax6
      refine pure_ (i := 5) (N := some 26) (v := undef) (a' := ?_) (ob 15 63) rfl rfl (any_of HT_.out (by kernel_rfl)) (fun _ _ _ h => h) (Or.inr ⟨by rfl, rfl⟩) ?_ ?_
      rotate_left
      ·exact ax6
      refine pure_ (i := 6) (N := some 27) (v := undef) (a' := ?_) (ob 15 127) rfl rfl (any_of HT_.out (by kernel_rfl)) (fun _ _ _ h => h) (Or.inr ⟨by rfl, rfl⟩) ?_ ?_
      rotate_left
      ·exact ax6
      refine pure_ (i := 7) (N := some 28) (v := undef) (a' := ?_) (ob 15 255) rfl rfl (any_of HT_.out (by kernel_rfl)) (fun _ _ _ h => h) (Or.inr ⟨by rfl, rfl⟩) ?_ ?_
      rotate_left
      ·exact ax6
      refine pure_ (i := 8) (N := some 29) (v := undef) (a' := ?_) (ob 15 511) rfl rfl (any_of HT_.out (by kernel_rfl)) (fun _ _ _ h => h) (Or.inr ⟨by rfl, rfl⟩) ?_ ?_
      rotate_left
      ·exact ax6
      refine pure_ (i := 9) (N := some 30) (v := undef) (a' := ?_) (ob 15 1023) rfl rfl (any_of HT_.out (by kernel_rfl)) (fun _ _ _ h => h) (Or.inr ⟨by rfl, rfl⟩) ?_ ?_
      rotate_left
      ·exact ax6
      refine pure_ (i := 10) (N := some 31) (v := undef) (a' := ?_) (ob 15 2047) rfl rfl (any_of HT_.out (by kernel_rfl)) (fun _ _ _ h => h) (Or.inr ⟨by rfl, rfl⟩) ?_ ?_
      rotate_left
      ·exact ax6
      refine pure_ (i := 11) (N := some 32) (v := undef) (a' := ?_) (ob 15 4095) rfl rfl (any_of HT_.out (by kernel_rfl)) (fun _ _ _ h => h) (Or.inr ⟨by rfl, rfl⟩) ?_ ?_
      rotate_left
      ·exact ax6
      refine pure_ (i := 12) (N := some 33) (v := undef) (a' := ?_) (ob 15 8191) rfl rfl (any_of HT_.out (by kernel_rfl)) (fun _ _ _ h => h) (Or.inr ⟨by rfl, rfl⟩) ?_ ?_
      rotate_left
      ·exact ax6
      refine pure_ (i := 13) (N := some 34) (v := undef) (a' := ?_) (ob 15 16383) rfl rfl (any_of HT_.out (by kernel_rfl)) (fun _ _ _ h => h) (Or.inr ⟨by rfl, rfl⟩) ?_ ?_
      rotate_left
      ·exact ax6
      refine pure_ (i := 14) (N := some 35) (v := ?_) (a' := ?_) (ob 15 32767) rfl rfl (any_of HT_.out (by kernel_rfl)) (fun _ _ _ h => h) (Or.inl ⟨by rfl, ?_⟩) ?_ ?_; rotate_left; exact ax5; rotate_left; exact ax6
      refine done_ (done_of HT_.out (by kernel_rfl)) ?_
      try go_wp2
      go_roundg k1
      case measure => have := HK1.out; omega
      case rel => exact ⟨(x6_1), (wrap64 (x7_1 + 1)), ax37, H', ⟨by have := HK1.out; omega⟩, ⟨by (with_reducible repeat (first | apply Kd.R_alloc | apply Kd.R_drewN | apply Kd.R_drew)); exact HO_6.out⟩, ⟨by (with_reducible repeat (first | refine blk_drewN ?_ _ | refine blk_drew ?_ | refine blk_alloc ?_ _)); exact BK620.out⟩, ⟨by repeat (first | (with_reducible first | exact HB.out | apply below_alloc | apply pw_below_drewN | apply below_drew1 | refine below_set ?_ GE620.out) | exact HB.out)⟩⟩
    ·rw [if_neg c10] at H
     have c10b0 : decide (x7_1 < (l0_0.length : Int)) = false := decide_eq_false c10
     clear c10
     simp only [Option.some.injEq, Prod.mk.injEq] at H
     obtain ⟨rfl, rfl⟩ := H
     have hcz32_0 : wr.cell? ⟨gb620, 0, none⟩ = some (.slice A0_0 l0_0.length c0_0) := (blk_cell BK620.out 0).trans rfl
     have hfz32_0 := blk_frozen BK620.out 0
     go_wp2
     go_ret2
     exact ⟨_, by first | rfl | (simp [errW_none, errW_some] <;> rfl) | (simp [*, errW_none, errW_some] <;> rfl), by (with_reducible repeat (first | apply Kd.R_alloc | apply Kd.R_drewN | apply Kd.R_drew)); exact HO_6.out, by repeat (first | (with_reducible first | exact HB.out | apply below_alloc | apply pw_below_drewN | apply below_drew1 | refine below_set ?_ GE620.out) | exact HB.out)⟩
 ·replace c4 := Bool.eq_false_iff.mpr c4
  subst c4
  have H1 : (some (y621, false)) = some (r1, r2) := by rw [if_neg (show ¬ (false = true) by decide)] at H; exact H
  clear H; have H := H1; clear H1
  simp only [Option.some.injEq, Prod.mk.injEq] at H
  obtain ⟨rfl, rfl⟩ := H
  go_enter Try.func28, Try.ntmps28
  go_wp2_with (first | ((with_reducible refine gate_dst (N := 2) rfl ?_); refine box_event ?hg (N := 2) ?hd (cs := #[.slice A0_0 l0_0.length c0_0]) (t := 30) ?hr ?_; (case hd => rfl); (case hg => rfl); (case hr => exact ax31); intro gb620 hg w33 hbox hb; have n0_ := Aside0.mk (below_step ax32 hb); have n1_ := Aside0.mk (hbox); have n2_ := Aside0.mk ((ax33 : w.heap.size ≤ gb620)); have n3_ := Aside0.mk ((ax33 : w.heap.size ≤ gb620)); clear HB; have HB := n0_; have BK620 := n1_; have GW620 := n2_; have GE620 := n3_; clear n0_ n1_ n2_ n3_; clear hb hbox hg) | ((with_reducible refine gate_dst (N := 8) rfl ?_); refine Kd.R_lit Kd.string _ 9 ?hg (N := 8) ?hd (xs := ([] : List ByteArray)) (inner := []) (ok := fun _ => True) (okp := fun _ => True) ?hr ?hp (fun _ hk => hk) trivial (Below.refl _ _) (Nat.le_refl _) (by simp) ?_; (case hd => rfl); (case hg => rfl); (case hr => exact ax31); (case hp => exact ax48); intro v622 w34 ho35 hb hg_ hnew_; clear hg_ hnew_; (first | rw [← Ny621.out] at ho35 | (simp only [Int.reduceToNat] at ho35; rw [← Ny621.out] at ho35)); have n0_ := Aside0.mk (Kd.R_lower ho35 (below_size ax245)); have n1_ := Aside0.mk (blk_below (g := gb620) (o := .cells #[.slice A0_0 l0_0.length c0_0] 30 (0, 0)) ax246 hb); have n2_ := Aside0.mk (below_step ax245 hb); clear BK620; clear HB; have HO623 := n0_; have BK620 := n1_; have HB := n2_; clear n0_ n1_ n2_; clear hb ho35; have hcz36_0 : w34.cell? ⟨gb620, 0, none⟩ = some (.slice A0_0 l0_0.length c0_0) := (blk_cell BK620.out 0).trans rfl; have hfz36_0 := blk_frozen BK620.out 0) | ((with_reducible refine gate_callee (f := 41) rfl ?_); refine goesL_ (some 11) rfl rfl Try.func41 (by kernel_rfl) rfl #[.agg #[.slice A0_0 l0_0.length c0_0], .int .i64 0, .int .i64 a1] rfl ax34 ?_; (with_reducible refine (spec_l11Good.calls k _ _ l0_0 0 a1 false _ ?side1 ?side2 A3.out).mono ?_); (case side1 => exact ax35); (case side2 => exact ax36); rintro e w37 ⟨rfl, hb⟩; refine ⟨_, rfl, ?_⟩; have n0_ := Aside0.mk (Kd.R_below ax247 hb); have n1_ := Aside0.mk (blk_below (g := gb620) (o := .cells #[.slice A0_0 l0_0.length c0_0] 30 (0, 0)) ax246 hb); have n2_ := Aside0.mk (below_step ax245 hb); clear HO623; clear BK620; clear HB; have HO623 := n0_; have BK620 := n1_; have HB := n2_; clear n0_ n1_ n2_; (try clear hb); (try clear hb2); (try clear hk); (try clear hi)))
  go_ret2
  exact ⟨_, by first | rfl | (simp [errW_none, errW_some] <;> rfl) | (simp [*, errW_none, errW_some] <;> rfl), by (with_reducible repeat (first | apply Kd.R_alloc | apply Kd.R_drewN | apply Kd.R_drew)); exact HO623.out, by repeat (first | (with_reducible first | exact HB.out | apply below_alloc | apply pw_below_drewN | apply below_drew1 | refine below_set ?_ GE620.out) | exact HB.out)⟩

end Go.Proofs.Ytcbjfflaamlpcaa.X

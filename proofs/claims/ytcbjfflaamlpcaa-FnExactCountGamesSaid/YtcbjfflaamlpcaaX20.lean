-- By gen.py (the session's own program over the kit's printer): functions of the program, each with its contract. Lean checks it.
import Derived.Test.YtcbjfflaamlpcaaX0
import Derived.Test.YtcbjfflaamlpcaaX7
import Derived.Test.YtcbjfflaamlpcaaX13
import Derived.Test.YtcbjfflaamlpcaaX14
import Derived.Test.YtcbjfflaamlpcaaX15
namespace Go.Proofs.Ytcbjfflaamlpcaa.X
open Go.RowKit Go.Proofs.YtcbjfflaamlpcaaW.PrintWords Go.Proofs.YtcbjfflaamlpcaaW.PrintLast Go.Proofs.YtcbjfflaamlpcaaW.PrintMore
attribute [local go_sem] max2_int min2_int max_two min_two max_three min_three max_four min_four   -- for this text's walks alone
set_option linter.unusedVariables false
set_option linter.unusedSimpArgs false

/-! ### spec_l11Count: function 54 -/
mutual
def spec_l11Count.j0 : Nat → Int → List Int → Int → Bool → List (S67) → Option (Int)
 | 0, _, _, _, _, _ => none
 | k + 1, x2, x7, x8, x21, x530000 => if x21 = true then (some 1) else (spec_l11Count.l0 k x2 x7 x8 0 x530000)
def spec_l11Count.l0 : Nat → Int → List Int → Int → Int → List (S67) → Option (Int)
 | 0, _, _, _, _, _ => none
 | k + 1, x2, x7, x8, x9, x530000 => if x9 < (x7.length : Int) then (if 0 ≤ x9 then ((spec_l11Count.f k x530000 (rd x7 x9) x2).bind fun t535 => (spec_l11Count.l0 k x2 x7 (wrap64 (x8 + t535)) (wrap64 (x9 + 1)) x530000)) else (none)) else (some x8)
def spec_l11Count.f : Nat → List (S67) → Int → Int → Option (Int)
 | 0, _, _, _ => none
 | k + 1, l0_0, a1, a2 => (spec_l2Kids.f k l0_0 a1).bind fun t530 => (if (t530.length : Int) = 0 then (spec_l11Count.j0 k a2 t530 0 true l0_0) else ((spec_l11Fatal.f k l0_0 a1 a2).bind fun t533 => (spec_l11Count.j0 k a2 t530 0 t533 l0_0)))
end
theorem spec_l11Count.mono_l : ∀ k, (∀ y0 y1 y2, LeO (spec_l11Count.f k y0 y1 y2) (spec_l11Count.f (k + 1) y0 y1 y2)) ∧ (∀ y0 y1 y2 y3 y4, LeO (spec_l11Count.j0 k y0 y1 y2 y3 y4) (spec_l11Count.j0 (k + 1) y0 y1 y2 y3 y4)) ∧ (∀ y0 y1 y2 y3 y4, LeO (spec_l11Count.l0 k y0 y1 y2 y3 y4) (spec_l11Count.l0 (k + 1) y0 y1 y2 y3 y4))
 | 0 => ⟨fun _ _ _ r h => by simp [spec_l11Count.f] at h, fun _ _ _ _ _ r h => by simp [spec_l11Count.j0] at h, fun _ _ _ _ _ r h => by simp [spec_l11Count.l0] at h⟩
 | k + 1 => by
  obtain ⟨ih0, ih1, ih2⟩ := spec_l11Count.mono_l k
  refine ⟨?_, ?_, ?_⟩
  ·intro y0 y1 y2
   unfold spec_l11Count.f
   repeat' first
   | (with_reducible exact ih0 _ _ _)
   | (with_reducible exact ih1 _ _ _ _ _)
   | (with_reducible exact ih2 _ _ _ _ _)
   | (with_reducible exact spec_l11Fatal.mono _ _ _ _)
   | (with_reducible exact spec_l2Kids.mono _ _ _)
   | (with_reducible exact LeO.refl _)
   | (with_reducible exact LeO.none _)
   | (with_reducible refine LeO.ite ?_ ?_)
   | (with_reducible refine LeO.bind ?_ (fun _ => ?_))
   | exact ih0 _ _ _
   | exact ih1 _ _ _ _ _
   | exact ih2 _ _ _ _ _
   | exact spec_l11Fatal.mono _ _ _ _
   | exact spec_l2Kids.mono _ _ _
   | exact LeO.none _
   | refine LeO.ite ?_ ?_
   | refine LeO.bind ?_ (fun _ => ?_)
  ·intro y0 y1 y2 y3 y4
   unfold spec_l11Count.j0
   repeat' first
   | (with_reducible exact ih0 _ _ _)
   | (with_reducible exact ih1 _ _ _ _ _)
   | (with_reducible exact ih2 _ _ _ _ _)
   | (with_reducible exact spec_l11Fatal.mono _ _ _ _)
   | (with_reducible exact spec_l2Kids.mono _ _ _)
   | (with_reducible exact LeO.refl _)
   | (with_reducible exact LeO.none _)
   | (with_reducible refine LeO.ite ?_ ?_)
   | (with_reducible refine LeO.bind ?_ (fun _ => ?_))
   | exact ih0 _ _ _
   | exact ih1 _ _ _ _ _
   | exact ih2 _ _ _ _ _
   | exact spec_l11Fatal.mono _ _ _ _
   | exact spec_l2Kids.mono _ _ _
   | exact LeO.none _
   | refine LeO.ite ?_ ?_
   | refine LeO.bind ?_ (fun _ => ?_)
  ·intro y0 y1 y2 y3 y4
   unfold spec_l11Count.l0
   repeat' first
   | (with_reducible exact ih0 _ _ _)
   | (with_reducible exact ih1 _ _ _ _ _)
   | (with_reducible exact ih2 _ _ _ _ _)
   | (with_reducible exact spec_l11Fatal.mono _ _ _ _)
   | (with_reducible exact spec_l2Kids.mono _ _ _)
   | (with_reducible exact LeO.refl _)
   | (with_reducible exact LeO.none _)
   | (with_reducible refine LeO.ite ?_ ?_)
   | (with_reducible refine LeO.bind ?_ (fun _ => ?_))
   | exact ih0 _ _ _
   | exact ih1 _ _ _ _ _
   | exact ih2 _ _ _ _ _
   | exact spec_l11Fatal.mono _ _ _ _
   | exact spec_l2Kids.mono _ _ _
   | exact LeO.none _
   | refine LeO.ite ?_ ?_
   | refine LeO.bind ?_ (fun _ => ?_)
theorem spec_l11Count.mono : ∀ a0 a1 a2 k, LeO (spec_l11Count.f k a0 a1 a2) (spec_l11Count.f (k + 1) a0 a1 a2) := by
 intro a0 a1 a2 k
 obtain ⟨ih0, ih1, ih2⟩ := spec_l11Count.mono_l k
 exact ih0 a0 a1 a2
def spec_l11Count.T7 : Bool × List (List Nat × List Nat) := (true, [([], []), ([], []), ([], []), ([], []), ([2, 3], [2, 3]), ([4], [4]), ([], []), ([1, 5, 6], [1, 5, 6]), ([0, 7], [0, 7]), ([8, 7, 0, 1, 2, 3, 4, 5, 6, 7, 8], [0, 8])])
def spec_l11Count.B7 : List Nat := [0, 0, 0, 0, 12, 28, 0, 126, 255, 511]
theorem spec_l11Count.tab7 : rtab .any (opsOf Try.f54 7) = spec_l11Count.T7 := by kernel_rfl
theorem spec_l11Count.bits7 : waitsOk spec_l11Count.T7.2 spec_l11Count.B7 = true := by kernel_rfl
set_option maxHeartbeats 8000000 in
set_option maxRecDepth 100000 in
theorem spec_l11Count.calls (k : Nat) : ∀ (A0_0 : Option Addr) (c0_0 : Nat) (l0_0 : List (S67)) (a1 : Int) (a2 : Int) (r : Int) (w : World) (hr0_0 : Kd.C k67 w A0_0 l0_0.length l0_0) (hc0_0 : l0_0.length ≤ c0_0) (h : spec_l11Count.f k l0_0 a1 a2 = some r),
  Calls Try.prog 54 #[.agg #[.slice A0_0 l0_0.length c0_0], .int .i64 a1, .int .i64 a2] w fun e w' => e = .returned (.int .i64 r) ∧ Below w.heap.size w w' := by
 induction k using Nat.strongRecOn with
 | _ k ih =>
 intro A0_0 c0_0 l0_0 a1 a2 r w hr0_0 hc0_0 h
 cases k with
 | zero => exact absurd h (by simp [spec_l11Count.f])
 | succ k =>
 simp only [spec_l11Count.f] at h
 have hu30 := Try.underlying30; have HR0_0 := Aside0.mk hr0_0; have HC0_0 := Aside0.mk hc0_0; clear hr0_0 hc0_0; have HB := Aside0.mk (Below.refl w.heap.size w)
 have H : ((spec_l2Kids.f k l0_0 a1).bind fun t530 => (if (t530.length : Int) = 0 then (spec_l11Count.j0 k a2 t530 0 true l0_0) else ((spec_l11Fatal.f k l0_0 a1 a2).bind fun t533 => (spec_l11Count.j0 k a2 t530 0 t533 l0_0)))) = some r := h
 clear h; replace H := Option.bind_eq_some_iff.mp H
 obtain ⟨t530, A40, H⟩ := H
 replace H : (if (t530.length : Int) = 0 then (spec_l11Count.j0 k a2 t530 0 true l0_0) else ((spec_l11Fatal.f k l0_0 a1 a2).bind fun t533 => (spec_l11Count.j0 k a2 t530 0 t533 l0_0))) = some r := H
 have A4 := Aside0.mk A40; clear A40; have HC5 := Aside0.mk H; clear H
 go_enter Try.func54, Try.ntmps54
 go_upto_region 2 with (first | ((with_reducible refine gate_dst (N := 3) rfl ?_); refine box_event ?hg (N := 3) ?hd (cs := #[.slice A0_0 l0_0.length c0_0]) (t := 30) ?hr ?_; (case hd => rfl); (case hg => rfl); (case hr => exact ax31); intro gb529 hg w6 hbox hb; have n0_ := Aside0.mk (below_step ax32 hb); have n1_ := Aside0.mk (hbox); have n2_ := Aside0.mk ((ax33 : w.heap.size ≤ gb529)); have n3_ := Aside0.mk ((ax33 : w.heap.size ≤ gb529)); clear HB; have HB := n0_; have BK529 := n1_; have GW529 := n2_; have GE529 := n3_; clear n0_ n1_ n2_ n3_; clear hb hbox hg; have hcz7_0 : w6.cell? ⟨gb529, 0, none⟩ = some (.slice A0_0 l0_0.length c0_0) := (blk_cell BK529.out 0).trans rfl; have hfz7_0 := blk_frozen BK529.out 0) | ((with_reducible refine gate_callee (f := 56) rfl ?_); refine goesL_ (some 12) rfl rfl Try.func56 (by kernel_rfl) rfl #[.agg #[.slice A0_0 l0_0.length c0_0], .int .i64 a1] rfl ax34 ?_; (with_reducible refine (spec_l2Kids.calls k _ _ l0_0 a1 t530 _ ?side1 ?side2 A4.out).mono ?_); (case side1 => exact ax35); (case side2 => exact ax36); rintro e w8 ⟨v531, rfl, ho0, hb⟩; refine ⟨_, rfl, ?_⟩; have n0_ := Aside0.mk (Kd.R_lower ho0 (below_size ax224)); have n1_ := Aside0.mk (blk_below (g := gb529) (o := .cells #[.slice A0_0 l0_0.length c0_0] 30 (0, 0)) ax225 hb); have n2_ := Aside0.mk (below_step ax224 hb); clear BK529; clear HB; have HO532 := n0_; have BK529 := n1_; have HB := n2_; clear n0_ n1_ n2_; (try clear hb); (try clear hb2); (try clear hk); (try clear hi); (try clear ho0)))
 (try simp only [Act.put, List.setIfInBounds_toArray, List.set_cons_zero, List.set_cons_succ])
 go_cut [21] (fun v21 wc => ∃ (kq : Nat) (x21_4 : Bool), v21 = .bool x21_4 ∧ Aside0 (spec_l11Count.j0 kq a2 t530 0 x21_4 l0_0 = some r) ∧ Aside0 (kq ≤ k) ∧ Aside0 (Kd.R (Kd.int .i64) 3 wc w.heap.size (fun _ => True) v531 t530) ∧ Aside0 (wc.heap[gb529]? = some (.cells #[(.slice A0_0 l0_0.length c0_0)] 30 (0, 0))) ∧ Aside0 (Below w.heap.size w wc))
 case first =>
  have H := HC5.out; clear HC5
  by_cases c9 : (t530.length : Int) = 0
  ·rw [if_pos c9] at H
   have c9b0 : ((t530.length : Int) == 0) = true := beq_iff_eq.mpr c9
   have c9b1 : ((t530.length : Int) != 0) = false := bne_eq_false_iff_eq.mpr c9
   clear c9
   (first | rw [c9b0] | (simp only [i64_w, i32_w]; rw [c9b0]) | skip)
   have H' := Aside0.mk H
   clear H
   obtain ⟨Ao10, co10, eo10⟩ := Kd.R_slice HO532.out
   subst eo10
   go_wp2
   go_meet
   case rel => exact ⟨_, (true), ax37, H', ⟨by first | omega | exact Nat.le_refl _⟩, ⟨by (with_reducible repeat (first | apply Kd.R_alloc | apply Kd.R_drewN | apply Kd.R_drew)); exact HO532.out⟩, ⟨by (with_reducible repeat (first | refine blk_drewN ?_ _ | refine blk_drew ?_ | refine blk_alloc ?_ _)); exact BK529.out⟩, ⟨by repeat (first | (with_reducible first | exact HB.out | apply below_alloc | apply pw_below_drewN | apply below_drew1 | refine below_set ?_ GE529.out) | exact HB.out)⟩⟩
  ·rw [if_neg c9] at H
   have c9b0 : ((t530.length : Int) == 0) = false := beq_eq_false_iff_ne.mpr c9
   have c9b1 : ((t530.length : Int) != 0) = true := bne_iff_ne.mpr c9
   have c9b2 : ¬ (t530 = []) := fun h_ => c9 (by rw [h_]; rfl)
   (first | rw [c9b0] | (simp only [i64_w, i32_w]; rw [c9b0]) | skip)
   replace H := Option.bind_eq_some_iff.mp H
   obtain ⟨t533, A110, H⟩ := H
   replace H : (spec_l11Count.j0 k a2 t530 0 t533 l0_0) = some r := H
   have A11 := Aside0.mk A110; clear A110
   have H' := Aside0.mk H
   clear H
   obtain ⟨Ao12, co12, eo12⟩ := Kd.R_slice HO532.out
   subst eo12
   have hcz13_0 : w8.cell? ⟨gb529, 0, none⟩ = some (.slice A0_0 l0_0.length c0_0) := (blk_cell BK529.out 0).trans rfl
   have hfz13_0 := blk_frozen BK529.out 0
   go_wp2_with (first | (go_at_call 57; (with_reducible refine (spec_l11Fatal.calls k _ _ l0_0 a1 a2 t533 _ ?side1 ?side2 A11.out).mono ?_); (case side1 => exact ax35); (case side2 => exact ax36); rintro e w14 ⟨rfl, hb⟩; have n0_ := Aside0.mk (Kd.R_below (by (with_reducible repeat (first | apply Kd.R_alloc | apply Kd.R_drewN | apply Kd.R_drew)); exact HO532.out) hb); have n1_ := Aside0.mk (blk_below (g := gb529) (o := .cells #[.slice A0_0 l0_0.length c0_0] 30 (0, 0)) ax225 hb); have n2_ := Aside0.mk (below_step ax224 hb); clear HO532; clear BK529; clear HB; have HO532 := n0_; have BK529 := n1_; have HB := n2_; clear n0_ n1_ n2_; (try clear hb); (try clear hb2); (try clear hk); (try clear hi)))
   go_meet
   case rel => exact ⟨_, (t533), ax37, H', ⟨by first | omega | exact Nat.le_refl _⟩, ⟨by (with_reducible repeat (first | apply Kd.R_alloc | apply Kd.R_drewN | apply Kd.R_drew)); exact HO532.out⟩, ⟨by (with_reducible repeat (first | refine blk_drewN ?_ _ | refine blk_drew ?_ | refine blk_alloc ?_ _)); exact BK529.out⟩, ⟨by repeat (first | (with_reducible first | exact HB.out | apply below_alloc | apply pw_below_drewN | apply below_drew1 | refine below_set ?_ GE529.out) | exact HB.out)⟩⟩
 case rest =>
  clear HC5
  try clear p2
  try clear c5
  try clear c9
  try clear c9b0
  try clear c9b1
  try clear c9b2
  try clear hcz13_0
  try clear hcz7_0
  try clear hfz13_0
  try clear hfz7_0
  obtain ⟨kq, x21_4, rfl, HA, HJ4, HO_7, BK529, HB⟩ := hcut
  cases kq with
  | zero => exact absurd HA.out (by simp [spec_l11Count.j0])
  | succ kj4 =>
   have H := HA.out; clear HA
   simp only [spec_l11Count.j0] at H
   by_cases c15 : x21_4 = true
   ·subst c15
    have H1 : (some 1) = some r := by rw [if_pos rfl] at H; exact H
    clear H; have H := H1; clear H1
    obtain rfl := Option.some.inj H
    go_wp2
    go_ret
    exact ⟨by first | rfl | (simp [errW_none, errW_some] <;> rfl) | (simp [*, errW_none, errW_some] <;> rfl), by repeat (first | (with_reducible first | exact HB.out | apply below_alloc | apply pw_below_drewN | apply below_drew1 | refine below_set ?_ GE529.out) | exact HB.out)⟩
   ·replace c15 := Bool.eq_false_iff.mpr c15
    subst c15
    have H1 : (spec_l11Count.l0 kj4 a2 t530 0 0 l0_0) = some r := by rw [if_neg (show ¬ (false = true) by decide)] at H; exact H
    clear H; have H := H1; clear H1
    have H' := Aside0.mk H
    clear H
    go_wp2
    go_loopg [8, 9] kj4 (fun kq v8 v9 w' => ∃ (x8_2 : Int) (x9_2 : Int), v8 = .int .i64 x8_2 ∧ v9 = .int .i64 x9_2 ∧ Aside0 (spec_l11Count.l0 kq a2 t530 x8_2 x9_2 l0_0 = some r) ∧ Aside0 (kq ≤ kj4) ∧ Aside0 (Kd.R (Kd.int .i64) 3 w' w.heap.size (fun _ => True) v531 t530) ∧ Aside0 (w'.heap[gb529]? = some (.cells #[(.slice A0_0 l0_0.length c0_0)] 30 (0, 0))) ∧ Aside0 (Below w.heap.size w w'))
    case atStart => exact ⟨(0), (0), ax37, ax37, H', ⟨Nat.le_refl _⟩, ⟨by (with_reducible repeat (first | apply Kd.R_alloc | apply Kd.R_drewN | apply Kd.R_drew)); exact HO_7.out⟩, ⟨by (with_reducible repeat (first | refine blk_drewN ?_ _ | refine blk_drew ?_ | refine blk_alloc ?_ _)); exact BK529.out⟩, ⟨by repeat (first | (with_reducible first | exact HB.out | apply below_alloc | apply pw_below_drewN | apply below_drew1 | refine below_set ?_ GE529.out) | exact HB.out)⟩⟩
    case round =>
     clear H'
     try clear c1
     try clear p2
     try clear c5
     try clear c9
     try clear c9b0
     try clear c9b1
     try clear c9b2
     try clear c15
     try clear hcz13_0
     try clear hcz7_0
     try clear hfz13_0
     try clear hfz7_0
     try clear p2
     obtain ⟨x8_2, x9_2, rfl, rfl, HA, HK2, HO_7, BK529, HB⟩ := hrel
     cases gk with
     | zero => exact absurd HA.out (by simp [spec_l11Count.l0])
     | succ k2 =>
      have H := HA.out; clear HA
      simp only [spec_l11Count.l0] at H
      by_cases c16 : x9_2 < (t530.length : Int)
      ·rw [if_pos c16] at H
       have c16b0 : decide (x9_2 < (t530.length : Int)) = true := decide_eq_true c16
       clear c16
       by_cases c17 : 0 ≤ x9_2
       ·rw [if_pos c17] at H
        have c17b0 : decide (0 ≤ x9_2) = true := decide_eq_true c17
        clear c17; replace H := Option.bind_eq_some_iff.mp H
        obtain ⟨t535, A180, H⟩ := H
        replace H : (spec_l11Count.l0 k2 a2 t530 (wrap64 (x8_2 + t535)) (wrap64 (x9_2 + 1)) l0_0) = some r := H
        have A18 := Aside0.mk A180; clear A180
        have H' := Aside0.mk H
        clear H
        obtain ⟨Ao19, co19, eo19⟩ := Kd.R_slice HO_7.out
        subst eo19
        try go_wp2
        have n0_ := Aside0.mk (Kd.R_drew HO_7.out); have n1_ := Aside0.mk (blk_drew BK529.out); have n2_ := Aside0.mk (below_drew1 HB.out); clear HO_7; clear BK529; clear HB; have HO_7 := n0_; have BK529 := n1_; have HB := n2_; clear n0_ n1_ n2_
        have p534 : 0 ≤ (x9_2 : Int) := of_decide_eq_true ax38
        have q534 : x9_2 < (t530.length : Int) := of_decide_eq_true ax38
        obtain ⟨ad534, e534, hx534_0⟩ := Kd.at_int (Kd.R_reads' HO_7.out).2.2 x9_2 p534 q534
        cases e534; replace p534 := eq_true p534; replace q534 := eq_true q534
        refine start_ (n := 10) (S := fun w' => w'.cell? ⟨gb529, 0, none⟩ = some (.slice A0_0 l0_0.length c0_0) ∧ w'.cell? (ad534.add (x9_2).toNat) = some (.int .i64 (rd t530 x9_2))) (ds := []) (ob 10 0) (by kernel_rfl) rfl rfl ⟨(blk_cell BK529.out 0).trans rfl, hx534_0⟩ (fun hHeld => ?_); refine with_tabW spec_l11Count.tab7 spec_l11Count.bits7 (fun HT_ HW_ => ?_)
        generalize wr.drew = w20 at HO_7 BK529 HB hx534_0 hHeld ⊢
        refine pure_ (i := 0) (N := some 28) (v := ?_) (a' := ?_) (ob 10 1) rfl rfl (any_of HT_.out (by kernel_rfl)) (fun _ _ _ h => h) (Or.inl ⟨by rfl, ?_⟩) ?_ ?_; rotate_left; exact ax5; rotate_left; exact ax6
        refine pure_ (i := 2) (N := some 30) (v := ?_) (a' := ?_) (ob 10 5) rfl rfl (any_of HT_.out (by kernel_rfl)) (fun _ _ _ h => h) (Or.inl ⟨by rfl, ?_⟩) ?_ ?_; rotate_left; exact ax5; rotate_left; exact ax6
        refine pure_ (i := 3) (N := some 31) (v := ?_) (a' := ?_) (ob 10 13) rfl rfl (any_of HT_.out (by kernel_rfl)) (fun _ _ _ h => h) (Or.inl ⟨by rfl, ?_⟩) ?_ ?_; rotate_left; exact ax5; rotate_left; exact ax6
        refine pure_ (i := 4) (N := some 32) (v := ?_) (a' := ?_) (ob 10 29) rfl rfl (any_of HT_.out (by kernel_rfl)) (fun _ _ _ h => h) (Or.inl ⟨by rfl, ?_⟩) ?_ ?_; rotate_left; exact ax5; rotate_left; exact ax6
        refine pure_ (i := 6) (N := some 34) (v := ?_) (a' := ?_) (ob 10 93) rfl rfl (any_of HT_.out (by kernel_rfl)) (fun _ _ _ h => h) (Or.inl ⟨by rfl, ?_⟩) ?_ ?_; rotate_left; exact ax5; rotate_left; exact ax6
        refine take_ (i := 1) (N := some 29) (v := ?_) (a' := ?_) (ob 10 95) rfl rfl (take_ofW HT_.out HW_.out (by kernel_rfl)) (fun _ _ _ h => h) (Or.inl ⟨by rfl, ?_⟩) hHeld ?_ ?_; rotate_left; exact ax17; rotate_left; exact ax6
        refine take_ (i := 5) (N := some 33) (v := ?_) (a' := ?_) (ob 10 127) rfl rfl (take_ofW HT_.out HW_.out (by kernel_rfl)) (fun _ _ _ h => h) (Or.inl ⟨by rfl, ?_⟩) hHeld ?_ ?_; rotate_left; exact ax17; rotate_left; exact ax6
        refine one_ (i := 7) (N := some 35) (ob 10 255) rfl rfl (one_of HT_.out (by kernel_rfl)) (by decide) (fun K hK => ?_)
        refine goes_ Try.func54 (by kernel_rfl) rfl #[.agg #[.slice A0_0 l0_0.length c0_0], .int .i64 (rd t530 x9_2), .int .i64 a2] (by rfl) rfl rfl ax34 ?_
        with_reducible refine (ih k2 ax226 _ _ l0_0 (rd t530 x9_2) a2 t535 _ ?side1 ?side2 A18.out).mono ?_
        (case side1 => exact ax35)
        (case side2 => exact ax36)
        rintro e w21 ⟨rfl, hb⟩
        have HS1_ := (hb.cell (World.block_lt_of_cell? _ _ (hHeld.2))).trans (hHeld.2)
        refine ⟨_, rfl, ?_⟩
        have n0_ := Aside0.mk (Kd.R_below ax227 hb)
        have n1_ := Aside0.mk (blk_below (g := gb529) (o := .cells #[.slice A0_0 l0_0.length c0_0] 30 (0, 0)) ax225 hb)
        have n2_ := Aside0.mk (below_step ax224 hb); clear HO_7; clear BK529; clear HB; have HO_7 := n0_; have BK529 := n1_; have HB := n2_; clear n0_ n1_ n2_; (try clear hb); (try clear hb2); (try clear hk); (try clear hi)
        refine hK.out _ _ ⟨(blk_cell BK529.out 0).trans rfl, HS1_⟩ (fun hHeld => ?_)
        clear hK K
        refine norm_ (a' := ?_) ?_ ?_
        rotate_left
        ·show Act.put _ (some 35) _ = _
         simp only [Act.put, List.setIfInBounds_toArray, List.set_cons_zero, List.set_cons_succ, i64_w, i32_w]
         rfl
        refine pure_ (i := 8) (N := some 36) (v := ?_) (a' := ?_) (ob 10 511) rfl rfl (any_of HT_.out (by kernel_rfl)) (fun _ _ _ h => h) (Or.inl ⟨by rfl, ?_⟩) ?_ ?_; rotate_left; exact ax5; rotate_left; exact ax6
        refine pure_ (i := 9) (N := some 8) (v := ?_) (a' := ?_) (ob 10 1023) rfl rfl (any_of HT_.out (by kernel_rfl)) (fun _ _ _ h => h) (Or.inl ⟨by rfl, ?_⟩) ?_ ?_; rotate_left; exact ax5; rotate_left; exact ax6
        refine done_ (done_of HT_.out (by kernel_rfl)) ?_
        try go_wp2
        go_roundg k2
        case measure => have := HJ4.out; have := HK2.out; omega
        case rel => exact ⟨(wrap64 (x8_2 + t535)), (wrap64 (x9_2 + 1)), ax37, ax37, H', ⟨by have := HJ4.out; have := HK2.out; omega⟩, ⟨by (with_reducible repeat (first | apply Kd.R_alloc | apply Kd.R_drewN | apply Kd.R_drew)); exact HO_7.out⟩, ⟨by (with_reducible repeat (first | refine blk_drewN ?_ _ | refine blk_drew ?_ | refine blk_alloc ?_ _)); exact BK529.out⟩, ⟨by repeat (first | (with_reducible first | exact HB.out | apply below_alloc | apply pw_below_drewN | apply below_drew1 | refine below_set ?_ GE529.out) | exact HB.out)⟩⟩
       ·rw [if_neg c17] at H
        exact absurd H (by simp)
      ·rw [if_neg c16] at H
       have c16b0 : decide (x9_2 < (t530.length : Int)) = false := decide_eq_false c16
       clear c16
       obtain rfl := Option.some.inj H
       obtain ⟨Ao22, co22, eo22⟩ := Kd.R_slice HO_7.out
       subst eo22
       go_wp2
       go_ret
       exact ⟨by first | rfl | (simp [errW_none, errW_some] <;> rfl) | (simp [*, errW_none, errW_some] <;> rfl), by repeat (first | (with_reducible first | exact HB.out | apply below_alloc | apply pw_below_drewN | apply below_drew1 | refine below_set ?_ GE529.out) | exact HB.out)⟩

/-! ### spec_CountGames: function 24 -/
def spec_CountGames.f (k : Nat) (l0_0 : List (S67)) (a1 : Int) (a2 : Int) : Option (Int × Bool) := (spec_l11Good.f k l0_0 a1 a2).bind fun t537 => (if t537 = true then ((spec_l11Open.f k l0_0 a1 a2).bind fun t538 => (if t538 = true then ((spec_l11Count.f k l0_0 a1 a2).bind fun t539 => (some (t539, true))) else (some (0, false)))) else (some (0, false)))
theorem spec_CountGames.mono : ∀ a0 a1 a2 k, LeO (spec_CountGames.f k a0 a1 a2) (spec_CountGames.f (k + 1) a0 a1 a2) := by
 intro a0 a1 a2 k
 unfold spec_CountGames.f
 repeat' first
   | (with_reducible exact spec_l11Count.mono _ _ _ _)
   | (with_reducible exact spec_l11Good.mono _ _ _ _)
   | (with_reducible exact spec_l11Open.mono _ _ _ _)
   | (with_reducible exact LeO.refl _)
   | (with_reducible exact LeO.none _)
   | (with_reducible refine LeO.ite ?_ ?_)
   | (with_reducible refine LeO.bind ?_ (fun _ => ?_))
   | exact spec_l11Count.mono _ _ _ _
   | exact spec_l11Good.mono _ _ _ _
   | exact spec_l11Open.mono _ _ _ _
   | exact LeO.none _
   | refine LeO.ite ?_ ?_
   | refine LeO.bind ?_ (fun _ => ?_)
set_option maxHeartbeats 8000000 in
set_option maxRecDepth 100000 in
theorem spec_CountGames.calls (k : Nat) (A0_0 : Option Addr) (c0_0 : Nat) (l0_0 : List (S67)) (a1 : Int) (a2 : Int) (r1 : Int) (r2 : Bool) (w : World) (hr0_0 : Kd.C k67 w A0_0 l0_0.length l0_0) (hc0_0 : l0_0.length ≤ c0_0) (h : spec_CountGames.f k l0_0 a1 a2 = some (r1, r2)) :
  Calls Try.prog 24 #[.agg #[.slice A0_0 l0_0.length c0_0], .int .i64 a1, .int .i64 a2] w fun e w' => e = .returned (.tuple #[.int .i64 r1, .bool r2]) ∧ Below w.heap.size w w' := by
 have hu30 := Try.underlying30; have HR0_0 := Aside0.mk hr0_0; have HC0_0 := Aside0.mk hc0_0; clear hr0_0 hc0_0; have HB := Aside0.mk (Below.refl w.heap.size w)
 have H : ((spec_l11Good.f k l0_0 a1 a2).bind fun t537 => (if t537 = true then ((spec_l11Open.f k l0_0 a1 a2).bind fun t538 => (if t538 = true then ((spec_l11Count.f k l0_0 a1 a2).bind fun t539 => (some (t539, true))) else (some (0, false)))) else (some (0, false)))) = some (r1, r2) := h
 clear h; replace H := Option.bind_eq_some_iff.mp H
 obtain ⟨t537, A40, H⟩ := H
 replace H : (if t537 = true then ((spec_l11Open.f k l0_0 a1 a2).bind fun t538 => (if t538 = true then ((spec_l11Count.f k l0_0 a1 a2).bind fun t539 => (some (t539, true))) else (some (0, false)))) else (some (0, false))) = some (r1, r2) := H
 have A4 := Aside0.mk A40; clear A40
 by_cases c5 : t537 = true
 ·subst c5
  have H1 : ((spec_l11Open.f k l0_0 a1 a2).bind fun t538 => (if t538 = true then ((spec_l11Count.f k l0_0 a1 a2).bind fun t539 => (some (t539, true))) else (some (0, false)))) = some (r1, r2) := by rw [if_pos rfl] at H; exact H
  clear H; have H := H1; clear H1; replace H := Option.bind_eq_some_iff.mp H
  obtain ⟨t538, A60, H⟩ := H
  replace H : (if t538 = true then ((spec_l11Count.f k l0_0 a1 a2).bind fun t539 => (some (t539, true))) else (some (0, false))) = some (r1, r2) := H
  have A6 := Aside0.mk A60; clear A60
  by_cases c7 : t538 = true
  ·subst c7
   have H1 : ((spec_l11Count.f k l0_0 a1 a2).bind fun t539 => (some (t539, true))) = some (r1, r2) := by rw [if_pos rfl] at H; exact H
   clear H; have H := H1; clear H1; replace H := Option.bind_eq_some_iff.mp H
   obtain ⟨t539, A80, H⟩ := H
   replace H : (some (t539, true)) = some (r1, r2) := H
   have A8 := Aside0.mk A80; clear A80
   simp only [Option.some.injEq, Prod.mk.injEq] at H
   obtain ⟨rfl, rfl⟩ := H
   go_enter Try.func24, Try.ntmps24
   go_wp2_with (first | ((with_reducible refine gate_dst (N := 3) rfl ?_); refine box_event ?hg (N := 3) ?hd (cs := #[.slice A0_0 l0_0.length c0_0]) (t := 30) ?hr ?_; (case hd => rfl); (case hg => rfl); (case hr => exact ax31); intro gb536 hg w9 hbox hb; have n0_ := Aside0.mk (below_step ax32 hb); have n1_ := Aside0.mk (hbox); have n2_ := Aside0.mk ((ax33 : w.heap.size ≤ gb536)); have n3_ := Aside0.mk ((ax33 : w.heap.size ≤ gb536)); clear HB; have HB := n0_; have BK536 := n1_; have GW536 := n2_; have GE536 := n3_; clear n0_ n1_ n2_ n3_; clear hb hbox hg; have hcz10_0 : w9.cell? ⟨gb536, 0, none⟩ = some (.slice A0_0 l0_0.length c0_0) := (blk_cell BK536.out 0).trans rfl; have hfz10_0 := blk_frozen BK536.out 0) | ((with_reducible refine gate_callee (f := 41) rfl ?_); refine goesL_ (some 11) rfl rfl Try.func41 (by kernel_rfl) rfl #[.agg #[.slice A0_0 l0_0.length c0_0], .int .i64 a1, .int .i64 a2] rfl ax34 ?_; (with_reducible refine (spec_l11Good.calls k _ _ l0_0 a1 a2 true _ ?side1 ?side2 A4.out).mono ?_); (case side1 => exact ax35); (case side2 => exact ax36); rintro e w11 ⟨rfl, hb⟩; refine ⟨_, rfl, ?_⟩; have n0_ := Aside0.mk (blk_below (g := gb536) (o := .cells #[.slice A0_0 l0_0.length c0_0] 30 (0, 0)) ax228 hb); have n1_ := Aside0.mk (below_step ax229 hb); clear BK536; clear HB; have BK536 := n0_; have HB := n1_; clear n0_ n1_; (try clear hb); (try clear hb2); (try clear hk); (try clear hi); have hcz12_0 : w11.cell? ⟨gb536, 0, none⟩ = some (.slice A0_0 l0_0.length c0_0) := (blk_cell BK536.out 0).trans rfl; have hfz12_0 := blk_frozen BK536.out 0) | (go_at_call 42; (with_reducible refine (spec_l11Open.calls k _ _ l0_0 a1 a2 true _ ?side1 ?side2 A6.out).mono ?_); (case side1 => exact ax35); (case side2 => exact ax36); rintro e w13 ⟨rfl, hb⟩; have n0_ := Aside0.mk (blk_below (g := gb536) (o := .cells #[.slice A0_0 l0_0.length c0_0] 30 (0, 0)) ax228 hb); have n1_ := Aside0.mk (below_step ax229 hb); clear BK536; clear HB; have BK536 := n0_; have HB := n1_; clear n0_ n1_; (try clear hb); (try clear hb2); (try clear hk); (try clear hi); have hcz14_0 : w13.cell? ⟨gb536, 0, none⟩ = some (.slice A0_0 l0_0.length c0_0) := (blk_cell BK536.out 0).trans rfl; have hfz14_0 := blk_frozen BK536.out 0) | ((with_reducible refine gate_callee (f := 54) rfl ?_); refine goesL_ (some 23) rfl rfl Try.func54 (by kernel_rfl) rfl #[.agg #[.slice A0_0 l0_0.length c0_0], .int .i64 a1, .int .i64 a2] rfl ax34 ?_; (with_reducible refine (spec_l11Count.calls k _ _ l0_0 a1 a2 t539 _ ?side1 ?side2 A8.out).mono ?_); (case side1 => exact ax35); (case side2 => exact ax36); rintro e w15 ⟨rfl, hb⟩; refine ⟨_, rfl, ?_⟩; have n0_ := Aside0.mk (blk_below (g := gb536) (o := .cells #[.slice A0_0 l0_0.length c0_0] 30 (0, 0)) ax228 hb); have n1_ := Aside0.mk (below_step ax229 hb); clear BK536; clear HB; have BK536 := n0_; have HB := n1_; clear n0_ n1_; (try clear hb); (try clear hb2); (try clear hk); (try clear hi)))
   go_ret2
   exact ⟨by first | rfl | (simp [errW_none, errW_some] <;> rfl) | (simp [*, errW_none, errW_some] <;> rfl), by repeat (first | (with_reducible first | exact HB.out | apply below_alloc | apply pw_below_drewN | apply below_drew1 | refine below_set ?_ GE536.out) | exact HB.out)⟩
  ·replace c7 := Bool.eq_false_iff.mpr c7
   subst c7
   have H1 : (some (0, false)) = some (r1, r2) := by rw [if_neg (show ¬ (false = true) by decide)] at H; exact H
   clear H; have H := H1; clear H1
   simp only [Option.some.injEq, Prod.mk.injEq] at H
   obtain ⟨rfl, rfl⟩ := H
   go_enter Try.func24, Try.ntmps24
   go_wp2_with (first | ((with_reducible refine gate_dst (N := 3) rfl ?_); refine box_event ?hg (N := 3) ?hd (cs := #[.slice A0_0 l0_0.length c0_0]) (t := 30) ?hr ?_; (case hd => rfl); (case hg => rfl); (case hr => exact ax31); intro gb536 hg w16 hbox hb; have n0_ := Aside0.mk (below_step ax32 hb); have n1_ := Aside0.mk (hbox); have n2_ := Aside0.mk ((ax33 : w.heap.size ≤ gb536)); have n3_ := Aside0.mk ((ax33 : w.heap.size ≤ gb536)); clear HB; have HB := n0_; have BK536 := n1_; have GW536 := n2_; have GE536 := n3_; clear n0_ n1_ n2_ n3_; clear hb hbox hg; have hcz17_0 : w16.cell? ⟨gb536, 0, none⟩ = some (.slice A0_0 l0_0.length c0_0) := (blk_cell BK536.out 0).trans rfl; have hfz17_0 := blk_frozen BK536.out 0) | ((with_reducible refine gate_callee (f := 41) rfl ?_); refine goesL_ (some 11) rfl rfl Try.func41 (by kernel_rfl) rfl #[.agg #[.slice A0_0 l0_0.length c0_0], .int .i64 a1, .int .i64 a2] rfl ax34 ?_; (with_reducible refine (spec_l11Good.calls k _ _ l0_0 a1 a2 true _ ?side1 ?side2 A4.out).mono ?_); (case side1 => exact ax35); (case side2 => exact ax36); rintro e w18 ⟨rfl, hb⟩; refine ⟨_, rfl, ?_⟩; have n0_ := Aside0.mk (blk_below (g := gb536) (o := .cells #[.slice A0_0 l0_0.length c0_0] 30 (0, 0)) ax228 hb); have n1_ := Aside0.mk (below_step ax229 hb); clear BK536; clear HB; have BK536 := n0_; have HB := n1_; clear n0_ n1_; (try clear hb); (try clear hb2); (try clear hk); (try clear hi); have hcz19_0 : w18.cell? ⟨gb536, 0, none⟩ = some (.slice A0_0 l0_0.length c0_0) := (blk_cell BK536.out 0).trans rfl; have hfz19_0 := blk_frozen BK536.out 0) | (go_at_call 42; (with_reducible refine (spec_l11Open.calls k _ _ l0_0 a1 a2 false _ ?side1 ?side2 A6.out).mono ?_); (case side1 => exact ax35); (case side2 => exact ax36); rintro e w20 ⟨rfl, hb⟩; have n0_ := Aside0.mk (blk_below (g := gb536) (o := .cells #[.slice A0_0 l0_0.length c0_0] 30 (0, 0)) ax228 hb); have n1_ := Aside0.mk (below_step ax229 hb); clear BK536; clear HB; have BK536 := n0_; have HB := n1_; clear n0_ n1_; (try clear hb); (try clear hb2); (try clear hk); (try clear hi)))
   go_ret2
   exact ⟨by first | rfl | (simp [errW_none, errW_some] <;> rfl) | (simp [*, errW_none, errW_some] <;> rfl), by repeat (first | (with_reducible first | exact HB.out | apply below_alloc | apply pw_below_drewN | apply below_drew1 | refine below_set ?_ GE536.out) | exact HB.out)⟩
 ·replace c5 := Bool.eq_false_iff.mpr c5
  subst c5
  have H1 : (some (0, false)) = some (r1, r2) := by rw [if_neg (show ¬ (false = true) by decide)] at H; exact H
  clear H; have H := H1; clear H1
  simp only [Option.some.injEq, Prod.mk.injEq] at H
  obtain ⟨rfl, rfl⟩ := H
  go_enter Try.func24, Try.ntmps24
  go_wp2_with (first | ((with_reducible refine gate_dst (N := 3) rfl ?_); refine box_event ?hg (N := 3) ?hd (cs := #[.slice A0_0 l0_0.length c0_0]) (t := 30) ?hr ?_; (case hd => rfl); (case hg => rfl); (case hr => exact ax31); intro gb536 hg w21 hbox hb; have n0_ := Aside0.mk (below_step ax32 hb); have n1_ := Aside0.mk (hbox); have n2_ := Aside0.mk ((ax33 : w.heap.size ≤ gb536)); have n3_ := Aside0.mk ((ax33 : w.heap.size ≤ gb536)); clear HB; have HB := n0_; have BK536 := n1_; have GW536 := n2_; have GE536 := n3_; clear n0_ n1_ n2_ n3_; clear hb hbox hg; have hcz22_0 : w21.cell? ⟨gb536, 0, none⟩ = some (.slice A0_0 l0_0.length c0_0) := (blk_cell BK536.out 0).trans rfl; have hfz22_0 := blk_frozen BK536.out 0) | ((with_reducible refine gate_callee (f := 41) rfl ?_); refine goesL_ (some 11) rfl rfl Try.func41 (by kernel_rfl) rfl #[.agg #[.slice A0_0 l0_0.length c0_0], .int .i64 a1, .int .i64 a2] rfl ax34 ?_; (with_reducible refine (spec_l11Good.calls k _ _ l0_0 a1 a2 false _ ?side1 ?side2 A4.out).mono ?_); (case side1 => exact ax35); (case side2 => exact ax36); rintro e w23 ⟨rfl, hb⟩; refine ⟨_, rfl, ?_⟩; have n0_ := Aside0.mk (blk_below (g := gb536) (o := .cells #[.slice A0_0 l0_0.length c0_0] 30 (0, 0)) ax228 hb); have n1_ := Aside0.mk (below_step ax229 hb); clear BK536; clear HB; have BK536 := n0_; have HB := n1_; clear n0_ n1_; (try clear hb); (try clear hb2); (try clear hk); (try clear hi)))
  go_ret2
  exact ⟨by first | rfl | (simp [errW_none, errW_some] <;> rfl) | (simp [*, errW_none, errW_some] <;> rfl), by repeat (first | (with_reducible first | exact HB.out | apply below_alloc | apply pw_below_drewN | apply below_drew1 | refine below_set ?_ GE536.out) | exact HB.out)⟩

/-! ### impl_game_games: function 55 -/
mutual
def impl_game_games.j0 : Nat → List Int → Bool → List (S67) → Int → List ByteArray → Option (Int)
 | 0, _, _, _, _, _ => none
 | k + 1, x5, x22, x541000, x541001, x541002 => if x22 = true then (some 1) else (impl_game_games.l0 k 0 x5 (x5.length : Int) 0 x541000 x541001 x541002)
def impl_game_games.l0 : Nat → Int → List Int → Int → Int → List (S67) → Int → List ByteArray → Option (Int)
 | 0, _, _, _, _, _, _, _ => none
 | k + 1, x6, x23, x24, x25, x541000, x541001, x541002 => if x25 < x24 then (if 0 ≤ x25 then (if x25 < (x23.length : Int) then ((impl_game_games.f k x541000 x541001 x541002 (rd x23 x25)).bind fun t546 => (impl_game_games.l0 k (wrap64 (x6 + t546)) x23 x24 (wrap64 (x25 + 1)) x541000 x541001 x541002)) else (none)) else (none)) else (some x6)
def impl_game_games.f : Nat → List (S67) → Int → List ByteArray → Int → Option (Int)
 | 0, _, _, _, _ => none
 | k + 1, l0_0, a0_1, l0_2, a1 => (impl_Trie_kids.f k l0_0 a1).bind fun t541 => ((impl_game_isFatal.f l0_0 a0_1 l0_2 a1).bind fun t544 => (if t544 = true then (impl_game_games.j0 k t541 true l0_0 a0_1 l0_2) else (impl_game_games.j0 k t541 ((t541.length : Int) == 0) l0_0 a0_1 l0_2)))
end
theorem impl_game_games.mono_l : ∀ k, (∀ y0 y1 y2 y3, LeO (impl_game_games.f k y0 y1 y2 y3) (impl_game_games.f (k + 1) y0 y1 y2 y3)) ∧ (∀ y0 y1 y2 y3 y4, LeO (impl_game_games.j0 k y0 y1 y2 y3 y4) (impl_game_games.j0 (k + 1) y0 y1 y2 y3 y4)) ∧ (∀ y0 y1 y2 y3 y4 y5 y6, LeO (impl_game_games.l0 k y0 y1 y2 y3 y4 y5 y6) (impl_game_games.l0 (k + 1) y0 y1 y2 y3 y4 y5 y6))
 | 0 => ⟨fun _ _ _ _ r h => by simp [impl_game_games.f] at h, fun _ _ _ _ _ r h => by simp [impl_game_games.j0] at h, fun _ _ _ _ _ _ _ r h => by simp [impl_game_games.l0] at h⟩
 | k + 1 => by
  obtain ⟨ih0, ih1, ih2⟩ := impl_game_games.mono_l k
  refine ⟨?_, ?_, ?_⟩
  ·intro y0 y1 y2 y3
   unfold impl_game_games.f
   repeat' first
   | (with_reducible exact ih0 _ _ _ _)
   | (with_reducible exact ih1 _ _ _ _ _)
   | (with_reducible exact ih2 _ _ _ _ _ _ _)
   | (with_reducible exact impl_Trie_kids.mono _ _ _)
   | (with_reducible exact LeO.refl _)
   | (with_reducible exact LeO.none _)
   | (with_reducible refine LeO.ite ?_ ?_)
   | (with_reducible refine LeO.bind ?_ (fun _ => ?_))
   | exact ih0 _ _ _ _
   | exact ih1 _ _ _ _ _
   | exact ih2 _ _ _ _ _ _ _
   | exact impl_Trie_kids.mono _ _ _
   | exact LeO.none _
   | refine LeO.ite ?_ ?_
   | refine LeO.bind ?_ (fun _ => ?_)
  ·intro y0 y1 y2 y3 y4
   unfold impl_game_games.j0
   repeat' first
   | (with_reducible exact ih0 _ _ _ _)
   | (with_reducible exact ih1 _ _ _ _ _)
   | (with_reducible exact ih2 _ _ _ _ _ _ _)
   | (with_reducible exact impl_Trie_kids.mono _ _ _)
   | (with_reducible exact LeO.refl _)
   | (with_reducible exact LeO.none _)
   | (with_reducible refine LeO.ite ?_ ?_)
   | (with_reducible refine LeO.bind ?_ (fun _ => ?_))
   | exact ih0 _ _ _ _
   | exact ih1 _ _ _ _ _
   | exact ih2 _ _ _ _ _ _ _
   | exact impl_Trie_kids.mono _ _ _
   | exact LeO.none _
   | refine LeO.ite ?_ ?_
   | refine LeO.bind ?_ (fun _ => ?_)
  ·intro y0 y1 y2 y3 y4 y5 y6
   unfold impl_game_games.l0
   repeat' first
   | (with_reducible exact ih0 _ _ _ _)
   | (with_reducible exact ih1 _ _ _ _ _)
   | (with_reducible exact ih2 _ _ _ _ _ _ _)
   | (with_reducible exact impl_Trie_kids.mono _ _ _)
   | (with_reducible exact LeO.refl _)
   | (with_reducible exact LeO.none _)
   | (with_reducible refine LeO.ite ?_ ?_)
   | (with_reducible refine LeO.bind ?_ (fun _ => ?_))
   | exact ih0 _ _ _ _
   | exact ih1 _ _ _ _ _
   | exact ih2 _ _ _ _ _ _ _
   | exact impl_Trie_kids.mono _ _ _
   | exact LeO.none _
   | refine LeO.ite ?_ ?_
   | refine LeO.bind ?_ (fun _ => ?_)
theorem impl_game_games.mono : ∀ a0 a1 a2 a3 k, LeO (impl_game_games.f k a0 a1 a2 a3) (impl_game_games.f (k + 1) a0 a1 a2 a3) := by
 intro a0 a1 a2 a3 k
 obtain ⟨ih0, ih1, ih2⟩ := impl_game_games.mono_l k
 exact ih0 a0 a1 a2 a3
set_option maxHeartbeats 8000000 in
set_option maxRecDepth 100000 in
theorem impl_game_games.calls (k : Nat) : ∀ (G0 : Nat) (A0_0 : Option Addr) (c0_0 : Nat) (l0_0 : List (S67)) (a0_1 : Int) (A0_2 : Option Addr) (c0_2 : Nat) (l0_2 : List ByteArray) (a1 : Int) (r : Int) (w : World) (hr0_0 : Kd.C k67 w A0_0 l0_0.length l0_0) (hc0_0 : l0_0.length ≤ c0_0) (hr0_2 : Kd.C Kd.string w A0_2 l0_2.length l0_2) (hc0_2 : l0_2.length ≤ c0_2) (hb0 : w.heap[G0]? = some (.cells #[.slice A0_0 l0_0.length c0_0, .int .i64 a0_1, .slice A0_2 l0_2.length c0_2] 69 (0, 0))) (h : impl_game_games.f k l0_0 a0_1 l0_2 a1 = some r),
  Calls Try.prog 55 #[.pointer (some ⟨G0, 0, none⟩), .int .i64 a1] w fun e w' => e = .returned (.int .i64 r) ∧ Below w.heap.size w w' := by
 induction k using Nat.strongRecOn with
 | _ k ih =>
 intro G0 A0_0 c0_0 l0_0 a0_1 A0_2 c0_2 l0_2 a1 r w hr0_0 hc0_0 hr0_2 hc0_2 hb0 h
 cases k with
 | zero => exact absurd h (by simp [impl_game_games.f])
 | succ k =>
 simp only [impl_game_games.f] at h
 have hu30 := Try.underlying30; have HR0_0 := Aside0.mk hr0_0; have HC0_0 := Aside0.mk hc0_0; clear hr0_0 hc0_0; have HR0_2 := Aside0.mk hr0_2; have HC0_2 := Aside0.mk hc0_2; clear hr0_2 hc0_2; have BK540 := Aside0.mk hb0; clear hb0; have HB := Aside0.mk (Below.refl w.heap.size w)
 have H : ((impl_Trie_kids.f k l0_0 a1).bind fun t541 => ((impl_game_isFatal.f l0_0 a0_1 l0_2 a1).bind fun t544 => (if t544 = true then (impl_game_games.j0 k t541 true l0_0 a0_1 l0_2) else (impl_game_games.j0 k t541 ((t541.length : Int) == 0) l0_0 a0_1 l0_2)))) = some r := h
 clear h; replace H := Option.bind_eq_some_iff.mp H
 obtain ⟨t541, A30, H⟩ := H
 replace H : ((impl_game_isFatal.f l0_0 a0_1 l0_2 a1).bind fun t544 => (if t544 = true then (impl_game_games.j0 k t541 true l0_0 a0_1 l0_2) else (impl_game_games.j0 k t541 ((t541.length : Int) == 0) l0_0 a0_1 l0_2))) = some r := H
 have A3 := Aside0.mk A30; clear A30; have HC4 := Aside0.mk H; clear H
 have hcz5_0 : w.cell? ⟨G0, 0, none⟩ = some (.slice A0_0 l0_0.length c0_0) := (blk_cell BK540.out 0).trans rfl
 have hcz5_1 : w.cell? ⟨G0, 1, none⟩ = some (.int .i64 a0_1) := (blk_cell BK540.out 1).trans rfl
 have hcz5_2 : w.cell? ⟨G0, 2, none⟩ = some (.slice A0_2 l0_2.length c0_2) := (blk_cell BK540.out 2).trans rfl
 have hfz5_0 := blk_frozen BK540.out 0; have hfz5_1 := blk_frozen BK540.out 1; have hfz5_2 := blk_frozen BK540.out 2
 go_enter Try.func55, Try.ntmps55
 go_upto_region 2 with (first | ((with_reducible refine gate_callee (f := 59) rfl ?_); refine goesL_ (some 14) rfl rfl Try.func59 (by kernel_rfl) rfl #[.agg #[.slice A0_0 l0_0.length c0_0], .int .i64 a1] rfl ax34 ?_; (with_reducible refine (impl_Trie_kids.calls k _ _ l0_0 a1 t541 _ ?side1 ?side2 A3.out).mono ?_); (case side1 => exact ax230); (case side2 => exact ax36); rintro e w6 ⟨v542, rfl, ho0, hb⟩; refine ⟨_, rfl, ?_⟩; have n0_ := Aside0.mk (Kd.R_lower ho0 (below_size ax231)); have n1_ := Aside0.mk (blk_below (g := G0) (o := .cells #[.slice A0_0 l0_0.length c0_0, .int .i64 a0_1, .slice A0_2 l0_2.length c0_2] 69 (0, 0)) ax232 hb); have n2_ := Aside0.mk (below_step ax231 hb); clear BK540; clear HB; have HO543 := n0_; have BK540 := n1_; have HB := n2_; clear n0_ n1_ n2_; (try clear hb); (try clear hb2); (try clear hk); (try clear hi); (try clear ho0)))
 (try simp only [Act.put, List.setIfInBounds_toArray, List.set_cons_zero, List.set_cons_succ])
 go_cut [22] (fun v22 wc => ∃ (kq : Nat) (x22_3 : Bool), v22 = .bool x22_3 ∧ Aside0 (impl_game_games.j0 kq t541 x22_3 l0_0 a0_1 l0_2 = some r) ∧ Aside0 (kq ≤ k) ∧ Aside0 (Kd.R (Kd.int .i64) 3 wc w.heap.size (fun _ => True) v542 t541) ∧ Aside0 (wc.heap[G0]? = some (.cells #[(.slice A0_0 l0_0.length c0_0), .int .i64 a0_1, (.slice A0_2 l0_2.length c0_2)] 69 (0, 0))) ∧ Aside0 (Below w.heap.size w wc))
 case first =>
  have H := HC4.out; clear HC4; replace H := Option.bind_eq_some_iff.mp H
  obtain ⟨t544, A70, H⟩ := H
  replace H : (if t544 = true then (impl_game_games.j0 k t541 true l0_0 a0_1 l0_2) else (impl_game_games.j0 k t541 ((t541.length : Int) == 0) l0_0 a0_1 l0_2)) = some r := H
  have A7 := Aside0.mk A70; clear A70
  by_cases c8 : t544 = true
  ·subst c8
   have H1 : (impl_game_games.j0 k t541 true l0_0 a0_1 l0_2) = some r := by rw [if_pos rfl] at H; exact H
   clear H; have H := H1; clear H1
   have H' := Aside0.mk H
   clear H
   go_wp2_with (first | ((with_reducible refine gate_callee (f := 63) rfl ?_); refine goesL_ (some 17) rfl rfl Try.func63 (by kernel_rfl) rfl #[.pointer (some ⟨G0, 0, none⟩), .int .i64 a1] rfl ax34 ?_; (with_reducible refine (impl_game_isFatal.calls G0 A0_0 c0_0 l0_0 a0_1 A0_2 c0_2 l0_2 a1 true _ ?side1 ?side2 ?side3 ?side4 ?side5 A7.out).mono ?_); (case side1 => exact ax35); (case side2 => exact ax36); (case side3 => exact ax201); (case side4 => exact ax202); (case side5 => exact ax232); rintro e w9 ⟨rfl, hb⟩; refine ⟨_, rfl, ?_⟩; have n0_ := Aside0.mk (Kd.R_below ax233 hb); have n1_ := Aside0.mk (blk_below (g := G0) (o := .cells #[.slice A0_0 l0_0.length c0_0, .int .i64 a0_1, .slice A0_2 l0_2.length c0_2] 69 (0, 0)) ax232 hb); have n2_ := Aside0.mk (below_step ax231 hb); clear HO543; clear BK540; clear HB; have HO543 := n0_; have BK540 := n1_; have HB := n2_; clear n0_ n1_ n2_; (try clear hb); (try clear hb2); (try clear hk); (try clear hi)))
   go_meet
   case rel => exact ⟨_, (true), ax37, H', ⟨by first | omega | exact Nat.le_refl _⟩, ⟨by (with_reducible repeat (first | apply Kd.R_alloc | apply Kd.R_drewN | apply Kd.R_drew)); exact HO543.out⟩, ⟨by (with_reducible repeat (first | refine blk_drewN ?_ _ | refine blk_drew ?_ | refine blk_alloc ?_ _)); exact BK540.out⟩, ⟨by repeat (first | (with_reducible first | exact HB.out | apply below_alloc | apply pw_below_drewN | apply below_drew1 | refine below_set ?_ GE540.out) | exact HB.out)⟩⟩
  ·replace c8 := Bool.eq_false_iff.mpr c8
   subst c8
   have H1 : (impl_game_games.j0 k t541 ((t541.length : Int) == 0) l0_0 a0_1 l0_2) = some r := by rw [if_neg (show ¬ (false = true) by decide)] at H; exact H
   clear H; have H := H1; clear H1
   have H' := Aside0.mk H
   clear H
   go_wp2_with (first | ((with_reducible refine gate_callee (f := 63) rfl ?_); refine goesL_ (some 17) rfl rfl Try.func63 (by kernel_rfl) rfl #[.pointer (some ⟨G0, 0, none⟩), .int .i64 a1] rfl ax34 ?_; (with_reducible refine (impl_game_isFatal.calls G0 A0_0 c0_0 l0_0 a0_1 A0_2 c0_2 l0_2 a1 false _ ?side1 ?side2 ?side3 ?side4 ?side5 A7.out).mono ?_); (case side1 => exact ax35); (case side2 => exact ax36); (case side3 => exact ax201); (case side4 => exact ax202); (case side5 => exact ax232); rintro e w10 ⟨rfl, hb⟩; refine ⟨_, rfl, ?_⟩; have n0_ := Aside0.mk (Kd.R_below ax233 hb); have n1_ := Aside0.mk (blk_below (g := G0) (o := .cells #[.slice A0_0 l0_0.length c0_0, .int .i64 a0_1, .slice A0_2 l0_2.length c0_2] 69 (0, 0)) ax232 hb); have n2_ := Aside0.mk (below_step ax231 hb); clear HO543; clear BK540; clear HB; have HO543 := n0_; have BK540 := n1_; have HB := n2_; clear n0_ n1_ n2_; (try clear hb); (try clear hb2); (try clear hk); (try clear hi); obtain ⟨Ao11, co11, eo11⟩ := Kd.R_slice HO543.out; subst eo11))
   go_meet
   case rel => exact ⟨_, (((t541.length : Int) == 0)), ax37, H', ⟨by first | omega | exact Nat.le_refl _⟩, ⟨by (with_reducible repeat (first | apply Kd.R_alloc | apply Kd.R_drewN | apply Kd.R_drew)); exact HO543.out⟩, ⟨by (with_reducible repeat (first | refine blk_drewN ?_ _ | refine blk_drew ?_ | refine blk_alloc ?_ _)); exact BK540.out⟩, ⟨by repeat (first | (with_reducible first | exact HB.out | apply below_alloc | apply pw_below_drewN | apply below_drew1 | refine below_set ?_ GE540.out) | exact HB.out)⟩⟩
 case rest =>
  clear HC4
  try clear p2
  try clear c5
  try clear c6
  try clear c8
  try clear hcz5_0
  try clear hcz5_1
  try clear hcz5_2
  try clear hfz5_0
  try clear hfz5_1
  try clear hfz5_2
  obtain ⟨kq, x22_3, rfl, HA, HJ3, HO_5, BK540, HB⟩ := hcut
  cases kq with
  | zero => exact absurd HA.out (by simp [impl_game_games.j0])
  | succ kj3 =>
   have H := HA.out; clear HA
   simp only [impl_game_games.j0] at H
   by_cases c12 : x22_3 = true
   ·subst c12
    have H1 : (some 1) = some r := by rw [if_pos rfl] at H; exact H
    clear H; have H := H1; clear H1
    obtain rfl := Option.some.inj H
    go_wp2
    go_ret
    exact ⟨by first | rfl | (simp [errW_none, errW_some] <;> rfl) | (simp [*, errW_none, errW_some] <;> rfl), by repeat (first | (with_reducible first | exact HB.out | apply below_alloc | apply pw_below_drewN | apply below_drew1 | refine below_set ?_ GE540.out) | exact HB.out)⟩
   ·replace c12 := Bool.eq_false_iff.mpr c12
    subst c12
    have H1 : (impl_game_games.l0 kj3 0 t541 (t541.length : Int) 0 l0_0 a0_1 l0_2) = some r := by rw [if_neg (show ¬ (false = true) by decide)] at H; exact H
    clear H; have H := H1; clear H1
    have H' := Aside0.mk H
    clear H
    obtain ⟨Ao13, co13, eo13⟩ := Kd.R_slice HO_5.out
    subst eo13
    go_wp2
    go_loopg [6, 25] kj3 (fun kq v6 v25 w' => ∃ (x6_2 : Int) (x25_2 : Int), v6 = .int .i64 x6_2 ∧ v25 = .int .i64 x25_2 ∧ Aside0 (impl_game_games.l0 kq x6_2 t541 (t541.length : Int) x25_2 l0_0 a0_1 l0_2 = some r) ∧ Aside0 (kq ≤ kj3) ∧ Aside0 (Kd.R (Kd.int .i64) 3 w' w.heap.size (fun _ => True) (.slice Ao13 t541.length co13) t541) ∧ Aside0 (w'.heap[G0]? = some (.cells #[(.slice A0_0 l0_0.length c0_0), .int .i64 a0_1, (.slice A0_2 l0_2.length c0_2)] 69 (0, 0))) ∧ Aside0 (Below w.heap.size w w'))
    case atStart => exact ⟨(0), (0), ax37, ax37, H', ⟨Nat.le_refl _⟩, ⟨by (with_reducible repeat (first | apply Kd.R_alloc | apply Kd.R_drewN | apply Kd.R_drew)); exact HO_5.out⟩, ⟨by (with_reducible repeat (first | refine blk_drewN ?_ _ | refine blk_drew ?_ | refine blk_alloc ?_ _)); exact BK540.out⟩, ⟨by repeat (first | (with_reducible first | exact HB.out | apply below_alloc | apply pw_below_drewN | apply below_drew1 | refine below_set ?_ GE540.out) | exact HB.out)⟩⟩
    case round =>
     clear H'
     try clear c1
     try clear p2
     try clear c5
     try clear c6
     try clear c8
     try clear c12
     try clear hcz5_0
     try clear hcz5_1
     try clear hcz5_2
     try clear hfz5_0
     try clear hfz5_1
     try clear hfz5_2
     try clear p2
     obtain ⟨x6_2, x25_2, rfl, rfl, HA, HK2, HO_23, BK540, HB⟩ := hrel
     cases gk with
     | zero => exact absurd HA.out (by simp [impl_game_games.l0])
     | succ k2 =>
      have H := HA.out; clear HA
      simp only [impl_game_games.l0] at H
      by_cases c14 : x25_2 < (t541.length : Int)
      ·rw [if_pos c14] at H
       have c14b0 : decide (x25_2 < (t541.length : Int)) = true := decide_eq_true c14
       clear c14
       by_cases c15 : 0 ≤ x25_2
       ·rw [if_pos c15] at H
        have c15b0 : decide (0 ≤ x25_2) = true := decide_eq_true c15
        clear c15
        by_cases c16 : x25_2 < (t541.length : Int)
        ·rw [if_pos c16] at H
         have c16b0 : decide (x25_2 < (t541.length : Int)) = true := decide_eq_true c16
         clear c16; replace H := Option.bind_eq_some_iff.mp H
         obtain ⟨t546, A170, H⟩ := H
         replace H : (impl_game_games.l0 k2 (wrap64 (x6_2 + t546)) t541 (t541.length : Int) (wrap64 (x25_2 + 1)) l0_0 a0_1 l0_2) = some r := H
         have A17 := Aside0.mk A170; clear A170
         have H' := Aside0.mk H
         clear H
         have p545 : 0 ≤ (x25_2 : Int) := of_decide_eq_true ax38
         have q545 : x25_2 < (t541.length : Int) := of_decide_eq_true ax38
         obtain ⟨ad545, e545, hx545_0⟩ := Kd.at_int (Kd.R_reads' HO_23.out).2.2 x25_2 p545 q545
         cases e545; replace p545 := eq_true p545; replace q545 := eq_true q545
         go_wp2_with (first | ((with_reducible refine gate_callee (f := 55) rfl ?_); refine goesL_ (some 32) rfl rfl Try.func55 (by kernel_rfl) rfl #[.pointer (some ⟨G0, 0, none⟩), .int .i64 (rd t541 x25_2)] rfl ax34 ?_; (with_reducible refine (ih k2 (by have := HJ3.out; have := HK2.out; omega) G0 A0_0 c0_0 l0_0 a0_1 A0_2 c0_2 l0_2 (rd t541 x25_2) t546 _ ?side1 ?side2 ?side3 ?side4 ?side5 A17.out).mono ?_); (case side1 => exact ax35); (case side2 => exact ax36); (case side3 => exact ax201); (case side4 => exact ax202); (case side5 => exact ax232); rintro e w18 ⟨rfl, hb⟩; refine ⟨_, rfl, ?_⟩; have n0_ := Aside0.mk (Kd.R_below (by (with_reducible repeat (first | apply Kd.R_alloc | apply Kd.R_drewN | apply Kd.R_drew)); exact HO_23.out) hb); have n1_ := Aside0.mk (blk_below (g := G0) (o := .cells #[.slice A0_0 l0_0.length c0_0, .int .i64 a0_1, .slice A0_2 l0_2.length c0_2] 69 (0, 0)) ax232 hb); have n2_ := Aside0.mk (below_step ax231 hb); clear HO_23; clear BK540; clear HB; have HO_23 := n0_; have BK540 := n1_; have HB := n2_; clear n0_ n1_ n2_; (try clear hb); (try clear hb2); (try clear hk); (try clear hi)))
         go_roundg k2
         case measure => have := HJ3.out; have := HK2.out; omega
         case rel => exact ⟨(wrap64 (x6_2 + t546)), (wrap64 (x25_2 + 1)), ax37, ax37, H', ⟨by have := HJ3.out; have := HK2.out; omega⟩, ⟨by (with_reducible repeat (first | apply Kd.R_alloc | apply Kd.R_drewN | apply Kd.R_drew)); exact HO_23.out⟩, ⟨by (with_reducible repeat (first | refine blk_drewN ?_ _ | refine blk_drew ?_ | refine blk_alloc ?_ _)); exact BK540.out⟩, ⟨by repeat (first | (with_reducible first | exact HB.out | apply below_alloc | apply pw_below_drewN | apply below_drew1 | refine below_set ?_ GE540.out) | exact HB.out)⟩⟩
        ·rw [if_neg c16] at H
         exact absurd H (by simp)
       ·exact ax13
      ·rw [if_neg c14] at H
       have c14b0 : decide (x25_2 < (t541.length : Int)) = false := decide_eq_false c14
       clear c14
       obtain rfl := Option.some.inj H
       go_wp2
       go_ret
       exact ⟨by first | rfl | (simp [errW_none, errW_some] <;> rfl) | (simp [*, errW_none, errW_some] <;> rfl), by repeat (first | (with_reducible first | exact HB.out | apply below_alloc | apply pw_below_drewN | apply below_drew1 | refine below_set ?_ GE540.out) | exact HB.out)⟩

end Go.Proofs.Ytcbjfflaamlpcaa.X

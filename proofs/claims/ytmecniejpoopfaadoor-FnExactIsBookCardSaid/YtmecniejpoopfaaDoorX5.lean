-- By gen.py (the session's own program over the kit's printer): functions of the program, each with its contract. Lean checks it.
import Derived.Test.YtmecniejpoopfaaDoorX0
import Derived.Test.YtmecniejpoopfaaDoorX2
import Derived.Test.YtmecniejpoopfaaDoorX3
import Derived.Test.YtmecniejpoopfaaDoorX4
namespace Go.Proofs.YtmecniejpoopfaaDoor.X
open Go.RowKit Go.Proofs.YtmecniejpoopfaaDoorW.PrintWords Go.Proofs.YtmecniejpoopfaaDoorW.PrintLast Go.Proofs.YtmecniejpoopfaaDoorW.PrintMore
attribute [local go_sem] max2_int min2_int max_two min_two max_three min_three max_four min_four   -- for this text's walks alone
set_option linter.unusedVariables false
set_option linter.unusedSimpArgs false

/-! ### spec_l2Of: function 14 -/
mutual
def spec_l2Of.l0 : Nat → List ByteArray → List ByteArray → Int → Option ((List (S50)))
 | 0, _, _, _ => none
 | k + 1, x0, x3, x4 => if x4 < (x0.length : Int) then (spec_l2Of.l1 k x0 x3 x4 1) else (spec_l2Of.l2 k x0 x3 0 (([] : List (S50))))
def spec_l2Of.l1 : Nat → List ByteArray → List ByteArray → Int → Int → Option ((List (S50)))
 | 0, _, _, _, _ => none
 | k + 1, x0, x3, x4, x5 => if 0 ≤ x4 then (if x4 < (x0.length : Int) then (if x5 ≤ ((rdOf ByteArray.empty x0 x4).size : Int) then (if 0 ≤ x5 then ((spec_l2Put.f k x3 ((rdOf ByteArray.empty x0 x4).extract 0 (x5 : Int).toNat)).bind fun t204 => (spec_l2Of.l1 k x0 t204 x4 (wrap64 (x5 + 1)))) else (none)) else (spec_l2Of.l0 k x0 x3 (wrap64 (x4 + 1)))) else (none)) else (none)
def spec_l2Of.l2 : Nat → List ByteArray → List ByteArray → Int → List (S50) → Option ((List (S50)))
 | 0, _, _, _, _ => none
 | k + 1, x0, x3, x7, x211000 => if x7 < (x3.length : Int) then (if 0 ≤ x7 then ((spec_l2Has.f k x0 (rdOf ByteArray.empty x3 x7)).bind fun t212 => (if x7 > 0 then (if 0 ≤ (wrap64 (((rdOf ByteArray.empty x3 x7).size : Int) - 1)) then (if (wrap64 (((rdOf ByteArray.empty x3 x7).size : Int) - 1)) < ((rdOf ByteArray.empty x3 x7).size : Int) then (if (wrap64 (((rdOf ByteArray.empty x3 x7).size : Int) - 1)) ≤ ((rdOf ByteArray.empty x3 x7).size : Int) then ((spec_l2Place.f k x3 ((rdOf ByteArray.empty x3 x7).extract 0 ((wrap64 (((rdOf ByteArray.empty x3 x7).size : Int) - 1)) : Int).toNat)).bind fun t214 => (if x211000.length < 5864062014805 then (spec_l2Of.l2 k x0 x3 (wrap64 (x7 + 1)) (x211000 ++ [(⟨((bt (rdOf ByteArray.empty x3 x7) (wrap64 (((rdOf ByteArray.empty x3 x7).size : Int) - 1))) - 97) % 256, t214, t212⟩ : S50)])) else (none))) else (none)) else (none)) else (none)) else (if x211000.length < 5864062014805 then (spec_l2Of.l2 k x0 x3 (wrap64 (x7 + 1)) (x211000 ++ [(⟨(-1), (-1), t212⟩ : S50)])) else (none)))) else (none)) else (some x211000)
end
def spec_l2Of.f (k : Nat) (l0 : List ByteArray) : Option ((List (S50))) := spec_l2Of.l0 k l0 (([(⟨#[]⟩ : ByteArray)] : List ByteArray)) 0
theorem spec_l2Of.mono_l : ∀ k, (∀ y0 y1 y2, LeO (spec_l2Of.l0 k y0 y1 y2) (spec_l2Of.l0 (k + 1) y0 y1 y2)) ∧ (∀ y0 y1 y2 y3, LeO (spec_l2Of.l1 k y0 y1 y2 y3) (spec_l2Of.l1 (k + 1) y0 y1 y2 y3)) ∧ (∀ y0 y1 y2 y3, LeO (spec_l2Of.l2 k y0 y1 y2 y3) (spec_l2Of.l2 (k + 1) y0 y1 y2 y3))
 | 0 => ⟨fun _ _ _ r h => by simp [spec_l2Of.l0] at h, fun _ _ _ _ r h => by simp [spec_l2Of.l1] at h, fun _ _ _ _ r h => by simp [spec_l2Of.l2] at h⟩
 | k + 1 => by
  obtain ⟨ih0, ih1, ih2⟩ := spec_l2Of.mono_l k
  refine ⟨?_, ?_, ?_⟩
  ·intro y0 y1 y2
   unfold spec_l2Of.l0
   repeat' first
   | (with_reducible exact ih0 _ _ _)
   | (with_reducible exact ih1 _ _ _ _)
   | (with_reducible exact ih2 _ _ _ _)
   | (with_reducible exact spec_l2Has.mono _ _ _)
   | (with_reducible exact spec_l2Place.mono _ _ _)
   | (with_reducible exact spec_l2Put.mono _ _ _)
   | (with_reducible exact LeO.refl _)
   | (with_reducible exact LeO.none _)
   | (with_reducible refine LeO.ite ?_ ?_)
   | (with_reducible refine LeO.bind ?_ (fun _ => ?_))
   | exact ih0 _ _ _
   | exact ih1 _ _ _ _
   | exact ih2 _ _ _ _
   | exact spec_l2Has.mono _ _ _
   | exact spec_l2Place.mono _ _ _
   | exact spec_l2Put.mono _ _ _
   | exact LeO.none _
   | refine LeO.ite ?_ ?_
   | refine LeO.bind ?_ (fun _ => ?_)
  ·intro y0 y1 y2 y3
   unfold spec_l2Of.l1
   repeat' first
   | (with_reducible exact ih0 _ _ _)
   | (with_reducible exact ih1 _ _ _ _)
   | (with_reducible exact ih2 _ _ _ _)
   | (with_reducible exact spec_l2Has.mono _ _ _)
   | (with_reducible exact spec_l2Place.mono _ _ _)
   | (with_reducible exact spec_l2Put.mono _ _ _)
   | (with_reducible exact LeO.refl _)
   | (with_reducible exact LeO.none _)
   | (with_reducible refine LeO.ite ?_ ?_)
   | (with_reducible refine LeO.bind ?_ (fun _ => ?_))
   | exact ih0 _ _ _
   | exact ih1 _ _ _ _
   | exact ih2 _ _ _ _
   | exact spec_l2Has.mono _ _ _
   | exact spec_l2Place.mono _ _ _
   | exact spec_l2Put.mono _ _ _
   | exact LeO.none _
   | refine LeO.ite ?_ ?_
   | refine LeO.bind ?_ (fun _ => ?_)
  ·intro y0 y1 y2 y3
   unfold spec_l2Of.l2
   repeat' first
   | (with_reducible exact ih0 _ _ _)
   | (with_reducible exact ih1 _ _ _ _)
   | (with_reducible exact ih2 _ _ _ _)
   | (with_reducible exact spec_l2Has.mono _ _ _)
   | (with_reducible exact spec_l2Place.mono _ _ _)
   | (with_reducible exact spec_l2Put.mono _ _ _)
   | (with_reducible exact LeO.refl _)
   | (with_reducible exact LeO.none _)
   | (with_reducible refine LeO.ite ?_ ?_)
   | (with_reducible refine LeO.bind ?_ (fun _ => ?_))
   | exact ih0 _ _ _
   | exact ih1 _ _ _ _
   | exact ih2 _ _ _ _
   | exact spec_l2Has.mono _ _ _
   | exact spec_l2Place.mono _ _ _
   | exact spec_l2Put.mono _ _ _
   | exact LeO.none _
   | refine LeO.ite ?_ ?_
   | refine LeO.bind ?_ (fun _ => ?_)
theorem spec_l2Of.mono : ∀ a0 k, LeO (spec_l2Of.f k a0) (spec_l2Of.f (k + 1) a0) := by
 intro a0 k
 obtain ⟨ih0, ih1, ih2⟩ := spec_l2Of.mono_l k
 unfold spec_l2Of.f
 repeat' first
   | (with_reducible exact ih0 _ _ _)
   | (with_reducible exact ih1 _ _ _ _)
   | (with_reducible exact ih2 _ _ _ _)
   | (with_reducible exact spec_l2Has.mono _ _ _)
   | (with_reducible exact spec_l2Place.mono _ _ _)
   | (with_reducible exact spec_l2Put.mono _ _ _)
   | (with_reducible exact LeO.refl _)
   | (with_reducible exact LeO.none _)
   | (with_reducible refine LeO.ite ?_ ?_)
   | (with_reducible refine LeO.bind ?_ (fun _ => ?_))
   | exact ih0 _ _ _
   | exact ih1 _ _ _ _
   | exact ih2 _ _ _ _
   | exact spec_l2Has.mono _ _ _
   | exact spec_l2Place.mono _ _ _
   | exact spec_l2Put.mono _ _ _
   | exact LeO.none _
   | refine LeO.ite ?_ ?_
   | refine LeO.bind ?_ (fun _ => ?_)
set_option maxHeartbeats 8000000 in
set_option maxRecDepth 100000 in
theorem spec_l2Of.calls (k : Nat) (A0 : Option Addr) (c0 : Nat) (l0 : List ByteArray) (r : List (S50)) (w : World) (hr0 : Kd.C Kd.string w A0 l0.length l0) (hc0 : l0.length ≤ c0) (h : spec_l2Of.f k l0 = some r) :
  Calls Tryd.prog 14 #[.slice A0 l0.length c0] w fun e w' => ∃ v0_ : Value, e = .returned (.agg #[v0_]) ∧ Kd.R k50 50 w' w.heap.size (fun _ => True) v0_ r ∧ Below w.heap.size w w' := by
 have hu38 := Tryd.underlying38; have hu50 := Tryd.underlying50; have HR0 := Aside0.mk hr0; have HC0 := Aside0.mk hc0; clear hr0 hc0; have HB := Aside0.mk (Below.refl w.heap.size w)
 have H : (spec_l2Of.l0 k l0 (([(⟨#[]⟩ : ByteArray)] : List ByteArray)) 0) = some r := h
 clear h
 obtain ⟨y199, hy199⟩ : ∃ y_ : List ByteArray, y_ = (([(⟨#[]⟩ : ByteArray)] : List ByteArray)) := ⟨_, rfl⟩
 replace H : (spec_l2Of.l0 k l0 y199 0) = some r := by first | (rw [hy199]; with_reducible exact H) | (have H2_ := (Option.bind_some _ _).symm.trans H; rw [hy199]; with_reducible exact H2_) | (have H2_ := (Option.bind_some _ _).symm.trans H; with_reducible exact H2_) | with_reducible exact H | (rw [hy199]; exact H) | exact H
 have Ny199 := Aside0.mk hy199; clear hy199
 have H' := Aside0.mk H
 clear H
 go_enter Tryd.func14, Tryd.ntmps14
 go_wp2_with (first | ((with_reducible refine gate_dst (N := 2) rfl ?_); refine box_event ?hg (N := 2) ?hd (cs := #[.slice none 0 0]) (t := 38) ?hr ?_; (case hd => rfl); (case hg => rfl); (case hr => exact ax12); intro gb198 hg w2 hbox hb; have n0_ := Aside0.mk (below_step ax13 hb); have n1_ := Aside0.mk (hbox); have n2_ := Aside0.mk ((ax14 : w.heap.size ≤ gb198)); have n3_ := Aside0.mk ((ax14 : w.heap.size ≤ gb198)); clear HB; have HB := n0_; have BK198 := n1_; have GW198 := n2_; have GE198 := n3_; clear n0_ n1_ n2_ n3_; clear hb hbox hg) | ((with_reducible refine gate_dst (N := 10) rfl ?_); refine Kd.R_lit Kd.string _ 9 ?hg (N := 10) ?hd (xs := ([(⟨#[]⟩ : ByteArray)] : List ByteArray)) (inner := [.string (⟨#[]⟩ : ByteArray)]) (ok := fun _ => True) (okp := fun _ => True) ?hr ?hp (fun _ hk => hk) trivial (Below.refl _ _) (Nat.le_refl _) (by simp) ?_; (case hd => rfl); (case hg => rfl); (case hr => exact ax12); (case hp => exact ax53); intro v200 w3 ho4 hb hg_ hnew_; clear hg_ hnew_; (first | rw [← Ny199.out] at ho4 | (simp only [Int.reduceToNat] at ho4; rw [← Ny199.out] at ho4)); have n0_ := Aside0.mk (Kd.R_lower ho4 (below_size ax54)); have n1_ := Aside0.mk (blk_below (g := gb198) (o := .cells #[.slice none 0 0] 38 (0, 0)) ax55 hb); have n2_ := Aside0.mk (below_step ax54 hb); clear BK198; clear HB; have HO201 := n0_; have BK198 := n1_; have HB := n2_; clear n0_ n1_ n2_; clear hb ho4))
 go_loopg [3, 4] k (fun kq v3 v4 w' => ∃ (x3_1 : List ByteArray) (x4_1 : Int), v4 = .int .i64 x4_1 ∧ Aside0 (spec_l2Of.l0 kq l0 x3_1 x4_1 = some r) ∧ Aside0 (kq ≤ k) ∧ Aside0 (Kd.V Kd.string 9 w' w.heap.size (fun k_ => k_ ≠ gb198) v3 x3_1) ∧ Aside0 (w'.heap[gb198]? = some (.cells #[(.slice none 0 0)] 38 (0, 0))) ∧ Aside0 (Below w.heap.size w w'))
 case atStart => exact ⟨(y199), (0), ax15, H', ⟨Nat.le_refl _⟩, ⟨Kd.R_V (by (with_reducible repeat (first | apply Kd.R_alloc | apply Kd.R_drewN | apply Kd.R_drew)); exact Kd.R_mono (Kd.R_types HO201.out BK198.out (by decide)) (fun _ hk => hk.2))⟩, ⟨by (with_reducible repeat (first | refine blk_drewN ?_ _ | refine blk_drew ?_ | refine blk_alloc ?_ _)); exact BK198.out⟩, ⟨by repeat (first | (with_reducible first | exact HB.out | apply below_alloc | apply pw_below_drewN | apply below_drew1 | refine below_set ?_ GE198.out) | exact HB.out)⟩⟩
 case round =>
  clear H'
  try clear c1
  try clear p2
  obtain ⟨x3_1, x4_1, rfl, HA, HK1, HO_3, BK198, HB⟩ := hrel
  cases gk with
  | zero => exact absurd HA.out (by simp [spec_l2Of.l0])
  | succ k1 =>
   have H := HA.out; clear HA
   simp only [spec_l2Of.l0] at H
   by_cases c5 : x4_1 < (l0.length : Int)
   ·rw [if_pos c5] at H
    have c5b0 : decide (x4_1 < (l0.length : Int)) = true := decide_eq_true c5
    clear c5
    have H' := Aside0.mk H
    clear H
    go_wp2
    go_loopg [3, 5] k1 (fun kq v3 v5 w' => ∃ (x3_2 : List ByteArray) (x5_2 : Int), v5 = .int .i64 x5_2 ∧ Aside0 (spec_l2Of.l1 kq l0 x3_2 x4_1 x5_2 = some r) ∧ Aside0 (kq ≤ k1) ∧ Aside0 (Kd.V Kd.string 9 w' w.heap.size (fun k_ => k_ ≠ gb198) v3 x3_2) ∧ Aside0 (w'.heap[gb198]? = some (.cells #[(.slice none 0 0)] 38 (0, 0))) ∧ Aside0 (Below w.heap.size w w'))
    case atStart => exact ⟨(x3_1), (1), ax15, H', ⟨Nat.le_refl _⟩, ⟨by (with_reducible repeat (first | apply Kd.V_alloc | apply Kd.V_drewN | apply Kd.V_drew)); exact HO_3.out⟩, ⟨by (with_reducible repeat (first | refine blk_drewN ?_ _ | refine blk_drew ?_ | refine blk_alloc ?_ _)); exact BK198.out⟩, ⟨by repeat (first | (with_reducible first | exact HB.out | apply below_alloc | apply pw_below_drewN | apply below_drew1 | refine below_set ?_ GE198.out) | exact HB.out)⟩⟩
    case round =>
     clear H'
     try clear c1
     try clear p2
     try clear c5
     try clear c5b0
     try clear p2
     obtain ⟨x3_2, x5_2, rfl, HA, HK2, HO_3, BK198, HB⟩ := hrel
     cases gk with
     | zero => exact absurd HA.out (by simp [spec_l2Of.l1])
     | succ k2 =>
      have H := HA.out; clear HA
      simp only [spec_l2Of.l1] at H
      by_cases c6 : 0 ≤ x4_1
      ·rw [if_pos c6] at H
       have c6b0 : decide (0 ≤ x4_1) = true := decide_eq_true c6
       clear c6
       by_cases c7 : x4_1 < (l0.length : Int)
       ·rw [if_pos c7] at H
        have c7b0 : decide (x4_1 < (l0.length : Int)) = true := decide_eq_true c7
        clear c7
        by_cases c8 : x5_2 ≤ ((rdOf ByteArray.empty l0 x4_1).size : Int)
        ·rw [if_pos c8] at H
         have c8b0 : decide (x5_2 ≤ ((rdOf ByteArray.empty l0 x4_1).size : Int)) = true := decide_eq_true c8
         clear c8
         by_cases c9 : 0 ≤ x5_2
         ·rw [if_pos c9] at H
          have c9b0 := eq_true c9
          have c9b1 : decide (0 ≤ x5_2) = true := decide_eq_true c9
          clear c9; have c10b0 := eq_true (of_decide_eq_true ax16 : x5_2 ≤ ((rdOf ByteArray.empty l0 x4_1).size : Int))
          obtain ⟨js11, hjs11⟩ : ∃ j_ : ByteArray, ((rdOf ByteArray.empty l0 x4_1).extract 0 (x5_2 : Int).toNat) = j_ := ⟨_, rfl⟩
          replace H : ((spec_l2Put.f k2 x3_2 js11).bind fun t204 => (spec_l2Of.l1 k2 l0 t204 x4_1 (wrap64 (x5_2 + 1)))) = some r := by first | (rw [hjs11] at H; exact H) | (simp only [hjs11] at H ⊢; exact H)
          replace H := Option.bind_eq_some_iff.mp H
          obtain ⟨t204, A120, H⟩ := H
          replace H : (spec_l2Of.l1 k2 l0 t204 x4_1 (wrap64 (x5_2 + 1))) = some r := H
          have A12 := Aside0.mk A120; clear A120
          have H' := Aside0.mk H
          clear H
          have p202 : 0 ≤ (x4_1 : Int) := of_decide_eq_true ax16
          have q202 : x4_1 < (l0.length : Int) := of_decide_eq_true ax16
          obtain ⟨ad202, e202, hx202_0⟩ := Kd.at_string HR0.out x4_1 p202 q202
          cases e202; replace hx202_0 := (HB.out.cell (World.block_lt_of_cell? w _ hx202_0)).trans hx202_0; replace p202 := eq_true p202; replace q202 := eq_true q202
          have p203 : 0 ≤ (x4_1 : Int) := of_decide_eq_true ax16
          have q203 : x4_1 < (l0.length : Int) := of_decide_eq_true ax16
          obtain ⟨ad203, e203, hx203_0⟩ := Kd.at_string HR0.out x4_1 p203 q203
          obtain rfl : ad202 = ad203 := (by injection e203)
          replace hx203_0 := (HB.out.cell (World.block_lt_of_cell? w _ hx203_0)).trans hx203_0; replace p203 := eq_true p203; replace q203 := eq_true q203
          obtain ⟨Ao13, co13, eo13⟩ := Kd.V_slice HO_3.out
          subst eo13
          go_wp2_with (first | ((with_reducible refine gate_callee (f := 24) rfl ?_); refine goesL_ (some 33) rfl rfl Tryd.func24 (by kernel_rfl) rfl #[.slice Ao13 x3_2.length co13, .string js11] rfl ax24 ?_; (with_reducible refine (spec_l2Put.calls k2 (fun k_ => k_ ≠ gb198) _ _ x3_2 js11 t204 _ ?side1 A12.out).mono ?_); (case side1 => exact HO_3.out); rintro e w14 ⟨v205, rfl, ho0, hb⟩; refine ⟨_, rfl, ?_⟩; have n0_ := Aside0.mk (Kd.V_below ax56 hb); have n1_ := Aside0.mk (Kd.V_lower (Kd.V_mono (ok' := fun k_ => k_ ≠ gb198) ho0 (fun k_ hk_ => Or.elim hk_ (fun hs_ => hs_) (fun hn_ => (Kd.freshB (g := gb198) (o := .cells #[.slice none 0 0] 38 (0, 0)) ax55 k_ hn_)))) (below_size ax54)); have n2_ := Aside0.mk (blk_below (g := gb198) (o := .cells #[.slice none 0 0] 38 (0, 0)) ax55 hb); have n3_ := Aside0.mk (below_step ax54 hb); clear HO_3; clear BK198; clear HB; have HO_3 := n0_; have HO206 := n1_; have BK198 := n2_; have HB := n3_; clear n0_ n1_ n2_ n3_; (try clear hb); (try clear hb2); (try clear hk); (try clear hi); (try clear ho0)))
          go_roundg k2
          case measure => have := HK1.out; have := HK2.out; omega
          case rel => exact ⟨(t204), (wrap64 (x5_2 + 1)), ax15, H', ⟨by have := HK1.out; have := HK2.out; omega⟩, ⟨by (with_reducible repeat (first | apply Kd.V_alloc | apply Kd.V_drewN | apply Kd.V_drew)); exact HO206.out⟩, ⟨by (with_reducible repeat (first | refine blk_drewN ?_ _ | refine blk_drew ?_ | refine blk_alloc ?_ _)); exact BK198.out⟩, ⟨by repeat (first | (with_reducible first | exact HB.out | apply below_alloc | apply pw_below_drewN | apply below_drew1 | refine below_set ?_ GE198.out) | exact HB.out)⟩⟩
         ·exact ax4
        ·rw [if_neg c8] at H
         have c8b0 : decide (x5_2 ≤ ((rdOf ByteArray.empty l0 x4_1).size : Int)) = false := decide_eq_false c8
         clear c8
         have H' := Aside0.mk H
         clear H
         have p202 : 0 ≤ (x4_1 : Int) := of_decide_eq_true ax16
         have q202 : x4_1 < (l0.length : Int) := of_decide_eq_true ax16
         obtain ⟨ad202, e202, hx202_0⟩ := Kd.at_string HR0.out x4_1 p202 q202
         cases e202; replace hx202_0 := (HB.out.cell (World.block_lt_of_cell? w _ hx202_0)).trans hx202_0; replace p202 := eq_true p202; replace q202 := eq_true q202
         go_wp2
         go_roundg k2
         case measure => have := HK1.out; have := HK2.out; omega
         case rel => exact ⟨(x3_2), (wrap64 (x4_1 + 1)), ax15, H', ⟨by have := HK1.out; have := HK2.out; omega⟩, ⟨by (with_reducible repeat (first | apply Kd.V_alloc | apply Kd.V_drewN | apply Kd.V_drew)); exact HO_3.out⟩, ⟨by (with_reducible repeat (first | refine blk_drewN ?_ _ | refine blk_drew ?_ | refine blk_alloc ?_ _)); exact BK198.out⟩, ⟨by repeat (first | (with_reducible first | exact HB.out | apply below_alloc | apply pw_below_drewN | apply below_drew1 | refine below_set ?_ GE198.out) | exact HB.out)⟩⟩
       ·exact ax5
      ·exact ax1
   ·rw [if_neg c5] at H
    have c5b0 : decide (x4_1 < (l0.length : Int)) = false := decide_eq_false c5
    clear c5
    obtain ⟨y207, hy207⟩ : ∃ y_ : List (S50), y_ = (([] : List (S50))) := ⟨_, rfl⟩
    replace H : (spec_l2Of.l2 k1 l0 x3_1 0 y207) = some r := by first | (rw [hy207]; with_reducible exact H) | (have H2_ := (Option.bind_some _ _).symm.trans H; rw [hy207]; with_reducible exact H2_) | (have H2_ := (Option.bind_some _ _).symm.trans H; with_reducible exact H2_) | with_reducible exact H | (rw [hy207]; exact H) | exact H
    have Ny207 := Aside0.mk hy207; clear hy207
    have H' := Aside0.mk H
    clear H
    go_wp2_with (first | ((with_reducible refine gate_dst (N := 34) rfl ?_); refine Kd.R_lit k50 _ 50 ?hg (N := 34) ?hd (xs := ([] : List (S50))) (inner := []) (ok := fun _ => True) (okp := fun _ => True) ?hr ?hp (fun _ hk => hk) trivial (Below.refl _ _) (Nat.le_refl _) (by simp) ?_; (case hd => rfl); (case hg => rfl); (case hr => exact ax12); (case hp => exact ax17); intro v208 w15 ho16 hb hg_ hnew_; clear hg_ hnew_; (first | rw [← Ny207.out] at ho16 | (simp only [Int.reduceToNat] at ho16; rw [← Ny207.out] at ho16)); have n0_ := Aside0.mk (Kd.V_elder' ax56 (Kd.R_base ho16) hb); have n1_ := Aside0.mk (Kd.R_lower ho16 (below_size ax54)); have n2_ := Aside0.mk (blk_below (g := gb198) (o := .cells #[.slice none 0 0] 38 (0, 0)) ax55 hb); have n3_ := Aside0.mk (below_step ax54 hb); clear HO_3; clear BK198; clear HB; have HO_3 := n0_; have HO209 := n1_; have BK198 := n2_; have HB := n3_; clear n0_ n1_ n2_ n3_; clear hb ho16; obtain ⟨Ao17, co17, eo17⟩ := Kd.R_slice HO209.out; subst eo17) | ((with_reducible refine gate_dst (N := 6) rfl ?_); refine box_event ?hg (N := 6) ?hd (cs := #[.slice none 0 0]) (t := 38) ?hr ?_; (case hd => rfl); (case hg => rfl); (case hr => exact ax12); intro gb210 hg w18 hbox hb; have n0_ := Aside0.mk (Kd.V_below (Kd.V_elderB ax56 gb210 (Nat.le_of_eq hg.symm)) hb); have n1_ := Aside0.mk (Kd.R_below (by (with_reducible repeat (first | apply Kd.R_alloc | apply Kd.R_drewN | apply Kd.R_drew)); exact HO209.out) hb); have n2_ := Aside0.mk (blk_below (g := gb198) (o := .cells #[.slice none 0 0] 38 (0, 0)) ax55 hb); have n3_ := Aside0.mk (below_step ax54 hb); have n4_ := Aside0.mk (hbox); have n5_ := Aside0.mk ((ax57 : w.heap.size ≤ gb210)); have n6_ := Aside0.mk ((ax57 : w.heap.size ≤ gb210)); have n7_ := Aside0.mk ((ax58 : gb198 ≠ gb210)); have n8_ := Aside0.mk ((ax59 : gb210 ≠ gb198)); clear HO_3; clear HO209; clear BK198; clear HB; have HO_3 := n0_; have HO209 := n1_; have BK198 := n2_; have HB := n3_; have BK210 := n4_; have GW210 := n5_; have GE210 := n6_; have NB198_210 := n7_; have NB210_198 := n8_; clear n0_ n1_ n2_ n3_ n4_ n5_ n6_ n7_ n8_; clear hb hbox hg; have hnb19 := NB210_198.out; have hnc19 := NB198_210.out; have hcz20_0 : w18.cell? ⟨gb210, 0, none⟩ = some (.slice none 0 0) := (blk_cell BK210.out 0).trans rfl; have hfz20_0 := blk_frozen BK210.out 0))
    go_loopg [7] k1 (fun kq v7 w' => ∃ (x7_2 : Int) (x211000_2 : List (S50)) (u211000 : Value), v7 = .int .i64 x7_2 ∧ Aside0 (spec_l2Of.l2 kq l0 x3_1 x7_2 x211000_2 = some r) ∧ Aside0 (kq ≤ k1) ∧ Aside0 (Kd.V Kd.string 9 w' w.heap.size (fun k_ => some k_ ≠ (u211000 : Value).ownBlock ∧ k_ ≠ gb198 ∧ k_ ≠ gb210) u3 x3_1) ∧ Aside0 (Kd.R k50 50 w' w.heap.size (fun _ => True) u211000 x211000_2) ∧ Aside0 (w'.heap[gb198]? = some (.cells #[(.slice none 0 0)] 38 (0, 0))) ∧ Aside0 (w'.heap[gb210]? = some (.cells #[u211000] 38 (0, 0))) ∧ Aside0 (Below w.heap.size w w'))
    case atStart => exact ⟨(0), (y207), (.slice Ao17 y207.length co17), ax15, H', ⟨Nat.le_refl _⟩, ⟨by (with_reducible repeat (first | apply Kd.V_alloc | apply Kd.V_drewN | apply Kd.V_drew)); exact Kd.V_mono (Kd.V_far (p := ⟨gb210, 0, none⟩) (Kd.V_mono HO_3.out (fun k_ hk => (⟨hk, hk.2⟩ : _ ∧ k_ ≠ gb210))) (fun _ hk => hk.2) (.slice Ao17 y207.length co17)) (fun _ hk => ⟨hk.1.1.2, ⟨hk.1.1.1, hk.1.2⟩⟩)⟩, ⟨by (with_reducible repeat (first | apply Kd.R_alloc | apply Kd.R_drewN | apply Kd.R_drew)); exact Kd.R_mono (Kd.R_far (p := ⟨gb210, 0, none⟩) (Kd.R_types HO209.out BK210.out (by decide)) (fun _ hk => hk.2) (.slice Ao17 y207.length co17)) (fun _ hk => trivial)⟩, ⟨by (with_reducible repeat (first | refine blk_drewN ?_ _ | refine blk_drew ?_ | refine blk_alloc ?_ _)); refine blk_far ?_ NB198_210.out _; (with_reducible repeat (first | refine blk_drewN ?_ _ | refine blk_drew ?_ | refine blk_alloc ?_ _)); exact BK198.out⟩, ⟨by (with_reducible repeat (first | refine blk_drewN ?_ _ | refine blk_drew ?_ | refine blk_alloc ?_ _)); refine blk_put (cs := #[.slice none 0 0]) ?_ 0 _ rfl; (with_reducible repeat (first | refine blk_drewN ?_ _ | refine blk_drew ?_ | refine blk_alloc ?_ _)); exact BK210.out⟩, ⟨by repeat (first | (with_reducible first | exact HB.out | apply below_alloc | apply pw_below_drewN | apply below_drew1 | refine below_set ?_ GE198.out | refine below_set ?_ GE210.out) | exact HB.out)⟩⟩
    case round =>
     clear H'
     try clear c1
     try clear c2
     try clear p2
     try clear q2
     try clear hx2
     try clear c5
     try clear c5b0
     try clear c6
     try clear c6b0
     try clear p6
     try clear c7
     try clear c7b0
     try clear c8
     try clear c8b0
     try clear c9
     try clear c9b0
     try clear c9b1
     try clear c10
     try clear c10b0
     try clear c14
     try clear c19
     try clear p20
     try clear q20
     try clear hx20
     try clear hcz20_0
     try clear hfz20_0
     try clear hx202_0
     try clear hx203_0
     try clear p2
     try clear p202
     try clear p203
     try clear q202
     try clear q203
     obtain ⟨x7_2, x211000_2, u211000, rfl, HA, HK2, HO_3, HO_211000, BK198, BK210, HB⟩ := hrel
     cases gk with
     | zero => exact absurd HA.out (by simp [spec_l2Of.l2])
     | succ k2 =>
      have H := HA.out; clear HA
      simp only [spec_l2Of.l2] at H
      by_cases c21 : x7_2 < (x3_1.length : Int)
      ·rw [if_pos c21] at H
       have c21b0 : decide (x7_2 < (x3_1.length : Int)) = true := decide_eq_true c21
       clear c21
       by_cases c22 : 0 ≤ x7_2
       ·rw [if_pos c22] at H
        have c22b0 : decide (0 ≤ x7_2) = true := decide_eq_true c22
        clear c22; replace H := Option.bind_eq_some_iff.mp H
        obtain ⟨t212, A230, H⟩ := H
        replace H : (if x7_2 > 0 then (if 0 ≤ (wrap64 (((rdOf ByteArray.empty x3_1 x7_2).size : Int) - 1)) then (if (wrap64 (((rdOf ByteArray.empty x3_1 x7_2).size : Int) - 1)) < ((rdOf ByteArray.empty x3_1 x7_2).size : Int) then (if (wrap64 (((rdOf ByteArray.empty x3_1 x7_2).size : Int) - 1)) ≤ ((rdOf ByteArray.empty x3_1 x7_2).size : Int) then ((spec_l2Place.f k2 x3_1 ((rdOf ByteArray.empty x3_1 x7_2).extract 0 ((wrap64 (((rdOf ByteArray.empty x3_1 x7_2).size : Int) - 1)) : Int).toNat)).bind fun t214 => (if x211000_2.length < 5864062014805 then (spec_l2Of.l2 k2 l0 x3_1 (wrap64 (x7_2 + 1)) (x211000_2 ++ [(⟨((bt (rdOf ByteArray.empty x3_1 x7_2) (wrap64 (((rdOf ByteArray.empty x3_1 x7_2).size : Int) - 1))) - 97) % 256, t214, t212⟩ : S50)])) else (none))) else (none)) else (none)) else (none)) else (if x211000_2.length < 5864062014805 then (spec_l2Of.l2 k2 l0 x3_1 (wrap64 (x7_2 + 1)) (x211000_2 ++ [(⟨(-1), (-1), t212⟩ : S50)])) else (none))) = some r := H
        have A23 := Aside0.mk A230; clear A230
        by_cases c24 : x7_2 > 0
        ·rw [if_pos c24] at H
         have c24b0 : decide (0 < x7_2) = true := decide_eq_true c24
         clear c24
         obtain ⟨ji25, hji25⟩ : ∃ j_ : Int, (wrap64 (((rdOf ByteArray.empty x3_1 x7_2).size : Int) - 1)) = j_ := ⟨_, rfl⟩
         replace H : (if 0 ≤ (ji25) then (if (ji25) < ((rdOf ByteArray.empty x3_1 x7_2).size : Int) then (if (ji25) ≤ ((rdOf ByteArray.empty x3_1 x7_2).size : Int) then ((spec_l2Place.f k2 x3_1 ((rdOf ByteArray.empty x3_1 x7_2).extract 0 ((ji25) : Int).toNat)).bind fun t214 => (if x211000_2.length < 5864062014805 then (spec_l2Of.l2 k2 l0 x3_1 (wrap64 (x7_2 + 1)) (x211000_2 ++ [(⟨((bt (rdOf ByteArray.empty x3_1 x7_2) (ji25)) - 97) % 256, t214, t212⟩ : S50)])) else (none))) else (none)) else (none)) else (none)) = some r := by first | (rw [hji25] at H; exact H) | (simp only [hji25] at H ⊢; exact H)
         (try rw [hji25] at A23)
         have hji25w : (IntKind.i64.wrap (((rdOf ByteArray.empty x3_1 x7_2).size : Int) - 1)) = ji25 := (i64_w _).trans hji25
         by_cases c26 : 0 ≤ (ji25)
         ·rw [if_pos c26] at H
          have c26b0 : decide (0 ≤ (ji25)) = true := decide_eq_true c26
          clear c26
          by_cases c27 : (ji25) < ((rdOf ByteArray.empty x3_1 x7_2).size : Int)
          ·rw [if_pos c27] at H
           have c27b0 : decide ((ji25) < ((rdOf ByteArray.empty x3_1 x7_2).size : Int)) = true := decide_eq_true c27
           clear c27; have c29b0 := eq_true (of_decide_eq_true ax16 : 0 ≤ (ji25))
           by_cases c30 : (ji25) ≤ ((rdOf ByteArray.empty x3_1 x7_2).size : Int)
           ·rw [if_pos c30] at H
            have c30b0 := eq_true c30
            have c30b1 : decide ((ji25) ≤ ((rdOf ByteArray.empty x3_1 x7_2).size : Int)) = true := decide_eq_true c30
            clear c30
            obtain ⟨js31, hjs31⟩ : ∃ j_ : ByteArray, ((rdOf ByteArray.empty x3_1 x7_2).extract 0 ((ji25) : Int).toNat) = j_ := ⟨_, rfl⟩
            replace H : ((spec_l2Place.f k2 x3_1 js31).bind fun t214 => (if x211000_2.length < 5864062014805 then (spec_l2Of.l2 k2 l0 x3_1 (wrap64 (x7_2 + 1)) (x211000_2 ++ [(⟨((bt (rdOf ByteArray.empty x3_1 x7_2) (ji25)) - 97) % 256, t214, t212⟩ : S50)])) else (none))) = some r := by first | (rw [hjs31] at H; exact H) | (simp only [hjs31] at H ⊢; exact H)
            replace H := Option.bind_eq_some_iff.mp H
            obtain ⟨t214, A320, H⟩ := H
            replace H : (if x211000_2.length < 5864062014805 then (spec_l2Of.l2 k2 l0 x3_1 (wrap64 (x7_2 + 1)) (x211000_2 ++ [(⟨((bt (rdOf ByteArray.empty x3_1 x7_2) (ji25)) - 97) % 256, t214, t212⟩ : S50)])) else (none)) = some r := H
            have A32 := Aside0.mk A320; clear A320
            by_cases c33 : x211000_2.length < 5864062014805
            ·rw [if_pos c33] at H
             have LMc33 := Aside0.mk c33; clear c33
             obtain ⟨y215, hy215⟩ : ∃ y_ : List (S50), y_ = (x211000_2 ++ [(⟨((bt (rdOf ByteArray.empty x3_1 x7_2) (ji25)) - 97) % 256, t214, t212⟩ : S50)]) := ⟨_, rfl⟩
             replace H : (spec_l2Of.l2 k2 l0 x3_1 (wrap64 (x7_2 + 1)) y215) = some r := by first | (rw [hy215]; with_reducible exact H) | (have H2_ := (Option.bind_some _ _).symm.trans H; rw [hy215]; with_reducible exact H2_) | (have H2_ := (Option.bind_some _ _).symm.trans H; with_reducible exact H2_) | with_reducible exact H | (rw [hy215]; exact H) | exact H
             have Ny215 := Aside0.mk hy215; clear hy215
             have H' := Aside0.mk H
             clear H
             obtain ⟨Ao34, co34, eo34⟩ := Kd.V_slice HO_3.out
             subst eo34
             have p211 : 0 ≤ (x7_2 : Int) := of_decide_eq_true ax16
             have q211 : x7_2 < (x3_1.length : Int) := of_decide_eq_true ax16
             obtain ⟨ad211, e211, hx211_0⟩ := Kd.at_string (Kd.V_reads' HO_3.out).2.2 x7_2 p211 q211
             cases e211; replace p211 := eq_true p211; replace q211 := eq_true q211
             go_wp2_with (first | ((with_reducible refine gate_callee (f := 21) rfl ?_); refine goesL_ (some 48) rfl rfl Tryd.func21 (by kernel_rfl) rfl #[.slice A0 l0.length c0, .string (rdOf ByteArray.empty x3_1 x7_2)] rfl ax24 ?_; (with_reducible refine (spec_l2Has.calls k2 _ _ l0 (rdOf ByteArray.empty x3_1 x7_2) t212 _ ?side1 ?side2 A23.out).mono ?_); (case side1 => exact ax22); (case side2 => exact HC0.out); rintro e w' ⟨rfl, ⟨nd, rfl⟩⟩; refine ⟨_, rfl, ?_⟩; (try (rw [drewN_self wr]; generalize hq_ : World.drewN wr _ = wr; have n0_ : Aside0 (Kd.R k50 50 wr w.heap.size (fun _ => True) u211000 x211000_2) := ⟨by rw [← hq_]; exact ax60⟩; have n1_ : Aside0 (Kd.V Kd.string 9 wr w.heap.size (fun k_ => some k_ ≠ (u211000 : Value).ownBlock ∧ k_ ≠ gb198 ∧ k_ ≠ gb210) (.slice (some ad211) x3_1.length co34) x3_1) := ⟨by rw [← hq_]; exact ax56⟩; have n2_ : Aside0 (wr.heap[gb198]? = some (.cells #[.slice none 0 0] 38 (0, 0))) := ⟨by rw [← hq_]; exact ax55⟩; have n3_ : Aside0 (wr.heap[gb210]? = some (.cells #[u211000] 38 (0, 0))) := ⟨by rw [← hq_]; exact ax61⟩; have n4_ : Aside0 (Below w.heap.size w wr) := ⟨by rw [← hq_]; exact ax62⟩; clear HO_211000 HO_3 BK198 BK210 HB hq_; have HO_211000 := n0_; have HO_3 := n1_; have BK198 := n2_; have BK210 := n3_; have HB := n4_; clear n0_ n1_ n2_ n3_ n4_))) | ((with_reducible refine gate_dst (N := 9) rfl ?_); refine box_event ?hg (N := 9) ?hd (cs := #[.int .i64 0, .int .i64 0, .bool false]) (t := 50) ?hr ?_; (case hd => rfl); (case hg => rfl); (case hr => exact ax12); intro gb213 hg w35 hbox hb; have n0_ := Aside0.mk (Kd.V_below (Kd.V_elderB ax56 gb213 (Nat.le_of_eq hg.symm)) hb); have n1_ := Aside0.mk (Kd.R_below (Kd.R_elderB ax60 gb213 (Nat.le_of_eq hg.symm)) hb); have n2_ := Aside0.mk (blk_below (g := gb198) (o := .cells #[.slice none 0 0] 38 (0, 0)) ax55 hb); have n3_ := Aside0.mk (blk_below (g := gb210) (o := .cells #[u211000] 38 (0, 0)) ax61 hb); have n4_ := Aside0.mk (below_step ax62 hb); have n5_ := Aside0.mk (hbox); have n6_ := Aside0.mk ((ax63 : w.heap.size ≤ gb213)); have n7_ := Aside0.mk ((ax63 : w.heap.size ≤ gb213)); have n8_ := Aside0.mk ((ax58 : gb198 ≠ gb213)); have n9_ := Aside0.mk ((ax59 : gb213 ≠ gb198)); have n10_ := Aside0.mk ((ax64 : gb210 ≠ gb213)); have n11_ := Aside0.mk ((ax65 : gb213 ≠ gb210)); clear HO_3; clear HO_211000; clear BK198; clear BK210; clear HB; have HO_3 := n0_; have HO_211000 := n1_; have BK198 := n2_; have BK210 := n3_; have HB := n4_; have BK213 := n5_; have GW213 := n6_; have GE213 := n7_; have NB198_213 := n8_; have NB213_198 := n9_; have NB210_213 := n10_; have NB213_210 := n11_; clear n0_ n1_ n2_ n3_ n4_ n5_ n6_ n7_ n8_ n9_ n10_ n11_; clear hb hbox hg; have hnb36 := NB213_198.out; have hnc36 := NB198_213.out; have hnb37 := NB213_210.out; have hnc37 := NB210_213.out; have hcz38_0 : w35.cell? ⟨gb213, 0, none⟩ = some (.int .i64 0) := (blk_cell BK213.out 0).trans rfl; have hcz38_1 : w35.cell? ⟨gb213, 1, none⟩ = some (.int .i64 0) := (blk_cell BK213.out 1).trans rfl; have hcz38_2 : w35.cell? ⟨gb213, 2, none⟩ = some (.bool false) := (blk_cell BK213.out 2).trans rfl; have hfz38_0 := blk_frozen BK213.out 0; have hfz38_1 := blk_frozen BK213.out 1; have hfz38_2 := blk_frozen BK213.out 2) | ((with_reducible refine gate_store (t := 50) (p := 9) rfl ?_); refine store_event (t := 50) (p := 9) (v := ?vo_w39) (w1 := (((w35.setCell ⟨gb213, 0, none⟩ (.int .i64 (-1))).setCell ⟨gb213, 1, none⟩ (.int .i64 (-1))).setCell ⟨gb213, 2, none⟩ (.bool t212))) ?hg ?ho ?hn ?hr ?_; (case ho => rfl); (case hg => rfl); (case hn => rfl); (case hr => exact ax12); intro w39 hw; have n0_ : Aside0 (Kd.V Kd.string 9 w39 w.heap.size (fun k_ => some k_ ≠ (u211000 : Value).ownBlock ∧ k_ ≠ gb198 ∧ k_ ≠ gb210 ∧ k_ ≠ gb213) (.slice (some ad211) x3_1.length co34) x3_1) := ⟨(by rw [hw]; exact (by (with_reducible repeat (first | apply Kd.V_alloc | apply Kd.V_drewN | apply Kd.V_drew)); exact Kd.V_mono (Kd.V_far (p := ⟨gb213, 2, none⟩) (Kd.V_far (p := ⟨gb213, 1, none⟩) (Kd.V_far (p := ⟨gb213, 0, none⟩) (Kd.V_mono HO_3.out (fun k_ hk => (⟨hk, hk.2⟩ : _ ∧ k_ ≠ gb213))) (fun _ hk => hk.2) (.int .i64 (-1))) (fun _ hk => hk.2) (.int .i64 (-1))) (fun _ hk => hk.2) (.bool t212)) (fun _ hk => ⟨hk.1.1.1, ⟨hk.1.1.2.1, ⟨hk.1.1.2.2, hk.1.2⟩⟩⟩)))⟩; have n1_ : Aside0 (Kd.R k50 50 w39 w.heap.size (fun k_ => k_ ≠ gb213) u211000 x211000_2) := ⟨(by rw [hw]; exact ax66)⟩; have n2_ : Aside0 (w39.heap[gb198]? = some (.cells #[.slice none 0 0] 38 (0, 0))) := ⟨(by rw [hw]; exact ax67)⟩; have n3_ : Aside0 (w39.heap[gb210]? = some (.cells #[u211000] 38 (0, 0))) := ⟨(by rw [hw]; exact ax68)⟩; have n4_ : Aside0 (w39.heap[gb213]? = some (.cells #[.int .i64 (-1), .int .i64 (-1), .bool t212] 50 (0, 0))) := ⟨(by rw [hw]; exact ax69)⟩; have n5_ : Aside0 (Below w.heap.size w w39) := ⟨ax70⟩; clear hw; clear HO_3; clear HO_211000; clear BK198; clear BK210; clear BK213; clear HB; have HO_3 := n0_; have HO_211000 := n1_; have BK198 := n2_; have BK210 := n3_; have BK213 := n4_; have HB := n5_; clear n0_ n1_ n2_ n3_ n4_ n5_; have p28 : 0 ≤ ((ji25) : Int) := of_decide_eq_true ax16; have q28 : (ji25) < ((rdOf ByteArray.empty x3_1 x7_2).size : Int) := of_decide_eq_true ax16; have hx28 := bt_at (rdOf ByteArray.empty x3_1 x7_2) (ji25); replace p28 := eq_true p28; replace q28 := eq_true q28; have hcz40_0 : w39.cell? ⟨gb213, 0, none⟩ = some (.int .i64 (-1)) := (blk_cell BK213.out 0).trans rfl; have hcz40_1 : w39.cell? ⟨gb213, 1, none⟩ = some (.int .i64 (-1)) := (blk_cell BK213.out 1).trans rfl; have hcz40_2 : w39.cell? ⟨gb213, 2, none⟩ = some (.bool t212) := (blk_cell BK213.out 2).trans rfl; have hfz40_0 := blk_frozen BK213.out 0; have hfz40_1 := blk_frozen BK213.out 1; have hfz40_2 := blk_frozen BK213.out 2) | ((with_reducible refine gate_store (t := 3) (p := 59) rfl ?_); refine store_event (t := 3) (p := 59) (v := ?vo_w41) (w1 := (w39.setCell ⟨gb213, 0, none⟩ (.int .i64 (((bt (rdOf ByteArray.empty x3_1 x7_2) (ji25)) - 97) % 256)))) ?hg ?ho ?hn ?hr ?_; (case ho => rfl); (case hg => rfl); (case hn => rfl); (case hr => exact ax12); intro w41 hw; have n0_ : Aside0 (Kd.V Kd.string 9 w41 w.heap.size (fun k_ => some k_ ≠ (u211000 : Value).ownBlock ∧ k_ ≠ gb198 ∧ k_ ≠ gb210 ∧ k_ ≠ gb213) (.slice (some ad211) x3_1.length co34) x3_1) := ⟨(by rw [hw]; exact (by (with_reducible repeat (first | apply Kd.V_alloc | apply Kd.V_drewN | apply Kd.V_drew)); exact Kd.V_mono (Kd.V_far (p := ⟨gb213, 0, none⟩) (Kd.V_mono HO_3.out (fun k_ hk => (⟨hk, hk.2.2.2⟩ : _ ∧ k_ ≠ gb213))) (fun _ hk => hk.2) (.int .i64 (((bt (rdOf ByteArray.empty x3_1 x7_2) (ji25)) - 97) % 256))) (fun _ hk => ⟨hk.1.1, ⟨hk.1.2.1, ⟨hk.1.2.2.1, hk.1.2.2.2⟩⟩⟩)))⟩; have n1_ : Aside0 (Kd.R k50 50 w41 w.heap.size (fun k_ => k_ ≠ gb213) u211000 x211000_2) := ⟨(by rw [hw]; exact (by (with_reducible repeat (first | apply Kd.R_alloc | apply Kd.R_drewN | apply Kd.R_drew)); exact Kd.R_mono (Kd.R_far (p := ⟨gb213, 0, none⟩) (Kd.R_mono HO_211000.out (fun k_ hk => (⟨hk, hk⟩ : _ ∧ k_ ≠ gb213))) (fun _ hk => hk.2) (.int .i64 (((bt (rdOf ByteArray.empty x3_1 x7_2) (ji25)) - 97) % 256))) (fun _ hk => hk.1)))⟩; have n2_ : Aside0 (w41.heap[gb198]? = some (.cells #[.slice none 0 0] 38 (0, 0))) := ⟨(by rw [hw]; exact ax71)⟩; have n3_ : Aside0 (w41.heap[gb210]? = some (.cells #[u211000] 38 (0, 0))) := ⟨(by rw [hw]; exact ax72)⟩; have n4_ : Aside0 (w41.heap[gb213]? = some (.cells #[.int .i64 (((bt (rdOf ByteArray.empty x3_1 x7_2) (ji25)) - 97) % 256), .int .i64 (-1), .bool t212] 50 (0, 0))) := ⟨(by rw [hw]; exact (by (with_reducible repeat (first | refine blk_drewN ?_ _ | refine blk_drew ?_ | refine blk_alloc ?_ _)); refine blk_put (cs := #[.int .i64 (-1), .int .i64 (-1), .bool t212]) ?_ 0 _ rfl; (with_reducible repeat (first | refine blk_drewN ?_ _ | refine blk_drew ?_ | refine blk_alloc ?_ _)); exact BK213.out))⟩; have n5_ : Aside0 (Below w.heap.size w w41) := ⟨ax70⟩; clear hw; clear HO_3; clear HO_211000; clear BK198; clear BK210; clear BK213; clear HB; have HO_3 := n0_; have HO_211000 := n1_; have BK198 := n2_; have BK210 := n3_; have BK213 := n4_; have HB := n5_; clear n0_ n1_ n2_ n3_ n4_ n5_) | ((with_reducible refine gate_callee (f := 25) rfl ?_); refine goesL_ (some 66) rfl rfl Tryd.func25 (by kernel_rfl) rfl #[.slice (some ad211) x3_1.length co34, .string js31] rfl ax24 ?_; (with_reducible refine (spec_l2Place.calls k2 _ _ x3_1 js31 t214 _ ?side1 ?side2 A32.out).mono ?_); (case side1 => repeat (first | exact (Kd.V_reads' HO_3.out).2.2 | (with_reducible refine Kd.C_alloc ?_ _) | (with_reducible refine Kd.C_drewN ?_ _) | (with_reducible refine Kd.C_drew ?_))); (case side2 => exact (Kd.V_reads' HO_3.out).2.1); rintro e w' ⟨rfl, ⟨nd, rfl⟩⟩; refine ⟨_, rfl, ?_⟩; (try (rw [drewN_self w41]; generalize hq_ : World.drewN w41 _ = w41; have n0_ : Aside0 (Kd.R k50 50 w41 w.heap.size (fun k_ => k_ ≠ gb213) u211000 x211000_2) := ⟨by rw [← hq_]; exact ax60⟩; have n1_ : Aside0 (Kd.V Kd.string 9 w41 w.heap.size (fun k_ => some k_ ≠ (u211000 : Value).ownBlock ∧ k_ ≠ gb198 ∧ k_ ≠ gb210 ∧ k_ ≠ gb213) (.slice (some ad211) x3_1.length co34) x3_1) := ⟨by rw [← hq_]; exact ax56⟩; have n2_ : Aside0 (w41.heap[gb198]? = some (.cells #[.slice none 0 0] 38 (0, 0))) := ⟨by rw [← hq_]; exact ax55⟩; have n3_ : Aside0 (w41.heap[gb210]? = some (.cells #[u211000] 38 (0, 0))) := ⟨by rw [← hq_]; exact ax61⟩; have n4_ : Aside0 (w41.heap[gb213]? = some (.cells #[.int .i64 (((bt (rdOf ByteArray.empty x3_1 x7_2) (ji25)) - 97) % 256), .int .i64 (-1), .bool t212] 50 (0, 0))) := ⟨by rw [← hq_]; exact (by (with_reducible repeat (first | refine blk_drewN ?_ _ | refine blk_drew ?_ | refine blk_alloc ?_ _)); exact BK213.out)⟩; have n5_ : Aside0 (Below w.heap.size w w41) := ⟨by rw [← hq_]; exact ax73⟩; clear HO_211000 HO_3 BK198 BK210 BK213 HB hq_; have HO_211000 := n0_; have HO_3 := n1_; have BK198 := n2_; have BK210 := n3_; have BK213 := n4_; have HB := n5_; clear n0_ n1_ n2_ n3_ n4_ n5_)); have hcz42_0 : w41.cell? ⟨gb213, 0, none⟩ = some (.int .i64 (((bt (rdOf ByteArray.empty x3_1 x7_2) (ji25)) - 97) % 256)) := (blk_cell BK213.out 0).trans rfl; have hcz42_1 : w41.cell? ⟨gb213, 1, none⟩ = some (.int .i64 (-1)) := (blk_cell BK213.out 1).trans rfl; have hcz42_2 : w41.cell? ⟨gb213, 2, none⟩ = some (.bool t212) := (blk_cell BK213.out 2).trans rfl; have hfz42_0 := blk_frozen BK213.out 0; have hfz42_1 := blk_frozen BK213.out 1; have hfz42_2 := blk_frozen BK213.out 2; have hnb43 := NB210_198.out; have hnc43 := NB198_210.out; have hcz44_0 : w41.cell? ⟨gb210, 0, none⟩ = some (u211000) := (blk_cell BK210.out 0).trans rfl; have hfz44_0 := blk_frozen BK210.out 0) | ((with_reducible refine gate_builtin (b := .append) (xs := #[.tmp 69, .tmp 71]) rfl ?_); at_builtin; refine Kd.R_append k50 (w0 := w) w.heap.size rfl (.tmp 69) (.tmp 71) 36 50 (.agg #[(.int .i64 0), (.int .i64 0), (.bool false)]) 24 rfl Tryd.underlying36 info50 rfl (by decide) (by omega) u211000 x211000_2 (⟨((bt (rdOf ByteArray.empty x3_1 x7_2) (ji25)) - 97) % 256, t214, t212⟩ : S50) [.int .i64 (((bt (rdOf ByteArray.empty x3_1 x7_2) (ji25)) - 97) % 256), .int .i64 t214, .bool t212] (fun k_ => k_ ≠ gb213) (fun _ => False) rfl ax12 ?aP (fun _ hk => hk.elim) ?aF ?aO ?aB ?aS ?aL ?_; (case aP => exact k50_mkM _ _ _ (⟨((bt (rdOf ByteArray.empty x3_1 x7_2) (ji25)) - 97) % 256, t214, t212⟩ : S50)); (case aB => exact ax74); (case aF => exact (fun k_ hk => Kd.freshB (g := gb213) (o := .cells #[.int .i64 (((bt (rdOf ByteArray.empty x3_1 x7_2) (ji25)) - 97) % 256), .int .i64 t214, .bool t212] 50 (0, 0)) ax75 k_ hk)); (case aO => exact (by (with_reducible repeat (first | apply Kd.R_alloc | apply Kd.R_drewN | apply Kd.R_drew)); exact Kd.R_mono (Kd.R_far (p := ⟨gb213, 1, none⟩) (Kd.R_mono HO_211000.out (fun k_ hk => (⟨hk, hk⟩ : _ ∧ k_ ≠ gb213))) (fun _ hk => hk.2) (.int .i64 t214)) (fun _ hk => hk.1))); (case aS => exact ax76); (case aL => have := LMc33.out; omega); intro v216 w45 ho hb hg hat; rw [← Ny215.out] at ho; have n0_ := Aside0.mk (Kd.V_afterv (ok := (fun k_ => k_ ≠ gb198 ∧ k_ ≠ gb210 ∧ k_ ≠ gb213)) (by (with_reducible repeat (first | apply Kd.V_alloc | apply Kd.V_drewN | apply Kd.V_drew)); exact Kd.V_mono (Kd.V_far (p := ⟨gb213, 1, none⟩) (Kd.V_mono HO_3.out (fun k_ hk => (⟨hk, hk.2.2.2⟩ : _ ∧ k_ ≠ gb213))) (fun _ hk => hk.2) (.int .i64 t214)) (fun _ hk => ⟨⟨hk.1.2.1, ⟨hk.1.2.2.1, hk.1.2.2.2⟩⟩, hk.1.1⟩)) hg hat); have n1_ := Aside0.mk (blk_grown (g := gb198) (o := .cells #[.slice none 0 0] 38 (0, 0)) ax71 hg (Kd.R_ne HO_211000.out BK198.out (by decide))); have n2_ := Aside0.mk (blk_grown (g := gb210) (o := .cells #[u211000] 38 (0, 0)) ax72 hg (Kd.R_ne HO_211000.out BK210.out (by decide))); have n3_ := Aside0.mk (blk_grown (g := gb213) (o := .cells #[.int .i64 (((bt (rdOf ByteArray.empty x3_1 x7_2) (ji25)) - 97) % 256), .int .i64 t214, .bool t212] 50 (0, 0)) ax75 hg (Kd.R_away HO_211000.out (fun _ hk => hk))); have n4_ := Aside0.mk (hb); have n5_ := Aside0.mk (ho); clear HO_3; clear BK198; clear BK210; clear BK213; clear HB; clear HO_211000; have HO_3 := n0_; have BK198 := n1_; have BK210 := n2_; have BK213 := n3_; have HB := n4_; have HO217 := n5_; clear n0_ n1_ n2_ n3_ n4_ n5_; clear ho hb hg hat; obtain ⟨Ao46, co46, eo46⟩ := Kd.R_slice HO217.out; subst eo46; have hcz47_0 : w45.cell? ⟨gb210, 0, none⟩ = some (u211000) := (blk_cell BK210.out 0).trans rfl; have hfz47_0 := blk_frozen BK210.out 0))
             go_roundg k2
             case measure => have := HK1.out; have := HK2.out; omega
             case rel => exact ⟨(wrap64 (x7_2 + 1)), (y215), (.slice Ao46 y215.length co46), ax15, H', ⟨by have := HK1.out; have := HK2.out; omega⟩, ⟨by (with_reducible repeat (first | apply Kd.V_alloc | apply Kd.V_drewN | apply Kd.V_drew)); exact Kd.V_mono (Kd.V_far (p := ⟨gb210, 0, none⟩) (Kd.V_mono HO_3.out (fun k_ hk => (⟨hk, hk.1.2.1⟩ : _ ∧ k_ ≠ gb210))) (fun _ hk => hk.2) (.slice Ao46 y215.length co46)) (fun _ hk => ⟨hk.1.2, ⟨hk.1.1.1, hk.1.1.2.1⟩⟩)⟩, ⟨by (with_reducible repeat (first | apply Kd.R_alloc | apply Kd.R_drewN | apply Kd.R_drew)); exact Kd.R_mono (Kd.R_far (p := ⟨gb210, 0, none⟩) (Kd.R_types HO217.out BK210.out (by decide)) (fun _ hk => hk.2) (.slice Ao46 y215.length co46)) (fun _ hk => trivial)⟩, ⟨by (with_reducible repeat (first | refine blk_drewN ?_ _ | refine blk_drew ?_ | refine blk_alloc ?_ _)); refine blk_far ?_ NB198_210.out _; (with_reducible repeat (first | refine blk_drewN ?_ _ | refine blk_drew ?_ | refine blk_alloc ?_ _)); exact BK198.out⟩, ⟨by (with_reducible repeat (first | refine blk_drewN ?_ _ | refine blk_drew ?_ | refine blk_alloc ?_ _)); refine blk_put (cs := #[u211000]) ?_ 0 _ rfl; (with_reducible repeat (first | refine blk_drewN ?_ _ | refine blk_drew ?_ | refine blk_alloc ?_ _)); exact BK210.out⟩, ⟨by repeat (first | (with_reducible first | exact HB.out | apply below_alloc | apply pw_below_drewN | apply below_drew1 | refine below_set ?_ GE198.out | refine below_set ?_ GE210.out | refine below_set ?_ GE213.out) | exact HB.out)⟩⟩
            ·rw [if_neg c33] at H
             exact absurd H (by simp)
           ·rw [if_neg c30] at H
            exact absurd H (by simp)
          ·rw [if_neg c27] at H
           exact absurd H (by simp)
         ·rw [if_neg c26] at H
          exact absurd H (by simp)
        ·rw [if_neg c24] at H
         have c24b0 : decide (0 < x7_2) = false := decide_eq_false c24
         clear c24
         by_cases c48 : x211000_2.length < 5864062014805
         ·rw [if_pos c48] at H
          have LMc48 := Aside0.mk c48; clear c48
          obtain ⟨y218, hy218⟩ : ∃ y_ : List (S50), y_ = (x211000_2 ++ [(⟨(-1), (-1), t212⟩ : S50)]) := ⟨_, rfl⟩
          replace H : (spec_l2Of.l2 k2 l0 x3_1 (wrap64 (x7_2 + 1)) y218) = some r := by first | (rw [hy218]; with_reducible exact H) | (have H2_ := (Option.bind_some _ _).symm.trans H; rw [hy218]; with_reducible exact H2_) | (have H2_ := (Option.bind_some _ _).symm.trans H; with_reducible exact H2_) | with_reducible exact H | (rw [hy218]; exact H) | exact H
          have Ny218 := Aside0.mk hy218; clear hy218
          have H' := Aside0.mk H
          clear H
          obtain ⟨Ao49, co49, eo49⟩ := Kd.V_slice HO_3.out
          subst eo49
          have p211 : 0 ≤ (x7_2 : Int) := of_decide_eq_true ax16
          have q211 : x7_2 < (x3_1.length : Int) := of_decide_eq_true ax16
          obtain ⟨ad211, e211, hx211_0⟩ := Kd.at_string (Kd.V_reads' HO_3.out).2.2 x7_2 p211 q211
          cases e211; replace p211 := eq_true p211; replace q211 := eq_true q211
          go_wp2_with (first | ((with_reducible refine gate_callee (f := 21) rfl ?_); refine goesL_ (some 48) rfl rfl Tryd.func21 (by kernel_rfl) rfl #[.slice A0 l0.length c0, .string (rdOf ByteArray.empty x3_1 x7_2)] rfl ax24 ?_; (with_reducible refine (spec_l2Has.calls k2 _ _ l0 (rdOf ByteArray.empty x3_1 x7_2) t212 _ ?side1 ?side2 A23.out).mono ?_); (case side1 => exact ax22); (case side2 => exact HC0.out); rintro e w' ⟨rfl, ⟨nd, rfl⟩⟩; refine ⟨_, rfl, ?_⟩; (try (rw [drewN_self wr]; generalize hq_ : World.drewN wr _ = wr; have n0_ : Aside0 (Kd.R k50 50 wr w.heap.size (fun _ => True) u211000 x211000_2) := ⟨by rw [← hq_]; exact ax60⟩; have n1_ : Aside0 (Kd.V Kd.string 9 wr w.heap.size (fun k_ => some k_ ≠ (u211000 : Value).ownBlock ∧ k_ ≠ gb198 ∧ k_ ≠ gb210) (.slice (some ad211) x3_1.length co49) x3_1) := ⟨by rw [← hq_]; exact ax56⟩; have n2_ : Aside0 (wr.heap[gb198]? = some (.cells #[.slice none 0 0] 38 (0, 0))) := ⟨by rw [← hq_]; exact ax55⟩; have n3_ : Aside0 (wr.heap[gb210]? = some (.cells #[u211000] 38 (0, 0))) := ⟨by rw [← hq_]; exact ax61⟩; have n4_ : Aside0 (Below w.heap.size w wr) := ⟨by rw [← hq_]; exact ax62⟩; clear HO_211000 HO_3 BK198 BK210 HB hq_; have HO_211000 := n0_; have HO_3 := n1_; have BK198 := n2_; have BK210 := n3_; have HB := n4_; clear n0_ n1_ n2_ n3_ n4_))) | ((with_reducible refine gate_dst (N := 9) rfl ?_); refine box_event ?hg (N := 9) ?hd (cs := #[.int .i64 0, .int .i64 0, .bool false]) (t := 50) ?hr ?_; (case hd => rfl); (case hg => rfl); (case hr => exact ax12); intro gb213 hg w50 hbox hb; have n0_ := Aside0.mk (Kd.V_below (Kd.V_elderB ax56 gb213 (Nat.le_of_eq hg.symm)) hb); have n1_ := Aside0.mk (Kd.R_below (Kd.R_elderB ax60 gb213 (Nat.le_of_eq hg.symm)) hb); have n2_ := Aside0.mk (blk_below (g := gb198) (o := .cells #[.slice none 0 0] 38 (0, 0)) ax55 hb); have n3_ := Aside0.mk (blk_below (g := gb210) (o := .cells #[u211000] 38 (0, 0)) ax61 hb); have n4_ := Aside0.mk (below_step ax62 hb); have n5_ := Aside0.mk (hbox); have n6_ := Aside0.mk ((ax63 : w.heap.size ≤ gb213)); have n7_ := Aside0.mk ((ax63 : w.heap.size ≤ gb213)); have n8_ := Aside0.mk ((ax58 : gb198 ≠ gb213)); have n9_ := Aside0.mk ((ax59 : gb213 ≠ gb198)); have n10_ := Aside0.mk ((ax64 : gb210 ≠ gb213)); have n11_ := Aside0.mk ((ax65 : gb213 ≠ gb210)); clear HO_3; clear HO_211000; clear BK198; clear BK210; clear HB; have HO_3 := n0_; have HO_211000 := n1_; have BK198 := n2_; have BK210 := n3_; have HB := n4_; have BK213 := n5_; have GW213 := n6_; have GE213 := n7_; have NB198_213 := n8_; have NB213_198 := n9_; have NB210_213 := n10_; have NB213_210 := n11_; clear n0_ n1_ n2_ n3_ n4_ n5_ n6_ n7_ n8_ n9_ n10_ n11_; clear hb hbox hg; have hnb51 := NB213_198.out; have hnc51 := NB198_213.out; have hnb52 := NB213_210.out; have hnc52 := NB210_213.out; have hcz53_0 : w50.cell? ⟨gb213, 0, none⟩ = some (.int .i64 0) := (blk_cell BK213.out 0).trans rfl; have hcz53_1 : w50.cell? ⟨gb213, 1, none⟩ = some (.int .i64 0) := (blk_cell BK213.out 1).trans rfl; have hcz53_2 : w50.cell? ⟨gb213, 2, none⟩ = some (.bool false) := (blk_cell BK213.out 2).trans rfl; have hfz53_0 := blk_frozen BK213.out 0; have hfz53_1 := blk_frozen BK213.out 1; have hfz53_2 := blk_frozen BK213.out 2; have hnb54 := NB210_198.out; have hnc54 := NB198_210.out; have hcz55_0 : w50.cell? ⟨gb210, 0, none⟩ = some (u211000) := (blk_cell BK210.out 0).trans rfl; have hfz55_0 := blk_frozen BK210.out 0) | ((with_reducible refine gate_builtin (b := .append) (xs := #[.tmp 69, .tmp 71]) rfl ?_); at_builtin; refine Kd.R_append k50 (w0 := w) w.heap.size rfl (.tmp 69) (.tmp 71) 36 50 (.agg #[(.int .i64 0), (.int .i64 0), (.bool false)]) 24 rfl Tryd.underlying36 info50 rfl (by decide) (by omega) u211000 x211000_2 (⟨(-1), (-1), t212⟩ : S50) [.int .i64 (-1), .int .i64 (-1), .bool t212] (fun k_ => k_ ≠ gb213) (fun _ => False) rfl ax12 ?aP (fun _ hk => hk.elim) ?aF ?aO ?aB ?aS ?aL ?_; (case aP => exact k50_mkM _ _ _ (⟨(-1), (-1), t212⟩ : S50)); (case aB => exact ax74); (case aF => exact (fun k_ hk => Kd.freshB (g := gb213) (o := .cells #[.int .i64 (-1), .int .i64 (-1), .bool t212] 50 (0, 0)) ax69 k_ hk)); (case aO => exact ax66); (case aS => exact ax76); (case aL => have := LMc48.out; omega); intro v219 w56 ho hb hg hat; rw [← Ny218.out] at ho; have n0_ := Aside0.mk (Kd.V_afterv (ok := (fun k_ => k_ ≠ gb198 ∧ k_ ≠ gb210 ∧ k_ ≠ gb213)) (by (with_reducible repeat (first | apply Kd.V_alloc | apply Kd.V_drewN | apply Kd.V_drew)); exact Kd.V_mono (Kd.V_far (p := ⟨gb213, 2, none⟩) (Kd.V_far (p := ⟨gb213, 1, none⟩) (Kd.V_far (p := ⟨gb213, 0, none⟩) (Kd.V_mono HO_3.out (fun k_ hk => (⟨hk, hk.2⟩ : _ ∧ k_ ≠ gb213))) (fun _ hk => hk.2) (.int .i64 (-1))) (fun _ hk => hk.2) (.int .i64 (-1))) (fun _ hk => hk.2) (.bool t212)) (fun _ hk => ⟨⟨hk.1.1.2.1, ⟨hk.1.1.2.2, hk.1.2⟩⟩, hk.1.1.1⟩)) hg hat); have n1_ := Aside0.mk (blk_grown (g := gb198) (o := .cells #[.slice none 0 0] 38 (0, 0)) ax67 hg (Kd.R_ne HO_211000.out BK198.out (by decide))); have n2_ := Aside0.mk (blk_grown (g := gb210) (o := .cells #[u211000] 38 (0, 0)) ax68 hg (Kd.R_ne HO_211000.out BK210.out (by decide))); have n3_ := Aside0.mk (blk_grown (g := gb213) (o := .cells #[.int .i64 (-1), .int .i64 (-1), .bool t212] 50 (0, 0)) ax69 hg (Kd.R_away HO_211000.out (fun _ hk => hk.2))); have n4_ := Aside0.mk (hb); have n5_ := Aside0.mk (ho); clear HO_3; clear BK198; clear BK210; clear BK213; clear HB; clear HO_211000; have HO_3 := n0_; have BK198 := n1_; have BK210 := n2_; have BK213 := n3_; have HB := n4_; have HO220 := n5_; clear n0_ n1_ n2_ n3_ n4_ n5_; clear ho hb hg hat; obtain ⟨Ao57, co57, eo57⟩ := Kd.R_slice HO220.out; subst eo57; have hcz58_0 : w56.cell? ⟨gb210, 0, none⟩ = some (u211000) := (blk_cell BK210.out 0).trans rfl; have hfz58_0 := blk_frozen BK210.out 0))
          go_roundg k2
          case measure => have := HK1.out; have := HK2.out; omega
          case rel => exact ⟨(wrap64 (x7_2 + 1)), (y218), (.slice Ao57 y218.length co57), ax15, H', ⟨by have := HK1.out; have := HK2.out; omega⟩, ⟨by (with_reducible repeat (first | apply Kd.V_alloc | apply Kd.V_drewN | apply Kd.V_drew)); exact Kd.V_mono (Kd.V_far (p := ⟨gb210, 0, none⟩) (Kd.V_mono HO_3.out (fun k_ hk => (⟨hk, hk.1.2.1⟩ : _ ∧ k_ ≠ gb210))) (fun _ hk => hk.2) (.slice Ao57 y218.length co57)) (fun _ hk => ⟨hk.1.2, ⟨hk.1.1.1, hk.1.1.2.1⟩⟩)⟩, ⟨by (with_reducible repeat (first | apply Kd.R_alloc | apply Kd.R_drewN | apply Kd.R_drew)); exact Kd.R_mono (Kd.R_far (p := ⟨gb210, 0, none⟩) (Kd.R_types HO220.out BK210.out (by decide)) (fun _ hk => hk.2) (.slice Ao57 y218.length co57)) (fun _ hk => trivial)⟩, ⟨by (with_reducible repeat (first | refine blk_drewN ?_ _ | refine blk_drew ?_ | refine blk_alloc ?_ _)); refine blk_far ?_ NB198_210.out _; (with_reducible repeat (first | refine blk_drewN ?_ _ | refine blk_drew ?_ | refine blk_alloc ?_ _)); exact BK198.out⟩, ⟨by (with_reducible repeat (first | refine blk_drewN ?_ _ | refine blk_drew ?_ | refine blk_alloc ?_ _)); refine blk_put (cs := #[u211000]) ?_ 0 _ rfl; (with_reducible repeat (first | refine blk_drewN ?_ _ | refine blk_drew ?_ | refine blk_alloc ?_ _)); exact BK210.out⟩, ⟨by repeat (first | (with_reducible first | exact HB.out | apply below_alloc | apply pw_below_drewN | apply below_drew1 | refine below_set ?_ GE198.out | refine below_set ?_ GE210.out | refine below_set ?_ GE213.out) | exact HB.out)⟩⟩
         ·rw [if_neg c48] at H
          exact absurd H (by simp)
       ·rw [if_neg c22] at H
        exact absurd H (by simp)
      ·rw [if_neg c21] at H
       have c21b0 : decide (x7_2 < (x3_1.length : Int)) = false := decide_eq_false c21
       clear c21
       obtain rfl := Option.some.inj H
       obtain ⟨Ao59, co59, eo59⟩ := Kd.V_slice HO_3.out
       subst eo59; have hnb60 := NB210_198.out; have hnc60 := NB198_210.out
       have hcz61_0 : wr.cell? ⟨gb210, 0, none⟩ = some (u211000) := (blk_cell BK210.out 0).trans rfl
       have hfz61_0 := blk_frozen BK210.out 0
       obtain ⟨Ao62, co62, eo62⟩ := Kd.R_slice HO_211000.out
       subst eo62
       have hcz63_0 : wr.cell? ⟨gb198, 0, none⟩ = some (.slice none 0 0) := (blk_cell BK198.out 0).trans rfl
       have hfz63_0 := blk_frozen BK198.out 0
       go_wp2
       refine bodyPost_ret (results_cell_row rfl _ _ gb198 38 #[.slice Ao62 x211000_2.length co62] (0, 0) _ rfl (by (with_reducible repeat (first | refine blk_drewN ?_ _ | refine blk_drew ?_ | refine blk_alloc ?_ _)); refine blk_put (cs := #[.slice none 0 0]) ?_ 0 _ rfl; (with_reducible repeat (first | refine blk_drewN ?_ _ | refine blk_drew ?_ | refine blk_alloc ?_ _)); exact BK198.out) Tryd.underlying38 rfl (by kernel_rfl)) rfl ?_
       exact ⟨_, by first | rfl | (simp [errW_none, errW_some] <;> rfl) | (simp [*, errW_none, errW_some] <;> rfl), by (with_reducible repeat (first | apply Kd.R_alloc | apply Kd.R_drewN | apply Kd.R_drew)); exact Kd.R_mono (Kd.R_far (p := ⟨gb198, 0, none⟩) (Kd.R_types HO_211000.out BK198.out (by decide)) (fun _ hk => hk.2) (.slice Ao62 x211000_2.length co62)) (fun _ hk => trivial), by repeat (first | (with_reducible first | exact HB.out | apply below_alloc | apply pw_below_drewN | apply below_drew1 | refine below_set ?_ GE198.out | refine below_set ?_ GE210.out) | exact HB.out)⟩

end Go.Proofs.YtmecniejpoopfaaDoor.X

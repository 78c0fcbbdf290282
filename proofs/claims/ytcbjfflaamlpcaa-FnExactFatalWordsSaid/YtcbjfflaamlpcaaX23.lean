-- By gen.py (the session's own program over the kit's printer): functions of the program, each with its contract. Lean checks it.
import Derived.Test.YtcbjfflaamlpcaaX0
import Derived.Test.YtcbjfflaamlpcaaX13
import Derived.Test.YtcbjfflaamlpcaaX14
namespace Go.Proofs.Ytcbjfflaamlpcaa.X
open Go.RowKit Go.Proofs.YtcbjfflaamlpcaaW.PrintWords Go.Proofs.YtcbjfflaamlpcaaW.PrintLast Go.Proofs.YtcbjfflaamlpcaaW.PrintMore
attribute [local go_sem] max2_int min2_int max_two min_two max_three min_three max_four min_four   -- for this text's walks alone
set_option linter.unusedVariables false
set_option linter.unusedSimpArgs false

/-! ### impl_FatalWords: function 29 -/
def impl_FatalWords.l0 : Nat → List ByteArray → List (S67) → Int → Int → List (S67) → Int → List ByteArray → Option (List ByteArray × Bool)
 | 0, _, _, _, _, _, _, _ => none
 | k + 1, x8, x21, x22, x23, x635000, x635001, x635002 => if x23 < x22 then (if 0 ≤ x23 then (if x23 < (x21.length : Int) then ((impl_game_isFatal.f x635000 x635001 x635002 x23).bind fun t644 => (if t644 = true then ((impl_game_isOpen.f k x635000 x635001 x635002 ((rd_T67 x21 x23).f1)).bind fun t645 => (if t645 = true then (if x23 < (x635002.length : Int) then (if x8.length < 8796093022208 then (impl_FatalWords.l0 k (x8 ++ [rdOf ByteArray.empty x635002 x23]) x21 x22 (wrap64 (x23 + 1)) x635000 x635001 x635002) else (none)) else (none)) else (impl_FatalWords.l0 k x8 x21 x22 (wrap64 (x23 + 1)) x635000 x635001 x635002))) else (impl_FatalWords.l0 k x8 x21 x22 (wrap64 (x23 + 1)) x635000 x635001 x635002))) else (none)) else (none)) else (some (x8, true))
def impl_FatalWords.f (k : Nat) (l0_0 : List (S67)) (a1 : Int) : Option (List ByteArray × Bool) := (impl_newGame.f k l0_0 a1).bind fun bt633 => (if bt633.1 = true then (impl_FatalWords.l0 k (([] : List ByteArray)) l0_0 (l0_0.length : Int) 0 l0_0 bt633.2.1 bt633.2.2) else (some (([] : List ByteArray), false)))
theorem impl_FatalWords.mono_l : ∀ k, (∀ y0 y1 y2 y3 y4 y5 y6, LeO (impl_FatalWords.l0 k y0 y1 y2 y3 y4 y5 y6) (impl_FatalWords.l0 (k + 1) y0 y1 y2 y3 y4 y5 y6))
 | 0 => fun _ _ _ _ _ _ _ r h => by simp [impl_FatalWords.l0] at h
 | k + 1 => by
  have ih0 := impl_FatalWords.mono_l k
  ·intro y0 y1 y2 y3 y4 y5 y6
   unfold impl_FatalWords.l0
   repeat' first
   | (with_reducible exact ih0 _ _ _ _ _ _ _)
   | (with_reducible exact impl_game_isOpen.mono _ _ _ _ _)
   | (with_reducible exact impl_newGame.mono _ _ _)
   | (with_reducible exact LeO.refl _)
   | (with_reducible exact LeO.none _)
   | (with_reducible refine LeO.ite ?_ ?_)
   | (with_reducible refine LeO.bind ?_ (fun _ => ?_))
   | exact ih0 _ _ _ _ _ _ _
   | exact impl_game_isOpen.mono _ _ _ _ _
   | exact impl_newGame.mono _ _ _
   | exact LeO.none _
   | refine LeO.ite ?_ ?_
   | refine LeO.bind ?_ (fun _ => ?_)
theorem impl_FatalWords.mono : ∀ a0 a1 k, LeO (impl_FatalWords.f k a0 a1) (impl_FatalWords.f (k + 1) a0 a1) := by
 intro a0 a1 k
 have ih0 := impl_FatalWords.mono_l k
 unfold impl_FatalWords.f
 repeat' first
   | (with_reducible exact ih0 _ _ _ _ _ _ _)
   | (with_reducible exact impl_game_isOpen.mono _ _ _ _ _)
   | (with_reducible exact impl_newGame.mono _ _ _)
   | (with_reducible exact LeO.refl _)
   | (with_reducible exact LeO.none _)
   | (with_reducible refine LeO.ite ?_ ?_)
   | (with_reducible refine LeO.bind ?_ (fun _ => ?_))
   | exact ih0 _ _ _ _ _ _ _
   | exact impl_game_isOpen.mono _ _ _ _ _
   | exact impl_newGame.mono _ _ _
   | exact LeO.none _
   | refine LeO.ite ?_ ?_
   | refine LeO.bind ?_ (fun _ => ?_)
set_option maxHeartbeats 8000000 in
set_option maxRecDepth 100000 in
theorem impl_FatalWords.calls (k : Nat) (A0_0 : Option Addr) (c0_0 : Nat) (l0_0 : List (S67)) (a1 : Int) (r1 : List ByteArray) (r2 : Bool) (w : World) (hr0_0 : Kd.C k67 w A0_0 l0_0.length l0_0) (hc0_0 : l0_0.length ≤ c0_0) (h : impl_FatalWords.f k l0_0 a1 = some (r1, r2)) :
  Calls Try.prog 29 #[.agg #[.slice A0_0 l0_0.length c0_0], .int .i64 a1] w fun e w' => ∃ v0_ : Value, e = .returned (.tuple #[v0_, .bool r2]) ∧ Kd.R Kd.string 9 w' w.heap.size (fun _ => True) v0_ r1 ∧ Below w.heap.size w w' := by
 have hu30 := Try.underlying30; have hu67 := Try.underlying67; have HR0_0 := Aside0.mk hr0_0; have HC0_0 := Aside0.mk hc0_0; clear hr0_0 hc0_0; have HB := Aside0.mk (Below.refl w.heap.size w)
 have H : ((impl_newGame.f k l0_0 a1).bind fun bt633 => (if bt633.1 = true then (impl_FatalWords.l0 k (([] : List ByteArray)) l0_0 (l0_0.length : Int) 0 l0_0 bt633.2.1 bt633.2.2) else (some (([] : List ByteArray), false)))) = some (r1, r2) := h
 clear h; replace H := Option.bind_eq_some_iff.mp H
 obtain ⟨⟨t633, t635, t636⟩, A30, H⟩ := H
 replace H : (if t633 = true then (impl_FatalWords.l0 k (([] : List ByteArray)) l0_0 (l0_0.length : Int) 0 l0_0 t635 t636) else (some (([] : List ByteArray), false))) = some (r1, r2) := H
 have A3 := Aside0.mk A30; clear A30
 by_cases c4 : t633 = true
 ·subst c4
  have H1 : (impl_FatalWords.l0 k (([] : List ByteArray)) l0_0 (l0_0.length : Int) 0 l0_0 t635 t636) = some (r1, r2) := by rw [if_pos rfl] at H; exact H
  clear H; have H := H1; clear H1
  obtain ⟨y639, hy639⟩ : ∃ y_ : List ByteArray, y_ = (([] : List ByteArray)) := ⟨_, rfl⟩
  replace H : (impl_FatalWords.l0 k y639 l0_0 (l0_0.length : Int) 0 l0_0 t635 t636) = some (r1, r2) := by first | (rw [hy639]; with_reducible exact H) | (have H2_ := (Option.bind_some _ _).symm.trans H; rw [hy639]; with_reducible exact H2_) | (have H2_ := (Option.bind_some _ _).symm.trans H; with_reducible exact H2_) | with_reducible exact H | (rw [hy639]; exact H) | exact H
  have Ny639 := Aside0.mk hy639; clear hy639
  have H' := Aside0.mk H
  clear H
  go_enter Try.func29, Try.ntmps29
  go_wp2_with (first | ((with_reducible refine gate_dst (N := 2) rfl ?_); refine box_event ?hg (N := 2) ?hd (cs := #[.slice A0_0 l0_0.length c0_0]) (t := 30) ?hr ?_; (case hd => rfl); (case hg => rfl); (case hr => exact ax31); intro gb632 hg w5 hbox hb; have n0_ := Aside0.mk (below_step ax32 hb); have n1_ := Aside0.mk (hbox); have n2_ := Aside0.mk ((ax33 : w.heap.size ≤ gb632)); have n3_ := Aside0.mk ((ax33 : w.heap.size ≤ gb632)); clear HB; have HB := n0_; have BK632 := n1_; have GW632 := n2_; have GE632 := n3_; clear n0_ n1_ n2_ n3_; clear hb hbox hg; have hcz6_0 : w5.cell? ⟨gb632, 0, none⟩ = some (.slice A0_0 l0_0.length c0_0) := (blk_cell BK632.out 0).trans rfl; have hfz6_0 := blk_frozen BK632.out 0) | ((with_reducible refine gate_callee (f := 44) rfl ?_); refine goesL_ (some 14) rfl rfl Try.func44 (by kernel_rfl) rfl #[.agg #[.slice A0_0 l0_0.length c0_0], .int .i64 a1] rfl ax34 ?_; (with_reducible refine (impl_newGame.calls k _ _ l0_0 a1 true t635 t636 _ ?side1 ?side2 A3.out).mono ?_); (case side1 => exact ax35); (case side2 => exact ax36); (rintro e w7 ⟨hb, hno_, hyes_⟩; obtain ⟨gb634, v637, rfl, hbox, hgb, ho0⟩ := hyes_ rfl; clear hno_); refine ⟨_, rfl, ?_⟩; have n0_ := Aside0.mk (Kd.R_lower ho0 (below_size ax249)); have n1_ := Aside0.mk (blk_below (g := gb632) (o := .cells #[.slice A0_0 l0_0.length c0_0] 30 (0, 0)) ax250 hb); have n2_ := Aside0.mk (below_step ax249 hb); have n3_ := Aside0.mk (hbox); have n4_ := Aside0.mk ((Nat.le_trans (below_size ax249) hgb : w.heap.size ≤ gb634)); have n5_ := Aside0.mk ((Nat.le_trans (below_size ax249) hgb : w.heap.size ≤ gb634)); have n6_ := Aside0.mk ((Nat.ne_of_lt (Nat.lt_of_lt_of_le (blk_lt (g := gb632) (o := .cells #[.slice A0_0 l0_0.length c0_0] 30 (0, 0)) ax250) hgb) : gb632 ≠ gb634)); have n7_ := Aside0.mk ((Nat.ne_of_gt (Nat.lt_of_lt_of_le (blk_lt (g := gb632) (o := .cells #[.slice A0_0 l0_0.length c0_0] 30 (0, 0)) ax250) hgb) : gb634 ≠ gb632)); clear BK632; clear HB; have HO638 := n0_; have BK632 := n1_; have HB := n2_; have BK634 := n3_; have GW634 := n4_; have GE634 := n5_; have NB632_634 := n6_; have NB634_632 := n7_; clear n0_ n1_ n2_ n3_ n4_ n5_ n6_ n7_; (try clear hb); (try clear hbox); (try clear hgb); (try clear ho0)) | ((with_reducible refine gate_dst (N := 19) rfl ?_); refine Kd.R_lit Kd.string _ 9 ?hg (N := 19) ?hd (xs := ([] : List ByteArray)) (inner := []) (ok := fun _ => True) (okp := fun _ => True) ?hr ?hp (fun _ hk => hk) trivial (Below.refl _ _) (Nat.le_refl _) (by simp) ?_; (case hd => rfl); (case hg => rfl); (case hr => exact ax31); (case hp => exact ax48); intro v640 w8 ho9 hb hg_ hnew_; clear hg_ hnew_; (first | rw [← Ny639.out] at ho9 | (simp only [Int.reduceToNat] at ho9; rw [← Ny639.out] at ho9)); have n0_ := Aside0.mk (Kd.R_elder' ax251 (Kd.R_base ho9) hb); have n1_ := Aside0.mk (Kd.R_lower (Kd.R_new' ho9 (Kd.R_lt ax251)) (below_size ax252)); have n2_ := Aside0.mk (blk_below (g := gb632) (o := .cells #[.slice A0_0 l0_0.length c0_0] 30 (0, 0)) ax250 hb); have n3_ := Aside0.mk (blk_below (g := gb634) (o := .cells #[.slice A0_0 l0_0.length c0_0, .int .i64 t635, v637] 69 (0, 0)) ax253 hb); have n4_ := Aside0.mk (below_step ax252 hb); clear HO638; clear BK632; clear BK634; clear HB; have HO638 := n0_; have HO641 := n1_; have BK632 := n2_; have BK634 := n3_; have HB := n4_; clear n0_ n1_ n2_ n3_ n4_; clear hb ho9; have hnb10 := NB632_634.out; have hnc10 := NB634_632.out; have hcz11_0 : w8.cell? ⟨gb632, 0, none⟩ = some (.slice A0_0 l0_0.length c0_0) := (blk_cell BK632.out 0).trans rfl; have hfz11_0 := blk_frozen BK632.out 0))
  go_loopg [8, 23] k (fun kq v8 v23 w' => ∃ (x8_1 : List ByteArray) (x23_1 : Int), v23 = .int .i64 x23_1 ∧ Aside0 (impl_FatalWords.l0 kq x8_1 l0_0 (l0_0.length : Int) x23_1 l0_0 t635 t636 = some (r1, r2)) ∧ Aside0 (kq ≤ k) ∧ Aside0 (Kd.R Kd.string 9 w' w.heap.size (fun k_ => some k_ ≠ (v637 : Value).ownBlock) v8 x8_1) ∧ Aside0 (Kd.R Kd.string 9 w' w.heap.size (fun k_ => some k_ ≠ (v8 : Value).ownBlock) v637 t636) ∧ Aside0 (w'.heap[gb632]? = some (.cells #[(.slice A0_0 l0_0.length c0_0)] 30 (0, 0))) ∧ Aside0 (w'.heap[gb634]? = some (.cells #[(.slice A0_0 l0_0.length c0_0), .int .i64 t635, v637] 69 (0, 0))) ∧ Aside0 (Below w.heap.size w w'))
  case atStart => exact ⟨(y639), (0), ax37, H', ⟨Nat.le_refl _⟩, ⟨by (with_reducible repeat (first | apply Kd.R_alloc | apply Kd.R_drewN | apply Kd.R_drew)); exact Kd.R_mono HO641.out (fun _ hk => hk.2)⟩, ⟨by (with_reducible repeat (first | apply Kd.R_alloc | apply Kd.R_drewN | apply Kd.R_drew)); exact Kd.R_mono HO638.out (fun _ hk => hk.2)⟩, ⟨by (with_reducible repeat (first | refine blk_drewN ?_ _ | refine blk_drew ?_ | refine blk_alloc ?_ _)); exact BK632.out⟩, ⟨by (with_reducible repeat (first | refine blk_drewN ?_ _ | refine blk_drew ?_ | refine blk_alloc ?_ _)); exact BK634.out⟩, ⟨by repeat (first | (with_reducible first | exact HB.out | apply below_alloc | apply pw_below_drewN | apply below_drew1 | refine below_set ?_ GE632.out | refine below_set ?_ GE634.out) | exact HB.out)⟩⟩
  case round =>
   clear H'
   try clear c1
   try clear c2
   try clear p2
   try clear c4
   try clear c10
   try clear hcz11_0
   try clear hcz6_0
   try clear hfz11_0
   try clear hfz6_0
   obtain ⟨x8_1, x23_1, rfl, HA, HK1, HO_8, HO_635002, BK632, BK634, HB⟩ := hrel
   cases gk with
   | zero => exact absurd HA.out (by simp [impl_FatalWords.l0])
   | succ k1 =>
    have H := HA.out; clear HA
    simp only [impl_FatalWords.l0] at H
    by_cases c12 : x23_1 < (l0_0.length : Int)
    ·rw [if_pos c12] at H
     have c12b0 : decide (x23_1 < (l0_0.length : Int)) = true := decide_eq_true c12
     clear c12
     by_cases c13 : 0 ≤ x23_1
     ·rw [if_pos c13] at H
      have c13b0 : decide (0 ≤ x23_1) = true := decide_eq_true c13
      clear c13
      by_cases c14 : x23_1 < (l0_0.length : Int)
      ·rw [if_pos c14] at H
       have c14b0 : decide (x23_1 < (l0_0.length : Int)) = true := decide_eq_true c14
       clear c14; replace H := Option.bind_eq_some_iff.mp H
       obtain ⟨t644, A150, H⟩ := H
       replace H : (if t644 = true then ((impl_game_isOpen.f k1 l0_0 t635 t636 ((rd_T67 l0_0 x23_1).f1)).bind fun t645 => (if t645 = true then (if x23_1 < (t636.length : Int) then (if x8_1.length < 8796093022208 then (impl_FatalWords.l0 k1 (x8_1 ++ [rdOf ByteArray.empty t636 x23_1]) l0_0 (l0_0.length : Int) (wrap64 (x23_1 + 1)) l0_0 t635 t636) else (none)) else (none)) else (impl_FatalWords.l0 k1 x8_1 l0_0 (l0_0.length : Int) (wrap64 (x23_1 + 1)) l0_0 t635 t636))) else (impl_FatalWords.l0 k1 x8_1 l0_0 (l0_0.length : Int) (wrap64 (x23_1 + 1)) l0_0 t635 t636)) = some (r1, r2) := H
       have A15 := Aside0.mk A150; clear A150
       by_cases c16 : t644 = true
       ·subst c16
        have H1 : ((impl_game_isOpen.f k1 l0_0 t635 t636 ((rd_T67 l0_0 x23_1).f1)).bind fun t645 => (if t645 = true then (if x23_1 < (t636.length : Int) then (if x8_1.length < 8796093022208 then (impl_FatalWords.l0 k1 (x8_1 ++ [rdOf ByteArray.empty t636 x23_1]) l0_0 (l0_0.length : Int) (wrap64 (x23_1 + 1)) l0_0 t635 t636) else (none)) else (none)) else (impl_FatalWords.l0 k1 x8_1 l0_0 (l0_0.length : Int) (wrap64 (x23_1 + 1)) l0_0 t635 t636))) = some (r1, r2) := by rw [if_pos rfl] at H; exact H
        clear H; have H := H1; clear H1; replace H := Option.bind_eq_some_iff.mp H
        obtain ⟨t645, A170, H⟩ := H
        replace H : (if t645 = true then (if x23_1 < (t636.length : Int) then (if x8_1.length < 8796093022208 then (impl_FatalWords.l0 k1 (x8_1 ++ [rdOf ByteArray.empty t636 x23_1]) l0_0 (l0_0.length : Int) (wrap64 (x23_1 + 1)) l0_0 t635 t636) else (none)) else (none)) else (impl_FatalWords.l0 k1 x8_1 l0_0 (l0_0.length : Int) (wrap64 (x23_1 + 1)) l0_0 t635 t636)) = some (r1, r2) := H
        have A17 := Aside0.mk A170; clear A170
        by_cases c18 : t645 = true
        ·subst c18
         have H1 : (if x23_1 < (t636.length : Int) then (if x8_1.length < 8796093022208 then (impl_FatalWords.l0 k1 (x8_1 ++ [rdOf ByteArray.empty t636 x23_1]) l0_0 (l0_0.length : Int) (wrap64 (x23_1 + 1)) l0_0 t635 t636) else (none)) else (none)) = some (r1, r2) := by rw [if_pos rfl] at H; exact H
         clear H; have H := H1; clear H1
         by_cases c19 : x23_1 < (t636.length : Int)
         ·rw [if_pos c19] at H
          have c19b0 : decide (x23_1 < (t636.length : Int)) = true := decide_eq_true c19
          clear c19
          by_cases c20 : x8_1.length < 8796093022208
          ·rw [if_pos c20] at H
           have LMc20 := Aside0.mk c20; clear c20
           obtain ⟨y647, hy647⟩ : ∃ y_ : List ByteArray, y_ = (x8_1 ++ [rdOf ByteArray.empty t636 x23_1]) := ⟨_, rfl⟩
           replace H : (impl_FatalWords.l0 k1 y647 l0_0 (l0_0.length : Int) (wrap64 (x23_1 + 1)) l0_0 t635 t636) = some (r1, r2) := by first | (rw [hy647]; with_reducible exact H) | (have H2_ := (Option.bind_some _ _).symm.trans H; rw [hy647]; with_reducible exact H2_) | (have H2_ := (Option.bind_some _ _).symm.trans H; with_reducible exact H2_) | with_reducible exact H | (rw [hy647]; exact H) | exact H
           have Ny647 := Aside0.mk hy647; clear hy647
           have H' := Aside0.mk H
           clear H
           have p642 : 0 ≤ (x23_1 : Int) := of_decide_eq_true ax38
           have q642 : x23_1 < (l0_0.length : Int) := of_decide_eq_true ax38
           obtain ⟨ad642, e642, hx642_0, hx642_1, hx642_2⟩ := at_T67 HR0_0.out x23_1 p642 q642
           cases e642; replace hx642_0 := (HB.out.cell (World.block_lt_of_cell? w _ hx642_0)).trans hx642_0; replace hx642_1 := (HB.out.cell (World.block_lt_of_cell? w _ hx642_1)).trans hx642_1; replace hx642_2 := (HB.out.cell (World.block_lt_of_cell? w _ hx642_2)).trans hx642_2; replace p642 := eq_true p642; replace q642 := eq_true q642
           go_wp2_with (first | ((with_reducible refine gate_dst (N := 10) rfl ?_); refine box_event ?hg (N := 10) ?hd (cs := #[.int .i64 0, .int .i64 0, .bool false]) (t := 67) ?hr ?_; (case hd => rfl); (case hg => rfl); (case hr => exact ax31); intro gb643 hg w21 hbox hb; have n0_ := Aside0.mk (Kd.R_below ax254 hb); have n1_ := Aside0.mk (Kd.R_below ax255 hb); have n2_ := Aside0.mk (blk_below (g := gb632) (o := .cells #[.slice (some ad642) l0_0.length c0_0] 30 (0, 0)) ax250 hb); have n3_ := Aside0.mk (blk_below (g := gb634) (o := .cells #[.slice (some ad642) l0_0.length c0_0, .int .i64 t635, v637] 69 (0, 0)) ax253 hb); have n4_ := Aside0.mk (below_step ax252 hb); have n5_ := Aside0.mk (hbox); have n6_ := Aside0.mk ((ax256 : w.heap.size ≤ gb643)); have n7_ := Aside0.mk ((ax256 : w.heap.size ≤ gb643)); have n8_ := Aside0.mk ((ax257 : gb632 ≠ gb643)); have n9_ := Aside0.mk ((ax258 : gb643 ≠ gb632)); have n10_ := Aside0.mk ((ax259 : gb634 ≠ gb643)); have n11_ := Aside0.mk ((ax260 : gb643 ≠ gb634)); clear HO_8; clear HO_635002; clear BK632; clear BK634; clear HB; have HO_8 := n0_; have HO_635002 := n1_; have BK632 := n2_; have BK634 := n3_; have HB := n4_; have BK643 := n5_; have GW643 := n6_; have GE643 := n7_; have NB632_643 := n8_; have NB643_632 := n9_; have NB634_643 := n10_; have NB643_634 := n11_; clear n0_ n1_ n2_ n3_ n4_ n5_ n6_ n7_ n8_ n9_ n10_ n11_; clear hb hbox hg; have hnb22 := NB643_632.out; have hnc22 := NB632_643.out; have hnb23 := NB643_634.out; have hnc23 := NB634_643.out; have hcz24_0 : w21.cell? ⟨gb643, 0, none⟩ = some (.int .i64 0) := (blk_cell BK643.out 0).trans rfl; have hcz24_1 : w21.cell? ⟨gb643, 1, none⟩ = some (.int .i64 0) := (blk_cell BK643.out 1).trans rfl; have hcz24_2 : w21.cell? ⟨gb643, 2, none⟩ = some (.bool false) := (blk_cell BK643.out 2).trans rfl; have hfz24_0 := blk_frozen BK643.out 0; have hfz24_1 := blk_frozen BK643.out 1; have hfz24_2 := blk_frozen BK643.out 2; obtain ⟨Ao25, co25, eo25⟩ := Kd.R_slice HO_635002.out; subst eo25) | ((with_reducible refine gate_callee (f := 63) rfl ?_); refine goesL_ (some 30) rfl rfl Try.func63 (by kernel_rfl) rfl #[.pointer (some ⟨gb634, 0, none⟩), .int .i64 x23_1] rfl ax34 ?_; (with_reducible refine (impl_game_isFatal.calls gb634 (some ad642) c0_0 l0_0 t635 Ao25 co25 t636 x23_1 true _ ?side1 ?side2 ?side3 ?side4 ?side5 A15.out).mono ?_); (case side1 => exact ax261); (case side2 => exact ax36); (case side3 => refine (Kd.R_reads' (e := 9) (base := w.heap.size) (ok := fun k_ => some k_ ≠ (u8 : Value).ownBlock) (n := t636.length) (c := co25) ?_).2.2; exact ax262); (case side4 => exact ax263); (case side5 => exact ax264); rintro e w26 ⟨rfl, hb⟩; refine ⟨_, rfl, ?_⟩; have n0_ := Aside0.mk (Kd.R_below ax265 hb); have n1_ := Aside0.mk (Kd.R_below ax262 hb); have n2_ := Aside0.mk (blk_below (g := gb632) (o := .cells #[.slice (some ad642) l0_0.length c0_0] 30 (0, 0)) ax266 hb); have n3_ := Aside0.mk (blk_below (g := gb634) (o := .cells #[.slice (some ad642) l0_0.length c0_0, .int .i64 t635, .slice Ao25 t636.length co25] 69 (0, 0)) ax264 hb); have n4_ := Aside0.mk (blk_below (g := gb643) (o := .cells #[.int .i64 ((rd_T67 l0_0 x23_1).f0), .int .i64 ((rd_T67 l0_0 x23_1).f1), .bool ((rd_T67 l0_0 x23_1).f2)] 67 (0, 0)) ax267 hb); have n5_ := Aside0.mk (below_step ax268 hb); clear HO_8; clear HO_635002; clear BK632; clear BK634; clear BK643; clear HB; have HO_8 := n0_; have HO_635002 := n1_; have BK632 := n2_; have BK634 := n3_; have BK643 := n4_; have HB := n5_; clear n0_ n1_ n2_ n3_ n4_ n5_; (try clear hb); (try clear hb2); (try clear hk); (try clear hi); have hcz27_0 : w26.cell? ⟨gb643, 0, none⟩ = some (.int .i64 ((rd_T67 l0_0 x23_1).f0)) := (blk_cell BK643.out 0).trans rfl; have hcz27_1 : w26.cell? ⟨gb643, 1, none⟩ = some (.int .i64 ((rd_T67 l0_0 x23_1).f1)) := (blk_cell BK643.out 1).trans rfl; have hcz27_2 : w26.cell? ⟨gb643, 2, none⟩ = some (.bool ((rd_T67 l0_0 x23_1).f2)) := (blk_cell BK643.out 2).trans rfl; have hfz27_0 := blk_frozen BK643.out 0; have hfz27_1 := blk_frozen BK643.out 1; have hfz27_2 := blk_frozen BK643.out 2) | (go_at_call 46; (with_reducible refine (impl_game_isOpen.calls k1 gb634 (some ad642) c0_0 l0_0 t635 Ao25 co25 t636 ((rd_T67 l0_0 x23_1).f1) true _ ?side1 ?side2 ?side3 ?side4 ?side5 A17.out).mono ?_); (case side1 => exact ax35); (case side2 => exact ax36); (case side3 => exact ax269); (case side4 => exact ax263); (case side5 => exact ax253); rintro e w28 ⟨rfl, hb⟩; have n0_ := Aside0.mk (Kd.R_below ax254 hb); have n1_ := Aside0.mk (Kd.R_below ax255 hb); have n2_ := Aside0.mk (blk_below (g := gb632) (o := .cells #[.slice (some ad642) l0_0.length c0_0] 30 (0, 0)) ax250 hb); have n3_ := Aside0.mk (blk_below (g := gb634) (o := .cells #[.slice (some ad642) l0_0.length c0_0, .int .i64 t635, .slice Ao25 t636.length co25] 69 (0, 0)) ax253 hb); have n4_ := Aside0.mk (blk_below (g := gb643) (o := .cells #[.int .i64 ((rd_T67 l0_0 x23_1).f0), .int .i64 ((rd_T67 l0_0 x23_1).f1), .bool ((rd_T67 l0_0 x23_1).f2)] 67 (0, 0)) ax270 hb); have n5_ := Aside0.mk (below_step ax268 hb); clear HO_8; clear HO_635002; clear BK632; clear BK634; clear BK643; clear HB; have HO_8 := n0_; have HO_635002 := n1_; have BK632 := n2_; have BK634 := n3_; have BK643 := n4_; have HB := n5_; clear n0_ n1_ n2_ n3_ n4_ n5_; (try clear hb); (try clear hb2); (try clear hk); (try clear hi); have hnb29 := NB634_632.out; have hnc29 := NB632_634.out; have hcz30_0 : w28.cell? ⟨gb634, 0, none⟩ = some (.slice (some ad642) l0_0.length c0_0) := (blk_cell BK634.out 0).trans rfl; have hcz30_1 : w28.cell? ⟨gb634, 1, none⟩ = some (.int .i64 t635) := (blk_cell BK634.out 1).trans rfl; have hcz30_2 : w28.cell? ⟨gb634, 2, none⟩ = some (.slice Ao25 t636.length co25) := (blk_cell BK634.out 2).trans rfl; have hfz30_0 := blk_frozen BK634.out 0; have hfz30_1 := blk_frozen BK634.out 1; have hfz30_2 := blk_frozen BK634.out 2; have p646 : 0 ≤ (x23_1 : Int) := of_decide_eq_true ax38; have q646 : x23_1 < (t636.length : Int) := of_decide_eq_true ax38; obtain ⟨ad646, e646, hx646_0⟩ := Kd.at_string (Kd.R_reads' HO_635002.out).2.2 x23_1 p646 q646; cases e646; replace p646 := eq_true p646; replace q646 := eq_true q646) | ((with_reducible refine gate_builtin (b := .append) (xs := #[.tmp 37, .tmp 45]) rfl ?_); at_builtin; refine Kd.R_append Kd.string (w0 := w) w.heap.size rfl (.tmp 37) (.tmp 45) 40 9 (.string ⟨#[]⟩) 16 rfl Try.underlying40 info9 rfl (by decide) (by omega) u8 x8_1 (rdOf ByteArray.empty t636 x23_1) [.string (rdOf ByteArray.empty t636 x23_1)] (fun k_ => some k_ ≠ (.slice (some ad646) t636.length co25 : Value).ownBlock) (fun _ => False) rfl rfl ?aP (fun _ hk => hk.elim) ?aF ?aO ?aB ?aS ?aL ?_; (case aP => exact rfl); (case aB => exact ax268); (case aF => exact (fun k_ hk => Kd.fresh' (Kd.R_lt ax255) k_ hk)); (case aO => exact ax254); (case aS => exact (below_size ax268)); (case aL => have := LMc20.out; omega); intro v648 w31 ho hb hg hat; rw [← Ny647.out] at ho; have n0_ := Aside0.mk (Kd.R_after (ok := (fun _ => True)) (by (with_reducible repeat (first | apply Kd.R_alloc | apply Kd.R_drewN | apply Kd.R_drew)); exact Kd.R_mono HO_635002.out (fun _ hk => ⟨trivial, hk⟩)) hg hat); have n1_ := Aside0.mk (blk_grown (g := gb632) (o := .cells #[.slice (some ad642) l0_0.length c0_0] 30 (0, 0)) ax250 hg (Kd.R_ne HO_8.out BK632.out (by decide))); have n2_ := Aside0.mk (blk_grown (g := gb634) (o := .cells #[.slice (some ad642) l0_0.length c0_0, .int .i64 t635, .slice (some ad646) t636.length co25] 69 (0, 0)) ax253 hg (Kd.R_ne HO_8.out BK634.out (by decide))); have n3_ := Aside0.mk (blk_grown (g := gb643) (o := .cells #[.int .i64 ((rd_T67 l0_0 x23_1).f0), .int .i64 ((rd_T67 l0_0 x23_1).f1), .bool ((rd_T67 l0_0 x23_1).f2)] 67 (0, 0)) ax270 hg (Kd.R_ne HO_8.out BK643.out (by decide))); have n4_ := Aside0.mk (hb); have n5_ := Aside0.mk (ho); clear HO_635002; clear BK632; clear BK634; clear BK643; clear HB; clear HO_8; have HO_635002 := n0_; have BK632 := n1_; have BK634 := n2_; have BK643 := n3_; have HB := n4_; have HO649 := n5_; clear n0_ n1_ n2_ n3_ n4_ n5_; clear ho hb hg hat))
           go_roundg k1
           case measure => have := HK1.out; omega
           case rel => exact ⟨(y647), (wrap64 (x23_1 + 1)), ax37, H', ⟨by have := HK1.out; omega⟩, ⟨by (with_reducible repeat (first | apply Kd.R_alloc | apply Kd.R_drewN | apply Kd.R_drew)); exact HO649.out⟩, ⟨by (with_reducible repeat (first | apply Kd.R_alloc | apply Kd.R_drewN | apply Kd.R_drew)); exact Kd.R_mono HO_635002.out (fun _ hk => hk.2)⟩, ⟨by (with_reducible repeat (first | refine blk_drewN ?_ _ | refine blk_drew ?_ | refine blk_alloc ?_ _)); exact BK632.out⟩, ⟨by (with_reducible repeat (first | refine blk_drewN ?_ _ | refine blk_drew ?_ | refine blk_alloc ?_ _)); exact BK634.out⟩, ⟨by repeat (first | (with_reducible first | exact HB.out | apply below_alloc | apply pw_below_drewN | apply below_drew1 | refine below_set ?_ GE632.out | refine below_set ?_ GE634.out | refine below_set ?_ GE643.out) | exact HB.out)⟩⟩
          ·exact ax16
         ·rw [if_neg c19] at H
          exact absurd H (by simp)
        ·replace c18 := Bool.eq_false_iff.mpr c18
         subst c18
         have H1 : (impl_FatalWords.l0 k1 x8_1 l0_0 (l0_0.length : Int) (wrap64 (x23_1 + 1)) l0_0 t635 t636) = some (r1, r2) := by rw [if_neg (show ¬ (false = true) by decide)] at H; exact H
         clear H; have H := H1; clear H1
         have H' := Aside0.mk H
         clear H
         have p642 : 0 ≤ (x23_1 : Int) := of_decide_eq_true ax38
         have q642 : x23_1 < (l0_0.length : Int) := of_decide_eq_true ax38
         obtain ⟨ad642, e642, hx642_0, hx642_1, hx642_2⟩ := at_T67 HR0_0.out x23_1 p642 q642
         cases e642; replace hx642_0 := (HB.out.cell (World.block_lt_of_cell? w _ hx642_0)).trans hx642_0; replace hx642_1 := (HB.out.cell (World.block_lt_of_cell? w _ hx642_1)).trans hx642_1; replace hx642_2 := (HB.out.cell (World.block_lt_of_cell? w _ hx642_2)).trans hx642_2; replace p642 := eq_true p642; replace q642 := eq_true q642
         go_wp2_with (first | ((with_reducible refine gate_dst (N := 10) rfl ?_); refine box_event ?hg (N := 10) ?hd (cs := #[.int .i64 0, .int .i64 0, .bool false]) (t := 67) ?hr ?_; (case hd => rfl); (case hg => rfl); (case hr => exact ax31); intro gb643 hg w32 hbox hb; have n0_ := Aside0.mk (Kd.R_below ax254 hb); have n1_ := Aside0.mk (Kd.R_below ax255 hb); have n2_ := Aside0.mk (blk_below (g := gb632) (o := .cells #[.slice (some ad642) l0_0.length c0_0] 30 (0, 0)) ax250 hb); have n3_ := Aside0.mk (blk_below (g := gb634) (o := .cells #[.slice (some ad642) l0_0.length c0_0, .int .i64 t635, v637] 69 (0, 0)) ax253 hb); have n4_ := Aside0.mk (below_step ax252 hb); have n5_ := Aside0.mk (hbox); have n6_ := Aside0.mk ((ax256 : w.heap.size ≤ gb643)); have n7_ := Aside0.mk ((ax256 : w.heap.size ≤ gb643)); have n8_ := Aside0.mk ((ax257 : gb632 ≠ gb643)); have n9_ := Aside0.mk ((ax258 : gb643 ≠ gb632)); have n10_ := Aside0.mk ((ax259 : gb634 ≠ gb643)); have n11_ := Aside0.mk ((ax260 : gb643 ≠ gb634)); clear HO_8; clear HO_635002; clear BK632; clear BK634; clear HB; have HO_8 := n0_; have HO_635002 := n1_; have BK632 := n2_; have BK634 := n3_; have HB := n4_; have BK643 := n5_; have GW643 := n6_; have GE643 := n7_; have NB632_643 := n8_; have NB643_632 := n9_; have NB634_643 := n10_; have NB643_634 := n11_; clear n0_ n1_ n2_ n3_ n4_ n5_ n6_ n7_ n8_ n9_ n10_ n11_; clear hb hbox hg; have hnb33 := NB643_632.out; have hnc33 := NB632_643.out; have hnb34 := NB643_634.out; have hnc34 := NB634_643.out; have hcz35_0 : w32.cell? ⟨gb643, 0, none⟩ = some (.int .i64 0) := (blk_cell BK643.out 0).trans rfl; have hcz35_1 : w32.cell? ⟨gb643, 1, none⟩ = some (.int .i64 0) := (blk_cell BK643.out 1).trans rfl; have hcz35_2 : w32.cell? ⟨gb643, 2, none⟩ = some (.bool false) := (blk_cell BK643.out 2).trans rfl; have hfz35_0 := blk_frozen BK643.out 0; have hfz35_1 := blk_frozen BK643.out 1; have hfz35_2 := blk_frozen BK643.out 2; obtain ⟨Ao36, co36, eo36⟩ := Kd.R_slice HO_635002.out; subst eo36) | ((with_reducible refine gate_callee (f := 63) rfl ?_); refine goesL_ (some 30) rfl rfl Try.func63 (by kernel_rfl) rfl #[.pointer (some ⟨gb634, 0, none⟩), .int .i64 x23_1] rfl ax34 ?_; (with_reducible refine (impl_game_isFatal.calls gb634 (some ad642) c0_0 l0_0 t635 Ao36 co36 t636 x23_1 true _ ?side1 ?side2 ?side3 ?side4 ?side5 A15.out).mono ?_); (case side1 => exact ax261); (case side2 => exact ax36); (case side3 => refine (Kd.R_reads' (e := 9) (base := w.heap.size) (ok := fun k_ => some k_ ≠ (u8 : Value).ownBlock) (n := t636.length) (c := co36) ?_).2.2; exact ax262); (case side4 => exact ax263); (case side5 => exact ax264); rintro e w37 ⟨rfl, hb⟩; refine ⟨_, rfl, ?_⟩; have n0_ := Aside0.mk (Kd.R_below ax265 hb); have n1_ := Aside0.mk (Kd.R_below ax262 hb); have n2_ := Aside0.mk (blk_below (g := gb632) (o := .cells #[.slice (some ad642) l0_0.length c0_0] 30 (0, 0)) ax266 hb); have n3_ := Aside0.mk (blk_below (g := gb634) (o := .cells #[.slice (some ad642) l0_0.length c0_0, .int .i64 t635, .slice Ao36 t636.length co36] 69 (0, 0)) ax264 hb); have n4_ := Aside0.mk (blk_below (g := gb643) (o := .cells #[.int .i64 ((rd_T67 l0_0 x23_1).f0), .int .i64 ((rd_T67 l0_0 x23_1).f1), .bool ((rd_T67 l0_0 x23_1).f2)] 67 (0, 0)) ax267 hb); have n5_ := Aside0.mk (below_step ax268 hb); clear HO_8; clear HO_635002; clear BK632; clear BK634; clear BK643; clear HB; have HO_8 := n0_; have HO_635002 := n1_; have BK632 := n2_; have BK634 := n3_; have BK643 := n4_; have HB := n5_; clear n0_ n1_ n2_ n3_ n4_ n5_; (try clear hb); (try clear hb2); (try clear hk); (try clear hi); have hcz38_0 : w37.cell? ⟨gb643, 0, none⟩ = some (.int .i64 ((rd_T67 l0_0 x23_1).f0)) := (blk_cell BK643.out 0).trans rfl; have hcz38_1 : w37.cell? ⟨gb643, 1, none⟩ = some (.int .i64 ((rd_T67 l0_0 x23_1).f1)) := (blk_cell BK643.out 1).trans rfl; have hcz38_2 : w37.cell? ⟨gb643, 2, none⟩ = some (.bool ((rd_T67 l0_0 x23_1).f2)) := (blk_cell BK643.out 2).trans rfl; have hfz38_0 := blk_frozen BK643.out 0; have hfz38_1 := blk_frozen BK643.out 1; have hfz38_2 := blk_frozen BK643.out 2) | (go_at_call 46; (with_reducible refine (impl_game_isOpen.calls k1 gb634 (some ad642) c0_0 l0_0 t635 Ao36 co36 t636 ((rd_T67 l0_0 x23_1).f1) false _ ?side1 ?side2 ?side3 ?side4 ?side5 A17.out).mono ?_); (case side1 => exact ax35); (case side2 => exact ax36); (case side3 => exact ax269); (case side4 => exact ax263); (case side5 => exact ax253); rintro e w39 ⟨rfl, hb⟩; have n0_ := Aside0.mk (Kd.R_below ax254 hb); have n1_ := Aside0.mk (Kd.R_below ax255 hb); have n2_ := Aside0.mk (blk_below (g := gb632) (o := .cells #[.slice (some ad642) l0_0.length c0_0] 30 (0, 0)) ax250 hb); have n3_ := Aside0.mk (blk_below (g := gb634) (o := .cells #[.slice (some ad642) l0_0.length c0_0, .int .i64 t635, .slice Ao36 t636.length co36] 69 (0, 0)) ax253 hb); have n4_ := Aside0.mk (blk_below (g := gb643) (o := .cells #[.int .i64 ((rd_T67 l0_0 x23_1).f0), .int .i64 ((rd_T67 l0_0 x23_1).f1), .bool ((rd_T67 l0_0 x23_1).f2)] 67 (0, 0)) ax270 hb); have n5_ := Aside0.mk (below_step ax268 hb); clear HO_8; clear HO_635002; clear BK632; clear BK634; clear BK643; clear HB; have HO_8 := n0_; have HO_635002 := n1_; have BK632 := n2_; have BK634 := n3_; have BK643 := n4_; have HB := n5_; clear n0_ n1_ n2_ n3_ n4_ n5_; (try clear hb); (try clear hb2); (try clear hk); (try clear hi)))
         go_roundg k1
         case measure => have := HK1.out; omega
         case rel => exact ⟨(x8_1), (wrap64 (x23_1 + 1)), ax37, H', ⟨by have := HK1.out; omega⟩, ⟨by (with_reducible repeat (first | apply Kd.R_alloc | apply Kd.R_drewN | apply Kd.R_drew)); exact HO_8.out⟩, ⟨by (with_reducible repeat (first | apply Kd.R_alloc | apply Kd.R_drewN | apply Kd.R_drew)); exact HO_635002.out⟩, ⟨by (with_reducible repeat (first | refine blk_drewN ?_ _ | refine blk_drew ?_ | refine blk_alloc ?_ _)); exact BK632.out⟩, ⟨by (with_reducible repeat (first | refine blk_drewN ?_ _ | refine blk_drew ?_ | refine blk_alloc ?_ _)); exact BK634.out⟩, ⟨by repeat (first | (with_reducible first | exact HB.out | apply below_alloc | apply pw_below_drewN | apply below_drew1 | refine below_set ?_ GE632.out | refine below_set ?_ GE634.out | refine below_set ?_ GE643.out) | exact HB.out)⟩⟩
       ·replace c16 := Bool.eq_false_iff.mpr c16
        subst c16
        have H1 : (impl_FatalWords.l0 k1 x8_1 l0_0 (l0_0.length : Int) (wrap64 (x23_1 + 1)) l0_0 t635 t636) = some (r1, r2) := by rw [if_neg (show ¬ (false = true) by decide)] at H; exact H
        clear H; have H := H1; clear H1
        have H' := Aside0.mk H
        clear H
        have p642 : 0 ≤ (x23_1 : Int) := of_decide_eq_true ax38
        have q642 : x23_1 < (l0_0.length : Int) := of_decide_eq_true ax38
        obtain ⟨ad642, e642, hx642_0, hx642_1, hx642_2⟩ := at_T67 HR0_0.out x23_1 p642 q642
        cases e642; replace hx642_0 := (HB.out.cell (World.block_lt_of_cell? w _ hx642_0)).trans hx642_0; replace hx642_1 := (HB.out.cell (World.block_lt_of_cell? w _ hx642_1)).trans hx642_1; replace hx642_2 := (HB.out.cell (World.block_lt_of_cell? w _ hx642_2)).trans hx642_2; replace p642 := eq_true p642; replace q642 := eq_true q642
        go_wp2_with (first | ((with_reducible refine gate_dst (N := 10) rfl ?_); refine box_event ?hg (N := 10) ?hd (cs := #[.int .i64 0, .int .i64 0, .bool false]) (t := 67) ?hr ?_; (case hd => rfl); (case hg => rfl); (case hr => exact ax31); intro gb643 hg w40 hbox hb; have n0_ := Aside0.mk (Kd.R_below ax254 hb); have n1_ := Aside0.mk (Kd.R_below ax255 hb); have n2_ := Aside0.mk (blk_below (g := gb632) (o := .cells #[.slice (some ad642) l0_0.length c0_0] 30 (0, 0)) ax250 hb); have n3_ := Aside0.mk (blk_below (g := gb634) (o := .cells #[.slice (some ad642) l0_0.length c0_0, .int .i64 t635, v637] 69 (0, 0)) ax253 hb); have n4_ := Aside0.mk (below_step ax252 hb); have n5_ := Aside0.mk (hbox); have n6_ := Aside0.mk ((ax256 : w.heap.size ≤ gb643)); have n7_ := Aside0.mk ((ax256 : w.heap.size ≤ gb643)); have n8_ := Aside0.mk ((ax257 : gb632 ≠ gb643)); have n9_ := Aside0.mk ((ax258 : gb643 ≠ gb632)); have n10_ := Aside0.mk ((ax259 : gb634 ≠ gb643)); have n11_ := Aside0.mk ((ax260 : gb643 ≠ gb634)); clear HO_8; clear HO_635002; clear BK632; clear BK634; clear HB; have HO_8 := n0_; have HO_635002 := n1_; have BK632 := n2_; have BK634 := n3_; have HB := n4_; have BK643 := n5_; have GW643 := n6_; have GE643 := n7_; have NB632_643 := n8_; have NB643_632 := n9_; have NB634_643 := n10_; have NB643_634 := n11_; clear n0_ n1_ n2_ n3_ n4_ n5_ n6_ n7_ n8_ n9_ n10_ n11_; clear hb hbox hg; have hnb41 := NB643_632.out; have hnc41 := NB632_643.out; have hnb42 := NB643_634.out; have hnc42 := NB634_643.out; have hcz43_0 : w40.cell? ⟨gb643, 0, none⟩ = some (.int .i64 0) := (blk_cell BK643.out 0).trans rfl; have hcz43_1 : w40.cell? ⟨gb643, 1, none⟩ = some (.int .i64 0) := (blk_cell BK643.out 1).trans rfl; have hcz43_2 : w40.cell? ⟨gb643, 2, none⟩ = some (.bool false) := (blk_cell BK643.out 2).trans rfl; have hfz43_0 := blk_frozen BK643.out 0; have hfz43_1 := blk_frozen BK643.out 1; have hfz43_2 := blk_frozen BK643.out 2; obtain ⟨Ao44, co44, eo44⟩ := Kd.R_slice HO_635002.out; subst eo44) | ((with_reducible refine gate_callee (f := 63) rfl ?_); refine goesL_ (some 30) rfl rfl Try.func63 (by kernel_rfl) rfl #[.pointer (some ⟨gb634, 0, none⟩), .int .i64 x23_1] rfl ax34 ?_; (with_reducible refine (impl_game_isFatal.calls gb634 (some ad642) c0_0 l0_0 t635 Ao44 co44 t636 x23_1 false _ ?side1 ?side2 ?side3 ?side4 ?side5 A15.out).mono ?_); (case side1 => exact ax261); (case side2 => exact ax36); (case side3 => refine (Kd.R_reads' (e := 9) (base := w.heap.size) (ok := fun k_ => some k_ ≠ (u8 : Value).ownBlock) (n := t636.length) (c := co44) ?_).2.2; exact ax262); (case side4 => exact ax263); (case side5 => exact ax264); rintro e w45 ⟨rfl, hb⟩; refine ⟨_, rfl, ?_⟩; have n0_ := Aside0.mk (Kd.R_below ax265 hb); have n1_ := Aside0.mk (Kd.R_below ax262 hb); have n2_ := Aside0.mk (blk_below (g := gb632) (o := .cells #[.slice (some ad642) l0_0.length c0_0] 30 (0, 0)) ax266 hb); have n3_ := Aside0.mk (blk_below (g := gb634) (o := .cells #[.slice (some ad642) l0_0.length c0_0, .int .i64 t635, .slice Ao44 t636.length co44] 69 (0, 0)) ax264 hb); have n4_ := Aside0.mk (blk_below (g := gb643) (o := .cells #[.int .i64 ((rd_T67 l0_0 x23_1).f0), .int .i64 ((rd_T67 l0_0 x23_1).f1), .bool ((rd_T67 l0_0 x23_1).f2)] 67 (0, 0)) ax267 hb); have n5_ := Aside0.mk (below_step ax268 hb); clear HO_8; clear HO_635002; clear BK632; clear BK634; clear BK643; clear HB; have HO_8 := n0_; have HO_635002 := n1_; have BK632 := n2_; have BK634 := n3_; have BK643 := n4_; have HB := n5_; clear n0_ n1_ n2_ n3_ n4_ n5_; (try clear hb); (try clear hb2); (try clear hk); (try clear hi)))
        go_roundg k1
        case measure => have := HK1.out; omega
        case rel => exact ⟨(x8_1), (wrap64 (x23_1 + 1)), ax37, H', ⟨by have := HK1.out; omega⟩, ⟨by (with_reducible repeat (first | apply Kd.R_alloc | apply Kd.R_drewN | apply Kd.R_drew)); exact HO_8.out⟩, ⟨by (with_reducible repeat (first | apply Kd.R_alloc | apply Kd.R_drewN | apply Kd.R_drew)); exact HO_635002.out⟩, ⟨by (with_reducible repeat (first | refine blk_drewN ?_ _ | refine blk_drew ?_ | refine blk_alloc ?_ _)); exact BK632.out⟩, ⟨by (with_reducible repeat (first | refine blk_drewN ?_ _ | refine blk_drew ?_ | refine blk_alloc ?_ _)); exact BK634.out⟩, ⟨by repeat (first | (with_reducible first | exact HB.out | apply below_alloc | apply pw_below_drewN | apply below_drew1 | refine below_set ?_ GE632.out | refine below_set ?_ GE634.out | refine below_set ?_ GE643.out) | exact HB.out)⟩⟩
      ·rw [if_neg c14] at H
       exact absurd H (by simp)
     ·rw [if_neg c13] at H
      exact absurd H (by simp)
    ·rw [if_neg c12] at H
     have c12b0 : decide (x23_1 < (l0_0.length : Int)) = false := decide_eq_false c12
     clear c12
     simp only [Option.some.injEq, Prod.mk.injEq] at H
     obtain ⟨rfl, rfl⟩ := H
     go_wp2
     go_ret2
     exact ⟨_, by first | rfl | (simp [errW_none, errW_some] <;> rfl) | (simp [*, errW_none, errW_some] <;> rfl), by (with_reducible repeat (first | apply Kd.R_alloc | apply Kd.R_drewN | apply Kd.R_drew)); exact Kd.R_mono HO_8.out (fun _ hk => trivial), by repeat (first | (with_reducible first | exact HB.out | apply below_alloc | apply pw_below_drewN | apply below_drew1 | refine below_set ?_ GE632.out | refine below_set ?_ GE634.out) | exact HB.out)⟩
 ·replace c4 := Bool.eq_false_iff.mpr c4
  subst c4
  have H1 : (some (([] : List ByteArray), false)) = some (r1, r2) := by rw [if_neg (show ¬ (false = true) by decide)] at H; exact H
  clear H; have H := H1; clear H1
  simp only [Option.some.injEq, Prod.mk.injEq] at H
  obtain ⟨rfl, rfl⟩ := H
  go_enter Try.func29, Try.ntmps29
  go_wp2_with (first | ((with_reducible refine gate_dst (N := 2) rfl ?_); refine box_event ?hg (N := 2) ?hd (cs := #[.slice A0_0 l0_0.length c0_0]) (t := 30) ?hr ?_; (case hd => rfl); (case hg => rfl); (case hr => exact ax31); intro gb632 hg w46 hbox hb; have n0_ := Aside0.mk (below_step ax32 hb); have n1_ := Aside0.mk (hbox); have n2_ := Aside0.mk ((ax33 : w.heap.size ≤ gb632)); have n3_ := Aside0.mk ((ax33 : w.heap.size ≤ gb632)); clear HB; have HB := n0_; have BK632 := n1_; have GW632 := n2_; have GE632 := n3_; clear n0_ n1_ n2_ n3_; clear hb hbox hg; have hcz47_0 : w46.cell? ⟨gb632, 0, none⟩ = some (.slice A0_0 l0_0.length c0_0) := (blk_cell BK632.out 0).trans rfl; have hfz47_0 := blk_frozen BK632.out 0) | ((with_reducible refine gate_callee (f := 44) rfl ?_); refine goesL_ (some 14) rfl rfl Try.func44 (by kernel_rfl) rfl #[.agg #[.slice A0_0 l0_0.length c0_0], .int .i64 a1] rfl ax34 ?_; (with_reducible refine (impl_newGame.calls k _ _ l0_0 a1 false t635 t636 _ ?side1 ?side2 A3.out).mono ?_); (case side1 => exact ax35); (case side2 => exact ax36); (rintro e w48 ⟨hb, hno_, hyes_⟩; obtain rfl := hno_ rfl; clear hyes_); refine ⟨_, rfl, ?_⟩; have n0_ := Aside0.mk (blk_below (g := gb632) (o := .cells #[.slice A0_0 l0_0.length c0_0] 30 (0, 0)) ax250 hb); have n1_ := Aside0.mk (below_step ax249 hb); clear BK632; clear HB; have BK632 := n0_; have HB := n1_; clear n0_ n1_; (try clear hb); (try clear hb2); (try clear hk); (try clear hi); (try clear ho0)))
  go_ret2
  exact ⟨_, by first | rfl | (simp [errW_none, errW_some] <;> rfl) | (simp [*, errW_none, errW_some] <;> rfl), by first | exact Kd.R_nil _ _ _ _ _ | exact Kd.N_nil _ _ _ _ _ | exact Kd.V_nil _ _ _ _ _ | exact Kd.Q_nil _ _ _ _ _ | exact Kd.S_nil _ _ _ _ _, by repeat (first | (with_reducible first | exact HB.out | apply below_alloc | apply pw_below_drewN | apply below_drew1 | refine below_set ?_ GE632.out) | exact HB.out)⟩

/-! ### laws_eqStringS: function 30 -/
def laws_eqStringS.l0 : Nat → List ByteArray → List ByteArray → Int → Option (Bool)
 | 0, _, _, _ => none
 | k + 1, x0, x1, x5 => if x5 < (x0.length : Int) then (if 0 ≤ x5 then (if x5 < (x1.length : Int) then (if (rdOf ByteArray.empty x0 x5).toList = (rdOf ByteArray.empty x1 x5).toList then (laws_eqStringS.l0 k x0 x1 (wrap64 (x5 + 1))) else (some false)) else (none)) else (none)) else (some true)
def laws_eqStringS.f (k : Nat) (l0 : List ByteArray) (l1 : List ByteArray) : Option (Bool) := if (l0.length : Int) = (l1.length : Int) then (laws_eqStringS.l0 k l0 l1 0) else (some false)
theorem laws_eqStringS.mono_l : ∀ k, (∀ y0 y1 y2, LeO (laws_eqStringS.l0 k y0 y1 y2) (laws_eqStringS.l0 (k + 1) y0 y1 y2))
 | 0 => fun _ _ _ r h => by simp [laws_eqStringS.l0] at h
 | k + 1 => by
  have ih0 := laws_eqStringS.mono_l k
  ·intro y0 y1 y2
   unfold laws_eqStringS.l0
   repeat' first
   | (with_reducible exact ih0 _ _ _)
   | (with_reducible exact LeO.refl _)
   | (with_reducible exact LeO.none _)
   | (with_reducible refine LeO.ite ?_ ?_)
   | (with_reducible refine LeO.bind ?_ (fun _ => ?_))
   | exact ih0 _ _ _
   | exact LeO.none _
   | refine LeO.ite ?_ ?_
   | refine LeO.bind ?_ (fun _ => ?_)
theorem laws_eqStringS.mono : ∀ a0 a1 k, LeO (laws_eqStringS.f k a0 a1) (laws_eqStringS.f (k + 1) a0 a1) := by
 intro a0 a1 k
 have ih0 := laws_eqStringS.mono_l k
 unfold laws_eqStringS.f
 repeat' first
   | (with_reducible exact ih0 _ _ _)
   | (with_reducible exact LeO.refl _)
   | (with_reducible exact LeO.none _)
   | (with_reducible refine LeO.ite ?_ ?_)
   | (with_reducible refine LeO.bind ?_ (fun _ => ?_))
   | exact ih0 _ _ _
   | exact LeO.none _
   | refine LeO.ite ?_ ?_
   | refine LeO.bind ?_ (fun _ => ?_)
set_option maxHeartbeats 8000000 in
set_option maxRecDepth 100000 in
theorem laws_eqStringS.calls (k : Nat) (A0 : Option Addr) (c0 : Nat) (l0 : List ByteArray) (A1 : Option Addr) (c1 : Nat) (l1 : List ByteArray) (r : Bool) (w : World) (hr0 : Kd.C Kd.string w A0 l0.length l0) (hc0 : l0.length ≤ c0) (hr1 : Kd.C Kd.string w A1 l1.length l1) (hc1 : l1.length ≤ c1) (h : laws_eqStringS.f k l0 l1 = some r) :
  Calls Try.prog 30 #[.slice A0 l0.length c0, .slice A1 l1.length c1] w fun e w' => e = .returned (.bool r) ∧ Drawn0 w w' := by
 have HR0 := Aside0.mk hr0; have HC0 := Aside0.mk hc0; clear hr0 hc0; have HR1 := Aside0.mk hr1; have HC1 := Aside0.mk hc1; clear hr1 hc1
 have H : (if (l0.length : Int) = (l1.length : Int) then (laws_eqStringS.l0 k l0 l1 0) else (some false)) = some r := h
 clear h
 by_cases c3 : (l0.length : Int) = (l1.length : Int)
 ·rw [if_pos c3] at H
  have c3b0 : ((l0.length : Int) == (l1.length : Int)) = true := beq_iff_eq.mpr c3
  have c3b1 : ((l0.length : Int) != (l1.length : Int)) = false := bne_eq_false_iff_eq.mpr c3
  have c3b2 : (l0.length == l1.length) = true := by first | simpa using c3 | (simp at c3 ⊢; omega)
  clear c3
  have H' := Aside0.mk H
  clear H
  go_enter Try.func30, Try.ntmps30
  go_wp2
  repeat (go_quiet (fail); try go_wp2)
  go_loopg [5] k (fun kq v5 w' => ∃ (x5_1 : Int), v5 = .int .i64 x5_1 ∧ Aside0 (laws_eqStringS.l0 kq l0 l1 x5_1 = some r) ∧ Aside0 (kq ≤ k) ∧ Drawn0 w w')
  case atStart => exact ⟨(0), ax37, H', ⟨Nat.le_refl _⟩, by repeat (first | exact Drawn0.refl _ | apply Drawn0.step)⟩
  case round =>
   clear H'
   try clear c1
   try clear p2
   try clear c3
   try clear c3b0
   try clear c3b1
   try clear c3b2
   obtain ⟨x5_1, rfl, HA, HK1, ⟨m1, rfl⟩⟩ := hrel
   cases gk with
   | zero => exact absurd HA.out (by simp [laws_eqStringS.l0])
   | succ k1 =>
    have H := HA.out; clear HA
    simp only [laws_eqStringS.l0] at H
    by_cases c4 : x5_1 < (l0.length : Int)
    ·rw [if_pos c4] at H
     have c4b0 : decide (x5_1 < (l0.length : Int)) = true := decide_eq_true c4
     clear c4
     by_cases c5 : 0 ≤ x5_1
     ·rw [if_pos c5] at H
      have c5b0 : decide (0 ≤ x5_1) = true := decide_eq_true c5
      clear c5
      by_cases c6 : x5_1 < (l1.length : Int)
      ·rw [if_pos c6] at H
       have c6b0 : decide (x5_1 < (l1.length : Int)) = true := decide_eq_true c6
       clear c6
       by_cases c7 : (rdOf ByteArray.empty l0 x5_1).toList = (rdOf ByteArray.empty l1 x5_1).toList
       ·rw [if_pos c7] at H
        have c7b0 : ((rdOf ByteArray.empty l0 x5_1).toList == (rdOf ByteArray.empty l1 x5_1).toList) = true := beq_iff_eq.mpr c7
        have c7b1 : ((rdOf ByteArray.empty l0 x5_1).toList != (rdOf ByteArray.empty l1 x5_1).toList) = false := bne_eq_false_iff_eq.mpr c7
        clear c7
        have H' := Aside0.mk H
        clear H
        have p650 : 0 ≤ (x5_1 : Int) := of_decide_eq_true ax38
        have q650 : x5_1 < (l0.length : Int) := of_decide_eq_true ax38
        obtain ⟨ad650, e650, hx650_0⟩ := Kd.at_string HR0.out x5_1 p650 q650
        cases e650; replace p650 := eq_true p650; replace q650 := eq_true q650
        have p651 : 0 ≤ (x5_1 : Int) := of_decide_eq_true ax38
        have q651 : x5_1 < (l1.length : Int) := of_decide_eq_true ax38
        obtain ⟨ad651, e651, hx651_0⟩ := Kd.at_string HR1.out x5_1 p651 q651
        cases e651; replace p651 := eq_true p651; replace q651 := eq_true q651
        go_wp2
        repeat (go_quiet (fail); try go_wp2)
        go_roundg k1
        case measure => have := HK1.out; omega
        case rel => exact ⟨(wrap64 (x5_1 + 1)), ax37, H', ⟨by have := HK1.out; omega⟩, by repeat (first | exact Drawn0.refl _ | apply Drawn0.step)⟩
       ·rw [if_neg c7] at H
        have c7b0 : ((rdOf ByteArray.empty l0 x5_1).toList == (rdOf ByteArray.empty l1 x5_1).toList) = false := beq_eq_false_iff_ne.mpr c7
        have c7b1 : ((rdOf ByteArray.empty l0 x5_1).toList != (rdOf ByteArray.empty l1 x5_1).toList) = true := bne_iff_ne.mpr c7
        obtain rfl := Option.some.inj H
        have p650 : 0 ≤ (x5_1 : Int) := of_decide_eq_true ax38
        have q650 : x5_1 < (l0.length : Int) := of_decide_eq_true ax38
        obtain ⟨ad650, e650, hx650_0⟩ := Kd.at_string HR0.out x5_1 p650 q650
        cases e650; replace p650 := eq_true p650; replace q650 := eq_true q650
        have p651 : 0 ≤ (x5_1 : Int) := of_decide_eq_true ax38
        have q651 : x5_1 < (l1.length : Int) := of_decide_eq_true ax38
        obtain ⟨ad651, e651, hx651_0⟩ := Kd.at_string HR1.out x5_1 p651 q651
        cases e651; replace p651 := eq_true p651; replace q651 := eq_true q651
        go_wp2
        repeat (go_quiet (fail); try go_wp2)
        go_ret
        exact ⟨by first | rfl | (simp; done) | (simp [*]; done), by repeat (first | exact Drawn0.refl _ | apply Drawn0.step)⟩
      ·exact ax3
     ·exact ax12
    ·rw [if_neg c4] at H
     have c4b0 : decide (x5_1 < (l0.length : Int)) = false := decide_eq_false c4
     clear c4
     obtain rfl := Option.some.inj H
     go_wp2
     repeat (go_quiet (fail); try go_wp2)
     go_ret
     exact ⟨by first | rfl | (simp; done) | (simp [*]; done), by repeat (first | exact Drawn0.refl _ | apply Drawn0.step)⟩
 ·rw [if_neg c3] at H
  have c3b0 : ((l0.length : Int) == (l1.length : Int)) = false := beq_eq_false_iff_ne.mpr c3
  have c3b1 : ((l0.length : Int) != (l1.length : Int)) = true := bne_iff_ne.mpr c3
  have c3b2 : (l0.length == l1.length) = false := by first | simpa using c3 | (simp at c3 ⊢; omega)
  obtain rfl := Option.some.inj H
  go_enter Try.func30, Try.ntmps30
  go_wp2
  repeat (go_quiet (fail); try go_wp2)
  go_ret
  exact ⟨by first | rfl | (simp; done) | (simp [*]; done), by repeat (first | exact Drawn0.refl _ | apply Drawn0.step)⟩

/-! ### laws_markNodeS: function 64 -/
def laws_markNodeS.l0 : Nat → List (S67) → Int → Int → Option (Int × (List (S67)))
 | 0, _, _, _ => none
 | k + 1, x0, x1, x5 => if x5 < (x0.length : Int) then (if 0 ≤ x5 then ((some (x0.set (x5 : Int).toNat (⟨x1, (rd_T67 x0 x5).f1, (rd_T67 x0 x5).f2⟩ : S67) : List (S67))).bind fun y652 => ((some (y652.set (x5 : Int).toNat (⟨(rd_T67 y652 x5).f0, wrap64 (x1 + 1), (rd_T67 y652 x5).f2⟩ : S67) : List (S67))).bind fun y653 => (laws_markNodeS.l0 k (y653.set (x5 : Int).toNat (⟨(rd_T67 y653 x5).f0, (rd_T67 y653 x5).f1, ((Int.tmod (wrap64 ((wrap64 (x1 + 1)) + 1)) 3) == 0)⟩ : S67)) (wrap64 ((wrap64 ((wrap64 (x1 + 1)) + 1)) + 1)) (wrap64 (x5 + 1))))) else (none)) else (some (x1, x0))
def laws_markNodeS.f (k : Nat) (l0 : List (S67)) (a1 : Int) : Option (Int × (List (S67))) := laws_markNodeS.l0 k l0 a1 0
theorem laws_markNodeS.mono_l : ∀ k, (∀ y0 y1 y2, LeO (laws_markNodeS.l0 k y0 y1 y2) (laws_markNodeS.l0 (k + 1) y0 y1 y2))
 | 0 => fun _ _ _ r h => by simp [laws_markNodeS.l0] at h
 | k + 1 => by
  have ih0 := laws_markNodeS.mono_l k
  ·intro y0 y1 y2
   unfold laws_markNodeS.l0
   repeat' first
   | (with_reducible exact ih0 _ _ _)
   | (with_reducible exact LeO.refl _)
   | (with_reducible exact LeO.none _)
   | (with_reducible refine LeO.ite ?_ ?_)
   | (with_reducible refine LeO.bind ?_ (fun _ => ?_))
   | exact ih0 _ _ _
   | exact LeO.none _
   | refine LeO.ite ?_ ?_
   | refine LeO.bind ?_ (fun _ => ?_)
theorem laws_markNodeS.mono : ∀ a0 a1 k, LeO (laws_markNodeS.f k a0 a1) (laws_markNodeS.f (k + 1) a0 a1) := by
 intro a0 a1 k
 have ih0 := laws_markNodeS.mono_l k
 unfold laws_markNodeS.f
 repeat' first
   | (with_reducible exact ih0 _ _ _)
   | (with_reducible exact LeO.refl _)
   | (with_reducible exact LeO.none _)
   | (with_reducible refine LeO.ite ?_ ?_)
   | (with_reducible refine LeO.bind ?_ (fun _ => ?_))
   | exact ih0 _ _ _
   | exact LeO.none _
   | refine LeO.ite ?_ ?_
   | refine LeO.bind ?_ (fun _ => ?_)
set_option maxHeartbeats 8000000 in
set_option maxRecDepth 100000 in
theorem laws_markNodeS.calls (k : Nat) (P0_ : Nat → Prop) (u9000_ : Value) (l0 : List (S67)) (a1 : Int) (r1 : Int) (r2 : List (S67)) (w0 w : World) (hB : Below w0.heap.size w0 w) (ho0 : Kd.R k67 67 w w0.heap.size P0_ u9000_ l0) (h : laws_markNodeS.f k l0 a1 = some (r1, r2)) :
  Calls Try.prog 64 #[u9000_, .int .i64 a1] w fun e w' => e = .returned (.int .i64 r1) ∧ Kd.R k67 67 w' w0.heap.size (fun k_ => (P0_ k_ ∨ w.heap.size ≤ k_)) u9000_ r2 ∧ Below w0.heap.size w0 w' ∧ Kept w w' (fun k_ => P0_ k_) := by
 have HO0 := Aside0.mk (show Kd.R k67 67 w w0.heap.size (fun k_ => (P0_ k_ ∨ w.heap.size ≤ k_)) u9000_ l0 from Kd.R_mono ho0 (fun k_ hk => (.inl hk)))
 have HK := Aside0.mk (Kept.refl w (fun k_ => P0_ k_))
 have HW0 := Aside0.mk hB.size; have HB := Aside0.mk hB; clear hB
 have H : (laws_markNodeS.l0 k l0 a1 0) = some (r1, r2) := h
 clear h
 have H' := Aside0.mk H
 clear H
 go_enter Try.func64, Try.ntmps64
 go_wp2
 go_loopg [1, 5] k (fun kq v1 v5 w' => ∃ (x0_1 : List (S67)) (x1_1 : Int) (x5_1 : Int), v1 = .int .i64 x1_1 ∧ v5 = .int .i64 x5_1 ∧ Aside0 (laws_markNodeS.l0 kq x0_1 x1_1 x5_1 = some (r1, r2)) ∧ Aside0 (kq ≤ k) ∧ Aside0 (Kd.R k67 67 w' w0.heap.size (fun k_ => (P0_ k_ ∨ w.heap.size ≤ k_)) u9000_ x0_1) ∧ Aside0 (Kept w w' (fun k_ => P0_ k_)) ∧ Aside0 (Below w0.heap.size w0 w'))
 case atStart => exact ⟨(l0), (a1), (0), ax37, ax37, H', ⟨Nat.le_refl _⟩, ⟨by (with_reducible repeat (first | apply Kd.R_alloc | apply Kd.R_drewN | apply Kd.R_drew)); exact HO0.out⟩, ⟨by repeat (first | (with_reducible first | exact HK.out | apply Kept.alloc | apply Kept.drewN | apply Kept.drew) | exact HK.out)⟩, ⟨by repeat (first | (with_reducible first | exact HB.out | apply below_alloc | apply pw_below_drewN | apply below_drew1) | exact HB.out)⟩⟩
 case round =>
  clear H'
  try clear p2
  obtain ⟨x0_1, x1_1, x5_1, rfl, rfl, HA, HK1, HO_0, HK, HB⟩ := hrel
  cases gk with
  | zero => exact absurd HA.out (by simp [laws_markNodeS.l0])
  | succ k1 =>
   have H := HA.out; clear HA
   simp only [laws_markNodeS.l0] at H
   by_cases c3 : x5_1 < (x0_1.length : Int)
   ·rw [if_pos c3] at H
    have c3b0 : decide (x5_1 < (x0_1.length : Int)) = true := decide_eq_true c3
    clear c3
    by_cases c4 : 0 ≤ x5_1
    ·rw [if_pos c4] at H
     have c4b0 : decide (0 ≤ x5_1) = true := decide_eq_true c4
     clear c4
     obtain ⟨y652, hy652⟩ : ∃ y_ : List (S67), y_ = (x0_1.set (x5_1 : Int).toNat (⟨x1_1, (rd_T67 x0_1 x5_1).f1, (rd_T67 x0_1 x5_1).f2⟩ : S67)) := ⟨_, rfl⟩
     replace H : ((some (y652.set (x5_1 : Int).toNat (⟨(rd_T67 y652 x5_1).f0, wrap64 (x1_1 + 1), (rd_T67 y652 x5_1).f2⟩ : S67) : List (S67))).bind fun y653 => (laws_markNodeS.l0 k1 (y653.set (x5_1 : Int).toNat (⟨(rd_T67 y653 x5_1).f0, (rd_T67 y653 x5_1).f1, ((Int.tmod (wrap64 ((wrap64 (x1_1 + 1)) + 1)) 3) == 0)⟩ : S67)) (wrap64 ((wrap64 ((wrap64 (x1_1 + 1)) + 1)) + 1)) (wrap64 (x5_1 + 1)))) = some (r1, r2) := by first | (rw [hy652]; with_reducible exact H) | (have H2_ := (Option.bind_some _ _).symm.trans H; rw [hy652]; with_reducible exact H2_) | (have H2_ := (Option.bind_some _ _).symm.trans H; with_reducible exact H2_) | with_reducible exact H | (rw [hy652]; exact H) | exact H
     have Ny652 := Aside0.mk hy652; clear hy652
     obtain ⟨y653, hy653⟩ : ∃ y_ : List (S67), y_ = (y652.set (x5_1 : Int).toNat (⟨(rd_T67 y652 x5_1).f0, wrap64 (x1_1 + 1), (rd_T67 y652 x5_1).f2⟩ : S67)) := ⟨_, rfl⟩
     replace H : (laws_markNodeS.l0 k1 (y653.set (x5_1 : Int).toNat (⟨(rd_T67 y653 x5_1).f0, (rd_T67 y653 x5_1).f1, ((Int.tmod (wrap64 ((wrap64 (x1_1 + 1)) + 1)) 3) == 0)⟩ : S67)) (wrap64 ((wrap64 ((wrap64 (x1_1 + 1)) + 1)) + 1)) (wrap64 (x5_1 + 1))) = some (r1, r2) := by first | (rw [hy653]; with_reducible exact H) | (have H2_ := (Option.bind_some _ _).symm.trans H; rw [hy653]; with_reducible exact H2_) | (have H2_ := (Option.bind_some _ _).symm.trans H; with_reducible exact H2_) | with_reducible exact H | (rw [hy653]; exact H) | exact H
     have Ny653 := Aside0.mk hy653; clear hy653
     obtain ⟨y654, hy654⟩ : ∃ y_ : List (S67), y_ = (y653.set (x5_1 : Int).toNat (⟨(rd_T67 y653 x5_1).f0, (rd_T67 y653 x5_1).f1, ((Int.tmod (wrap64 ((wrap64 (x1_1 + 1)) + 1)) 3) == 0)⟩ : S67)) := ⟨_, rfl⟩
     replace H : (laws_markNodeS.l0 k1 y654 (wrap64 ((wrap64 ((wrap64 (x1_1 + 1)) + 1)) + 1)) (wrap64 (x5_1 + 1))) = some (r1, r2) := by first | (rw [hy654]; with_reducible exact H) | (have H2_ := (Option.bind_some _ _).symm.trans H; rw [hy654]; with_reducible exact H2_) | (have H2_ := (Option.bind_some _ _).symm.trans H; with_reducible exact H2_) | with_reducible exact H | (rw [hy654]; exact H) | exact H
     have Ny654 := Aside0.mk hy654; clear hy654
     have H' := Aside0.mk H
     clear H
     obtain ⟨Ao8, co8, eo8⟩ := Kd.R_slice HO_0.out
     subst eo8
     have p5 : 0 ≤ (x5_1 : Int) := of_decide_eq_true ax38
     have q5 : (x5_1 : Int) < ((x0_1.length : Int) : Int) := of_decide_eq_true ax38
     obtain ⟨go5, co5, eo5, gb5, gl5, cl5, HG5⟩ := Kd.R_form HO_0.out (by omega)
     (first | cases eo5 | (injection eo5 with ea_ en_ ec_; (first | subst ea_ | (injection ea_ with ea_; subst ea_)); subst ec_; clear en_))
     have GB5 := Aside0.mk gb5; have GG5 := Aside0.mk HG5; clear gb5 gl5 HG5; have HMgo5 := Aside0.mk (show (P0_ go5 ∨ w.heap.size ≤ go5) from (HO_0.out.1 _ rfl))
     obtain ⟨ce5, hcl5, hM5, hcc5, hfr5⟩ := Kd.R_elem HO_0.out z67 (x5_1 : Int) p5 q5
     obtain rfl := k67_openM hM5
     have hx5_0 : wr.cell? ⟨go5, (x5_1 : Int).toNat * 3, none⟩ = some (.int .i64 ((rd_T67 x0_1 x5_1).f0)) := hcc5 0 _ rfl
     have hx5_1 : wr.cell? ⟨go5, (x5_1 : Int).toNat * 3 + 1, none⟩ = some (.int .i64 ((rd_T67 x0_1 x5_1).f1)) := hcc5 1 _ rfl
     have hx5_2 : wr.cell? ⟨go5, (x5_1 : Int).toNat * 3 + 2, none⟩ = some (.bool ((rd_T67 x0_1 x5_1).f2)) := hcc5 2 _ rfl
     have hf5_0 : wr.frozen? ⟨go5, (x5_1 : Int).toNat * 3, none⟩ = false := hfr5 0
     have hf5_1 : wr.frozen? ⟨go5, (x5_1 : Int).toNat * 3 + 1, none⟩ = false := hfr5 1
     have hf5_2 : wr.frozen? ⟨go5, (x5_1 : Int).toNat * 3 + 2, none⟩ = false := hfr5 2
     clear hcl5 hcc5 hfr5 hM5; replace p5 := eq_true p5; replace q5 := eq_true q5
     have HX9 := Aside0.mk (show Kd.R k67 67 wr w0.heap.size (fun k_ => (P0_ k_ ∨ w.heap.size ≤ k_)) (.slice (some ⟨go5, 0, none⟩) x0_1.length co8) x0_1 from ax271)
     obtain ⟨ce9, hcl9, hM9, hcc9, hfr9⟩ := Kd.R_elem HX9.out z67 (x5_1 : Int) (of_decide_eq_true ax38) ax272
     obtain rfl := k67_openM hM9
     have HP9 := Kd.R_seg HX9.out (x5_1 : Int) (of_decide_eq_true ax38) ax272 (seg := [.int .i64 x1_1]) (j := 0) hcl9 hcc9 (show 1 ≤ 3 from by decide) (x' := (⟨x1_1, (rd_T67 x0_1 x5_1).f1, (rd_T67 x0_1 x5_1).f2⟩ : S67)) (k67_mkM _ _ _ (⟨x1_1, (rd_T67 x0_1 x5_1).f1, (rd_T67 x0_1 x5_1).f2⟩ : S67) ) (fun _ hk => hk)
     have hx9_0 := hcc9 0 _ rfl
     (try simp only [show (k67).sz = 3 from rfl, Nat.mul_one, Nat.add_zero] at hx9_0)
     have hf9_0 := hfr9 0
     (try simp only [show (k67).sz = 3 from rfl, Nat.mul_one, Nat.add_zero] at hf9_0)
     clear hcl9 hcc9 hfr9 hM9
     go_wp2_with (first | ((with_reducible refine gate_store (t := 3) (p := 16) rfl ?_); refine store_event (t := 3) (p := 16) (v := ?vo_w10) (w1 := (wr.setCell ⟨go5, (x5_1 : Int).toNat * 3, none⟩ (.int .i64 x1_1))) ?hg ?ho ?hn ?hr ?_; (case ho => rfl); (case hg => rfl); (case hn => rfl); (case hr => exact ax31); intro w10 hw; have hg : wr.grownBy w10 (some go5) := (by rw [hw]; exact HP9.2); have hp_ : Kd.R k67 67 w10 w0.heap.size (fun k_ => (P0_ k_ ∨ w.heap.size ≤ k_)) (.slice (some ⟨go5, 0, none⟩) x0_1.length co8) y652 := (by rw [hw, Ny652.out]; exact HP9.1); clear HP9; have n0_ := Aside0.mk (hp_); have n1_ := Aside0.mk ((ax273 : Below w0.heap.size w0 w10)); have n2_ := Aside0.mk (Kept.of_grown (S := (fun k_ => P0_ k_)) hg ax274 (fun k_ e_ => (HO_0.out.1 k_ e_))); clear HO_0; clear HB; clear HK; have HO_0 := n0_; have HB := n1_; have HK := n2_; clear n0_ n1_ n2_; clear hg hw hp_; have p6 : 0 ≤ (x5_1 : Int) := of_decide_eq_true ax38; have q6 : (x5_1 : Int) < ((x0_1.length : Int) : Int) := of_decide_eq_true ax38; obtain ⟨ce6, hcl6, hM6, hcc6, hfr6⟩ := Kd.R_elem HO_0.out z67 (x5_1 : Int) p6 q6; obtain rfl := k67_openM hM6; have hx6_0 : w10.cell? ⟨go5, (x5_1 : Int).toNat * 3, none⟩ = some (.int .i64 ((rd_T67 y652 x5_1).f0)) := hcc6 0 _ rfl; have hx6_1 : w10.cell? ⟨go5, (x5_1 : Int).toNat * 3 + 1, none⟩ = some (.int .i64 ((rd_T67 y652 x5_1).f1)) := hcc6 1 _ rfl; have hx6_2 : w10.cell? ⟨go5, (x5_1 : Int).toNat * 3 + 2, none⟩ = some (.bool ((rd_T67 y652 x5_1).f2)) := hcc6 2 _ rfl; have hf6_0 : w10.frozen? ⟨go5, (x5_1 : Int).toNat * 3, none⟩ = false := hfr6 0; have hf6_1 : w10.frozen? ⟨go5, (x5_1 : Int).toNat * 3 + 1, none⟩ = false := hfr6 1; have hf6_2 : w10.frozen? ⟨go5, (x5_1 : Int).toNat * 3 + 2, none⟩ = false := hfr6 2; clear hcl6 hcc6 hfr6 hM6; replace p6 := eq_true p6; replace q6 := eq_true q6; have HX11 := Aside0.mk (show Kd.R k67 67 w10 w0.heap.size (fun k_ => (P0_ k_ ∨ w.heap.size ≤ k_)) (.slice (some ⟨go5, 0, none⟩) x0_1.length co8) y652 from ax271); obtain ⟨ce11, hcl11, hM11, hcc11, hfr11⟩ := Kd.R_elem HX11.out z67 (x5_1 : Int) (of_decide_eq_true ax38) ax272; obtain rfl := k67_openM hM11; have HP11 := Kd.R_seg HX11.out (x5_1 : Int) (of_decide_eq_true ax38) ax272 (seg := [.int .i64 (wrap64 (x1_1 + 1))]) (j := 1) hcl11 hcc11 (show 2 ≤ 3 from by decide) (x' := (⟨(rd_T67 y652 x5_1).f0, wrap64 (x1_1 + 1), (rd_T67 y652 x5_1).f2⟩ : S67)) (k67_mkM _ _ _ (⟨(rd_T67 y652 x5_1).f0, wrap64 (x1_1 + 1), (rd_T67 y652 x5_1).f2⟩ : S67) ) (fun _ hk => hk); have hx11_1 := hcc11 1 _ rfl; (try simp only [show (k67).sz = 3 from rfl, Nat.mul_one, Nat.add_zero] at hx11_1); have hf11_1 := hfr11 1; (try simp only [show (k67).sz = 3 from rfl, Nat.mul_one, Nat.add_zero] at hf11_1); clear hcl11 hcc11 hfr11 hM11) | ((with_reducible refine gate_store (t := 3) (p := 23) rfl ?_); refine store_event (t := 3) (p := 23) (v := ?vo_w12) (w1 := (w10.setCell ⟨go5, (x5_1 : Int).toNat * 3 + 1, none⟩ (.int .i64 (wrap64 (x1_1 + 1))))) ?hg ?ho ?hn ?hr ?_; (case ho => rfl); (case hg => rfl); (case hn => rfl); (case hr => exact ax31); intro w12 hw; have hg : w10.grownBy w12 (some go5) := (by rw [hw]; exact HP11.2); have hp_ : Kd.R k67 67 w12 w0.heap.size (fun k_ => (P0_ k_ ∨ w.heap.size ≤ k_)) (.slice (some ⟨go5, 0, none⟩) x0_1.length co8) y653 := (by rw [hw, Ny653.out]; exact HP11.1); clear HP11; have n0_ := Aside0.mk (hp_); have n1_ := Aside0.mk ((ax273 : Below w0.heap.size w0 w12)); have n2_ := Aside0.mk (Kept.of_grown (S := (fun k_ => P0_ k_)) hg ax274 (fun k_ e_ => (HO_0.out.1 k_ e_))); clear HO_0; clear HB; clear HK; have HO_0 := n0_; have HB := n1_; have HK := n2_; clear n0_ n1_ n2_; clear hg hw hp_; have p7 : 0 ≤ (x5_1 : Int) := of_decide_eq_true ax38; have q7 : (x5_1 : Int) < ((x0_1.length : Int) : Int) := of_decide_eq_true ax38; obtain ⟨ce7, hcl7, hM7, hcc7, hfr7⟩ := Kd.R_elem HO_0.out z67 (x5_1 : Int) p7 q7; obtain rfl := k67_openM hM7; have hx7_0 : w12.cell? ⟨go5, (x5_1 : Int).toNat * 3, none⟩ = some (.int .i64 ((rd_T67 y653 x5_1).f0)) := hcc7 0 _ rfl; have hx7_1 : w12.cell? ⟨go5, (x5_1 : Int).toNat * 3 + 1, none⟩ = some (.int .i64 ((rd_T67 y653 x5_1).f1)) := hcc7 1 _ rfl; have hx7_2 : w12.cell? ⟨go5, (x5_1 : Int).toNat * 3 + 2, none⟩ = some (.bool ((rd_T67 y653 x5_1).f2)) := hcc7 2 _ rfl; have hf7_0 : w12.frozen? ⟨go5, (x5_1 : Int).toNat * 3, none⟩ = false := hfr7 0; have hf7_1 : w12.frozen? ⟨go5, (x5_1 : Int).toNat * 3 + 1, none⟩ = false := hfr7 1; have hf7_2 : w12.frozen? ⟨go5, (x5_1 : Int).toNat * 3 + 2, none⟩ = false := hfr7 2; clear hcl7 hcc7 hfr7 hM7; replace p7 := eq_true p7; replace q7 := eq_true q7; have HX13 := Aside0.mk (show Kd.R k67 67 w12 w0.heap.size (fun k_ => (P0_ k_ ∨ w.heap.size ≤ k_)) (.slice (some ⟨go5, 0, none⟩) x0_1.length co8) y653 from ax271); obtain ⟨ce13, hcl13, hM13, hcc13, hfr13⟩ := Kd.R_elem HX13.out z67 (x5_1 : Int) (of_decide_eq_true ax38) ax272; obtain rfl := k67_openM hM13; have HP13 := Kd.R_seg HX13.out (x5_1 : Int) (of_decide_eq_true ax38) ax272 (seg := [.bool ((Int.tmod (wrap64 ((wrap64 (x1_1 + 1)) + 1)) 3) == 0)]) (j := 2) hcl13 hcc13 (show 3 ≤ 3 from by decide) (x' := (⟨(rd_T67 y653 x5_1).f0, (rd_T67 y653 x5_1).f1, ((Int.tmod (wrap64 ((wrap64 (x1_1 + 1)) + 1)) 3) == 0)⟩ : S67)) (k67_mkM _ _ _ (⟨(rd_T67 y653 x5_1).f0, (rd_T67 y653 x5_1).f1, ((Int.tmod (wrap64 ((wrap64 (x1_1 + 1)) + 1)) 3) == 0)⟩ : S67) ) (fun _ hk => hk); have hx13_2 := hcc13 2 _ rfl; (try simp only [show (k67).sz = 3 from rfl, Nat.mul_one, Nat.add_zero] at hx13_2); have hf13_2 := hfr13 2; (try simp only [show (k67).sz = 3 from rfl, Nat.mul_one, Nat.add_zero] at hf13_2); clear hcl13 hcc13 hfr13 hM13) | ((with_reducible refine gate_store (t := 4) (p := 32) rfl ?_); refine store_event (t := 4) (p := 32) (v := ?vo_w14) (w1 := (w12.setCell ⟨go5, (x5_1 : Int).toNat * 3 + 2, none⟩ (.bool ((Int.tmod (wrap64 ((wrap64 (x1_1 + 1)) + 1)) 3) == 0)))) ?hg ?ho ?hn ?hr ?_; (case ho => rfl); (case hg => rfl); (case hn => rfl); (case hr => exact ax31); intro w14 hw; have hg : w12.grownBy w14 (some go5) := (by rw [hw]; exact HP13.2); have hp_ : Kd.R k67 67 w14 w0.heap.size (fun k_ => (P0_ k_ ∨ w.heap.size ≤ k_)) (.slice (some ⟨go5, 0, none⟩) x0_1.length co8) y654 := (by rw [hw, Ny654.out]; exact HP13.1); clear HP13; have n0_ := Aside0.mk (hp_); have n1_ := Aside0.mk ((ax273 : Below w0.heap.size w0 w14)); have n2_ := Aside0.mk (Kept.of_grown (S := (fun k_ => P0_ k_)) hg ax274 (fun k_ e_ => (HO_0.out.1 k_ e_))); clear HO_0; clear HB; clear HK; have HO_0 := n0_; have HB := n1_; have HK := n2_; clear n0_ n1_ n2_; clear hg hw hp_))
     go_roundg k1
     case measure => have := HK1.out; omega
     case rel => exact ⟨(y654), (wrap64 ((wrap64 ((wrap64 (x1_1 + 1)) + 1)) + 1)), (wrap64 (x5_1 + 1)), ax37, ax37, H', ⟨by have := HK1.out; omega⟩, ⟨by (with_reducible repeat (first | apply Kd.R_alloc | apply Kd.R_drewN | apply Kd.R_drew)); exact HO_0.out⟩, ⟨by repeat (first | (with_reducible first | exact HK.out | apply Kept.alloc | apply Kept.drewN | apply Kept.drew) | exact HK.out)⟩, ⟨by repeat (first | (with_reducible first | exact HB.out | apply below_alloc | apply pw_below_drewN | apply below_drew1) | exact HB.out)⟩⟩
    ·exact ax11
   ·rw [if_neg c3] at H
    have c3b0 : decide (x5_1 < (x0_1.length : Int)) = false := decide_eq_false c3
    clear c3
    simp only [Option.some.injEq, Prod.mk.injEq] at H
    obtain ⟨rfl, rfl⟩ := H
    obtain ⟨Ao15, co15, eo15⟩ := Kd.R_slice HO_0.out
    subst eo15
    go_wp2
    go_ret
    exact ⟨by first | rfl | (simp [errW_none, errW_some] <;> rfl) | (simp [*, errW_none, errW_some] <;> rfl), by (with_reducible repeat (first | apply Kd.R_alloc | apply Kd.R_drewN | apply Kd.R_drew)); exact HO_0.out, by repeat (first | (with_reducible first | exact HB.out | apply below_alloc | apply pw_below_drewN | apply below_drew1) | exact HB.out), by repeat (first | (with_reducible first | exact HK.out | apply Kept.alloc | apply Kept.drewN | apply Kept.drew) | exact HK.out)⟩

/-! ### laws_markTrie: function 31 -/
def laws_markTrie.f (k : Nat) (l0_0 : List (S67)) (a1 : Int) : Option (Int × (List (S67))) := (laws_markNodeS.f k l0_0 a1).bind fun bt656 => (some (bt656.1, bt656.2))
theorem laws_markTrie.mono : ∀ a0 a1 k, LeO (laws_markTrie.f k a0 a1) (laws_markTrie.f (k + 1) a0 a1) := by
 intro a0 a1 k
 unfold laws_markTrie.f
 repeat' first
   | (with_reducible exact laws_markNodeS.mono _ _ _)
   | (with_reducible exact LeO.refl _)
   | (with_reducible exact LeO.none _)
   | (with_reducible refine LeO.ite ?_ ?_)
   | (with_reducible refine LeO.bind ?_ (fun _ => ?_))
   | exact laws_markNodeS.mono _ _ _
   | exact LeO.none _
   | refine LeO.ite ?_ ?_
   | refine LeO.bind ?_ (fun _ => ?_)
set_option maxHeartbeats 8000000 in
set_option maxRecDepth 100000 in
theorem laws_markTrie.calls (k : Nat) (P0_0_ : Nat → Prop) (u9000_ : Value) (l0_0 : List (S67)) (a1 : Int) (r1 : Int) (r2 : List (S67)) (w0 w : World) (hB : Below w0.heap.size w0 w) (ho0_0 : Kd.R k67 67 w w0.heap.size P0_0_ u9000_ l0_0) (h : laws_markTrie.f k l0_0 a1 = some (r1, r2)) :
  Calls Try.prog 31 #[.agg #[u9000_], .int .i64 a1] w fun e w' => e = .returned (.int .i64 r1) ∧ Kd.R k67 67 w' w0.heap.size (fun k_ => (P0_0_ k_ ∨ w.heap.size ≤ k_)) u9000_ r2 ∧ Below w0.heap.size w0 w' ∧ Kept w w' (fun k_ => P0_0_ k_) := by
 have hu30 := Try.underlying30
 have HO0_0 := Aside0.mk (show Kd.R k67 67 w w0.heap.size (fun k_ => (P0_0_ k_ ∨ w.heap.size ≤ k_)) u9000_ l0_0 from Kd.R_mono ho0_0 (fun k_ hk => (.inl hk)))
 have HK := Aside0.mk (Kept.refl w (fun k_ => P0_0_ k_))
 have HW0 := Aside0.mk hB.size; have HB := Aside0.mk hB; clear hB
 have H : ((laws_markNodeS.f k l0_0 a1).bind fun bt656 => (some (bt656.1, bt656.2))) = some (r1, r2) := h
 clear h; replace H := Option.bind_eq_some_iff.mp H
 obtain ⟨⟨t656, t657⟩, A30, H⟩ := H
 replace H : (some (t656, t657)) = some (r1, r2) := H
 have A3 := Aside0.mk A30; clear A30
 simp only [Option.some.injEq, Prod.mk.injEq] at H
 obtain ⟨rfl, rfl⟩ := H
 obtain ⟨Ao4, co4, eo4⟩ := Kd.R_slice HO0_0.out
 subst eo4
 go_enter Try.func31, Try.ntmps31
 go_wp2_with (first | ((with_reducible refine gate_dst (N := 2) rfl ?_); refine box_event ?hg (N := 2) ?hd (cs := #[.slice Ao4 l0_0.length co4]) (t := 30) ?hr ?_; (case hd => rfl); (case hg => rfl); (case hr => exact ax31); intro gb655 hg w5 hbox hb; have n0_ := Aside0.mk (Kd.R_below (by (with_reducible repeat (first | apply Kd.R_alloc | apply Kd.R_drewN | apply Kd.R_drew)); exact HO0_0.out) hb); have n1_ := Aside0.mk (Kept.below (S := (fun k_ => P0_0_ k_)) ax274 hb); have n2_ := Aside0.mk (below_step ax32 hb); have n3_ := Aside0.mk (hbox); have n4_ := Aside0.mk ((by rw [hg]; exact (by first | exact HK.out.1 | exact (show Kept w _ (fun k_ => P0_0_ k_) from by repeat (first | (with_reducible first | exact HK.out | apply Kept.alloc | apply Kept.drewN | apply Kept.drew) | exact HK.out)).1) : w.heap.size ≤ gb655)); have n5_ := Aside0.mk ((ax33 : w0.heap.size ≤ gb655)); clear HO0_0; clear HK; clear HB; have HO0_0 := n0_; have HK := n1_; have HB := n2_; have BK655 := n3_; have GW655 := n4_; have GE655 := n5_; clear n0_ n1_ n2_ n3_ n4_ n5_; clear hb hbox hg; have hcz6_0 : w5.cell? ⟨gb655, 0, none⟩ = some (.slice Ao4 l0_0.length co4) := (blk_cell BK655.out 0).trans rfl; have hfz6_0 := blk_frozen BK655.out 0) | ((with_reducible refine gate_callee (f := 64) rfl ?_); refine goesL_ (some 8) rfl rfl Try.func64 (by kernel_rfl) rfl #[.slice Ao4 l0_0.length co4, .int .i64 a1] rfl ax34 ?_; (with_reducible refine (laws_markNodeS.calls k (fun k_ => some k_ = (.slice Ao4 l0_0.length co4 : Value).ownBlock) (.slice Ao4 l0_0.length co4) l0_0 a1 t656 t657 w0 _ ?side1 ?side2 A3.out).mono ?_); (case side1 => repeat (first | (with_reducible first | exact HB.out | apply below_alloc | apply pw_below_drewN | apply below_drew1 | refine below_set ?_ GE655.out) | exact HB.out)); (case side2 => exact Kd.R_tight rfl HO0_0.out); rintro e w7 ⟨rfl, hy0, hb, hkp⟩; refine ⟨_, rfl, ?_⟩; have n0_ := Aside0.mk (Kd.R_reok rfl hy0 (fun k_ e_ => HO0_0.out.1 k_ e_)); have n1_ := Aside0.mk (blk_kept (by (with_reducible repeat (first | refine blk_drewN ?_ _ | refine blk_drew ?_ | refine blk_alloc ?_ _)); exact BK655.out) hkp (fun hs_ => (fun e_ => (Kd.R_ne HO0_0.out BK655.out (by decide)) e_) hs_)); have n2_ := Aside0.mk (Kept.then_ (S := (fun k_ => P0_0_ k_)) (by repeat (first | (with_reducible first | exact HK.out | apply Kept.alloc | apply Kept.drewN | apply Kept.drew | refine Kept.setCell ?_ (.inr GW655.out) _) | exact HK.out)) hkp (fun k_ hs_ => (fun e_ => (HO0_0.out.1 k_ e_.symm)) hs_)); have n3_ := Aside0.mk (hb); clear HO0_0; clear BK655; clear HK; clear HB; have HO0_0 := n0_; have BK655 := n1_; have HK := n2_; have HB := n3_; clear n0_ n1_ n2_ n3_; (try clear hb); (try clear hkp); (try clear hy0)))
 go_ret
 exact ⟨by first | rfl | (simp [errW_none, errW_some] <;> rfl) | (simp [*, errW_none, errW_some] <;> rfl), by (with_reducible repeat (first | apply Kd.R_alloc | apply Kd.R_drewN | apply Kd.R_drew)); exact HO0_0.out, by repeat (first | (with_reducible first | exact HB.out | apply below_alloc | apply pw_below_drewN | apply below_drew1 | refine below_set ?_ GE655.out) | exact HB.out), by repeat (first | (with_reducible first | exact HK.out | apply Kept.alloc | apply Kept.drewN | apply Kept.drew | refine Kept.setCell ?_ (.inr GW655.out) _) | exact HK.out)⟩

/-! ### laws_markText: function 65 -/
def laws_markText.l0 : Nat → Int → ByteArray → Option (ByteArray)
 | 0, _, _ => none
 | k + 1, x0, x3 => if x0 > 0 then ((some (([(wrap64 (48 + (Int.tmod x0 10))) % 256] : List Int) : List Int)).bind fun y658 => (if (strOfNums y658).size + x3.size ≤ 9223372036854775807 then (laws_markText.l0 k (wrap64 (Int.tdiv x0 10)) ((strOfNums y658) ++ x3)) else (none))) else (if 1 + x3.size ≤ 9223372036854775807 then (some ((⟨#[109]⟩ : ByteArray) ++ x3)) else (none))
def laws_markText.f (k : Nat) (a0 : Int) : Option (ByteArray) := if a0 ≤ 0 then (some (⟨#[109, 48]⟩ : ByteArray)) else (laws_markText.l0 k a0 (⟨#[]⟩ : ByteArray))
theorem laws_markText.mono_l : ∀ k, (∀ y0 y1, LeO (laws_markText.l0 k y0 y1) (laws_markText.l0 (k + 1) y0 y1))
 | 0 => fun _ _ r h => by simp [laws_markText.l0] at h
 | k + 1 => by
  have ih0 := laws_markText.mono_l k
  ·intro y0 y1
   unfold laws_markText.l0
   repeat' first
   | (with_reducible exact ih0 _ _)
   | (with_reducible exact LeO.refl _)
   | (with_reducible exact LeO.none _)
   | (with_reducible refine LeO.ite ?_ ?_)
   | (with_reducible refine LeO.bind ?_ (fun _ => ?_))
   | exact ih0 _ _
   | exact LeO.none _
   | refine LeO.ite ?_ ?_
   | refine LeO.bind ?_ (fun _ => ?_)
theorem laws_markText.mono : ∀ a0 k, LeO (laws_markText.f k a0) (laws_markText.f (k + 1) a0) := by
 intro a0 k
 have ih0 := laws_markText.mono_l k
 unfold laws_markText.f
 repeat' first
   | (with_reducible exact ih0 _ _)
   | (with_reducible exact LeO.refl _)
   | (with_reducible exact LeO.none _)
   | (with_reducible refine LeO.ite ?_ ?_)
   | (with_reducible refine LeO.bind ?_ (fun _ => ?_))
   | exact ih0 _ _
   | exact LeO.none _
   | refine LeO.ite ?_ ?_
   | refine LeO.bind ?_ (fun _ => ?_)
set_option maxHeartbeats 8000000 in
set_option maxRecDepth 100000 in
theorem laws_markText.calls (k : Nat) (a0 : Int) (r : ByteArray) (w : World) (h : laws_markText.f k a0 = some r) :
  Calls Try.prog 65 #[.int .i64 a0] w fun e w' => e = .returned (.string r) ∧ Below w.heap.size w w' := by
 have HB := Aside0.mk (Below.refl w.heap.size w)
 have H : (if a0 ≤ 0 then (some (⟨#[109, 48]⟩ : ByteArray)) else (laws_markText.l0 k a0 (⟨#[]⟩ : ByteArray))) = some r := h
 clear h
 by_cases c2 : a0 ≤ 0
 ·rw [if_pos c2] at H
  have c2b0 : decide (a0 ≤ 0) = true := decide_eq_true c2
  clear c2
  obtain rfl := Option.some.inj H
  go_enter Try.func65, Try.ntmps65
  go_wp2
  go_ret
  exact ⟨by first | rfl | (simp [errW_none, errW_some] <;> rfl) | (simp [*, errW_none, errW_some] <;> rfl), by repeat (first | (with_reducible first | exact HB.out | apply below_alloc | apply pw_below_drewN | apply below_drew1) | exact HB.out)⟩
 ·rw [if_neg c2] at H
  have c2b0 : decide (a0 ≤ 0) = false := decide_eq_false c2
  clear c2
  have H' := Aside0.mk H
  clear H
  go_enter Try.func65, Try.ntmps65
  go_wp2
  go_loopg [0, 3] k (fun kq v0 v3 w' => ∃ (x0_1 : Int) (x3_1 : ByteArray), v0 = .int .i64 x0_1 ∧ v3 = .string x3_1 ∧ Aside0 (laws_markText.l0 kq x0_1 x3_1 = some r) ∧ Aside0 (kq ≤ k) ∧ Aside0 (Below w.heap.size w w'))
  case atStart => exact ⟨(a0), ((⟨#[]⟩ : ByteArray)), ax37, ax37, H', ⟨Nat.le_refl _⟩, ⟨by repeat (first | (with_reducible first | exact HB.out | apply below_alloc | apply pw_below_drewN | apply below_drew1) | exact HB.out)⟩⟩
  case round =>
   clear H'
   try clear c2
   try clear c2b0
   try clear p2
   obtain ⟨x0_1, x3_1, rfl, rfl, HA, HK1, HB⟩ := hrel
   cases gk with
   | zero => exact absurd HA.out (by simp [laws_markText.l0])
   | succ k1 =>
    have H := HA.out; clear HA
    simp only [laws_markText.l0] at H
    by_cases c3 : x0_1 > 0
    ·rw [if_pos c3] at H
     have c3b0 : decide (0 < x0_1) = true := decide_eq_true c3
     clear c3
     obtain ⟨y658, hy658⟩ : ∃ y_ : List Int, y_ = (([(wrap64 (48 + (Int.tmod x0_1 10))) % 256] : List Int)) := ⟨_, rfl⟩
     replace H : (if (strOfNums y658).size + x3_1.size ≤ 9223372036854775807 then (laws_markText.l0 k1 (wrap64 (Int.tdiv x0_1 10)) ((strOfNums y658) ++ x3_1)) else (none)) = some r := by first | (rw [hy658]; with_reducible exact H) | (have H2_ := (Option.bind_some _ _).symm.trans H; rw [hy658]; with_reducible exact H2_) | (have H2_ := (Option.bind_some _ _).symm.trans H; with_reducible exact H2_) | with_reducible exact H | (rw [hy658]; exact H) | exact H
     have Ny658 := Aside0.mk hy658; clear hy658
     by_cases c4 : (strOfNums y658).size + x3_1.size ≤ 9223372036854775807
     ·rw [if_pos c4] at H
      have c4b0 := eq_true c4
      have c4b1 : decide ((strOfNums y658).size + x3_1.size ≤ 9223372036854775807) = true := decide_eq_true c4
      try have c4b2 : (9223372036854775807 < (strOfNums y658).size + x3_1.size) = False := eq_false (Nat.not_lt.2 c4)
      clear c4
      obtain ⟨js5, hjs5⟩ : ∃ j_ : ByteArray, ((strOfNums y658) ++ x3_1) = j_ := ⟨_, rfl⟩
      replace H : (laws_markText.l0 k1 (wrap64 (Int.tdiv x0_1 10)) js5) = some r := by first | (rw [hjs5] at H; exact H) | (simp only [hjs5] at H ⊢; exact H)
      have H' := Aside0.mk H
      clear H
      go_wp2_with (first | ((with_reducible refine gate_dst (N := 12) rfl ?_); refine Kd.R_lit (Kd.int .u8) _ 5 ?hg (N := 12) ?hd (xs := ([(wrap64 (48 + (Int.tmod x0_1 10))) % 256] : List Int)) (inner := [.int .u8 ((wrap64 (48 + (Int.tmod x0_1 10))) % 256)]) (ok := fun _ => True) (okp := fun _ => True) ?hr ?hp (fun _ hk => hk) trivial (Below.refl _ _) (Nat.le_refl _) (by simp) ?_; (case hd => rfl); (case hg => rfl); (case hr => exact ax31); (case hp => exact (Reps.one (show Kd.M (Kd.int .u8) _ _ _ ((wrap64 (48 + (Int.tmod x0_1 10))) % 256) [.int .u8 ((wrap64 (48 + (Int.tmod x0_1 10))) % 256)] from rfl) (Reps.none _ _))); intro v659 w6 ho7 hb hg_ hnew_; clear hg_ hnew_; (first | rw [← Ny658.out] at ho7 | (simp only [Int.reduceToNat] at ho7; rw [← Ny658.out] at ho7)); have n0_ := Aside0.mk (Kd.R_lower ho7 (below_size ax32)); have n1_ := Aside0.mk (below_step ax32 hb); clear HB; have HO660 := n0_; have HB := n1_; clear n0_ n1_; clear hb ho7; have hcv8 := own_string (P := Try.prog) Try.underlying84 Try.underlying5 Try.underlying9 (Kd.own_of_R HO660.out)))
      go_roundg k1
      case measure => have := HK1.out; omega
      case rel => exact ⟨(wrap64 (Int.tdiv x0_1 10)), (js5), ax37, (by first | rfl | (simp; done) | (simp only [← hjs5] <;> (first | rfl | simp)) | (simp [*]; done)), H', ⟨by have := HK1.out; omega⟩, ⟨by repeat (first | (with_reducible first | exact HB.out | apply below_alloc | apply pw_below_drewN | apply below_drew1) | exact HB.out)⟩⟩
     ·exact ax11
    ·rw [if_neg c3] at H
     have c3b0 : decide (0 < x0_1) = false := decide_eq_false c3
     clear c3
     by_cases c9 : 1 + x3_1.size ≤ 9223372036854775807
     ·rw [if_pos c9] at H
      have c9b0 := eq_true c9
      have c9b1 : decide (1 + x3_1.size ≤ 9223372036854775807) = true := decide_eq_true c9
      try have c9b2 : (9223372036854775807 < 1 + x3_1.size) = False := eq_false (Nat.not_lt.2 c9)
      clear c9
      obtain ⟨js10, hjs10⟩ : ∃ j_ : ByteArray, ((⟨#[109]⟩ : ByteArray) ++ x3_1) = j_ := ⟨_, rfl⟩
      replace H : (some js10) = some r := by first | (rw [hjs10] at H; exact H) | (simp only [hjs10] at H ⊢; exact H)
      obtain rfl := Option.some.inj H
      go_wp2
      go_ret
      exact ⟨by first | rfl | (simp [errW_none, errW_some] <;> rfl) | (simp only [← hjs10]; first | rfl | (simp [errW_none, errW_some] <;> rfl)) | (simp [*, errW_none, errW_some] <;> rfl), by repeat (first | (with_reducible first | exact HB.out | apply below_alloc | apply pw_below_drewN | apply below_drew1) | exact HB.out)⟩
     ·exact ax4
end Go.Proofs.Ytcbjfflaamlpcaa.X

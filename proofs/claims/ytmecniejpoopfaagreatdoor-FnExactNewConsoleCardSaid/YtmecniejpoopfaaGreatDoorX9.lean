-- By gen.py (the session's own program over the kit's printer): functions of the program, each with its contract. Lean checks it.
import Derived.Test.YtmecniejpoopfaaGreatDoorX0
import Derived.Test.YtmecniejpoopfaaGreatDoorX3
namespace Go.Proofs.YtmecniejpoopfaaGreatDoor.X
open Go.RowKit Go.Proofs.YtmecniejpoopfaaGreatDoorW.PrintWords Go.Proofs.YtmecniejpoopfaaGreatDoorW.PrintLast Go.Proofs.YtmecniejpoopfaaGreatDoorW.PrintMore
attribute [local go_sem] max2_int min2_int max_two min_two max_three min_three max_four min_four   -- for this text's walks alone
set_option linter.unusedVariables false
set_option linter.unusedSimpArgs false

/-! ### laws_szBook: function 14 -/
def laws_szBook.f (a0_0 : ByteArray) (a0_1 : ByteArray) (a0_2 : Int) (a1 : Int) : Option (Int) := if (wrap64 (a1 - (a0_0.size : Int))) < 0 then (some (-1)) else (if (wrap64 ((wrap64 (a1 - (a0_0.size : Int))) - (a0_1.size : Int))) < 0 then (some (-1)) else (some (wrap64 ((wrap64 (a1 - (a0_0.size : Int))) - (a0_1.size : Int)))))
set_option maxHeartbeats 8000000 in
set_option maxRecDepth 100000 in
theorem laws_szBook.calls (a0_0 : ByteArray) (a0_1 : ByteArray) (a0_2 : Int) (a1 : Int) (r : Int) (w : World) (h : laws_szBook.f a0_0 a0_1 a0_2 a1 = some r) :
  Calls Tryz.prog 14 #[.agg #[.string a0_0, .string a0_1, .int .i64 a0_2], .int .i64 a1] w fun e w' => e = .returned (.int .i64 r) ∧ Below w.heap.size w w' := by
 have hu32 := Tryz.underlying32; have HB := Aside0.mk (Below.refl w.heap.size w)
 have H : (if (wrap64 (a1 - (a0_0.size : Int))) < 0 then (some (-1)) else (if (wrap64 ((wrap64 (a1 - (a0_0.size : Int))) - (a0_1.size : Int))) < 0 then (some (-1)) else (some (wrap64 ((wrap64 (a1 - (a0_0.size : Int))) - (a0_1.size : Int)))))) = some r := h
 clear h
 by_cases c3 : (wrap64 (a1 - (a0_0.size : Int))) < 0
 ·rw [if_pos c3] at H
  have c3b0 : decide ((wrap64 (a1 - (a0_0.size : Int))) < 0) = true := decide_eq_true c3
  clear c3
  obtain rfl := Option.some.inj H
  go_enter Tryz.func14, Tryz.ntmps14
  go_wp2_with (first | ((with_reducible refine gate_dst (N := 2) rfl ?_); refine box_event ?hg (N := 2) ?hd (cs := #[.string a0_0, .string a0_1, .int .i64 a0_2]) (t := 32) ?hr ?_; (case hd => rfl); (case hg => rfl); (case hr => exact ax23); intro gb306 hg w4 hbox hb; have n0_ := Aside0.mk (below_step ax25 hb); have n1_ := Aside0.mk (hbox); have n2_ := Aside0.mk ((ax54 : w.heap.size ≤ gb306)); have n3_ := Aside0.mk ((ax54 : w.heap.size ≤ gb306)); clear HB; have HB := n0_; have BK306 := n1_; have GW306 := n2_; have GE306 := n3_; clear n0_ n1_ n2_ n3_; clear hb hbox hg; have hcz5_0 : w4.cell? ⟨gb306, 0, none⟩ = some (.string a0_0) := (blk_cell BK306.out 0).trans rfl; have hcz5_1 : w4.cell? ⟨gb306, 1, none⟩ = some (.string a0_1) := (blk_cell BK306.out 1).trans rfl; have hcz5_2 : w4.cell? ⟨gb306, 2, none⟩ = some (.int .i64 a0_2) := (blk_cell BK306.out 2).trans rfl; have hfz5_0 := blk_frozen BK306.out 0; have hfz5_1 := blk_frozen BK306.out 1; have hfz5_2 := blk_frozen BK306.out 2))
  go_ret
  exact ⟨by first | rfl | (simp [errW_none, errW_some] <;> rfl) | (simp [*, errW_none, errW_some] <;> rfl), by repeat (first | (with_reducible first | exact HB.out | apply below_alloc | apply pw_below_drewN | apply below_drew1 | refine below_set ?_ GE306.out) | exact HB.out)⟩
 ·rw [if_neg c3] at H
  have c3b0 : decide ((wrap64 (a1 - (a0_0.size : Int))) < 0) = false := decide_eq_false c3
  clear c3
  by_cases c6 : (wrap64 ((wrap64 (a1 - (a0_0.size : Int))) - (a0_1.size : Int))) < 0
  ·rw [if_pos c6] at H
   have c6b0 : decide ((wrap64 ((wrap64 (a1 - (a0_0.size : Int))) - (a0_1.size : Int))) < 0) = true := decide_eq_true c6
   clear c6
   obtain rfl := Option.some.inj H
   go_enter Tryz.func14, Tryz.ntmps14
   go_wp2_with (first | ((with_reducible refine gate_dst (N := 2) rfl ?_); refine box_event ?hg (N := 2) ?hd (cs := #[.string a0_0, .string a0_1, .int .i64 a0_2]) (t := 32) ?hr ?_; (case hd => rfl); (case hg => rfl); (case hr => exact ax23); intro gb306 hg w7 hbox hb; have n0_ := Aside0.mk (below_step ax25 hb); have n1_ := Aside0.mk (hbox); have n2_ := Aside0.mk ((ax54 : w.heap.size ≤ gb306)); have n3_ := Aside0.mk ((ax54 : w.heap.size ≤ gb306)); clear HB; have HB := n0_; have BK306 := n1_; have GW306 := n2_; have GE306 := n3_; clear n0_ n1_ n2_ n3_; clear hb hbox hg; have hcz8_0 : w7.cell? ⟨gb306, 0, none⟩ = some (.string a0_0) := (blk_cell BK306.out 0).trans rfl; have hcz8_1 : w7.cell? ⟨gb306, 1, none⟩ = some (.string a0_1) := (blk_cell BK306.out 1).trans rfl; have hcz8_2 : w7.cell? ⟨gb306, 2, none⟩ = some (.int .i64 a0_2) := (blk_cell BK306.out 2).trans rfl; have hfz8_0 := blk_frozen BK306.out 0; have hfz8_1 := blk_frozen BK306.out 1; have hfz8_2 := blk_frozen BK306.out 2))
   go_ret
   exact ⟨by first | rfl | (simp [errW_none, errW_some] <;> rfl) | (simp [*, errW_none, errW_some] <;> rfl), by repeat (first | (with_reducible first | exact HB.out | apply below_alloc | apply pw_below_drewN | apply below_drew1 | refine below_set ?_ GE306.out) | exact HB.out)⟩
  ·rw [if_neg c6] at H
   have c6b0 : decide ((wrap64 ((wrap64 (a1 - (a0_0.size : Int))) - (a0_1.size : Int))) < 0) = false := decide_eq_false c6
   clear c6
   obtain rfl := Option.some.inj H
   go_enter Tryz.func14, Tryz.ntmps14
   go_wp2_with (first | ((with_reducible refine gate_dst (N := 2) rfl ?_); refine box_event ?hg (N := 2) ?hd (cs := #[.string a0_0, .string a0_1, .int .i64 a0_2]) (t := 32) ?hr ?_; (case hd => rfl); (case hg => rfl); (case hr => exact ax23); intro gb306 hg w9 hbox hb; have n0_ := Aside0.mk (below_step ax25 hb); have n1_ := Aside0.mk (hbox); have n2_ := Aside0.mk ((ax54 : w.heap.size ≤ gb306)); have n3_ := Aside0.mk ((ax54 : w.heap.size ≤ gb306)); clear HB; have HB := n0_; have BK306 := n1_; have GW306 := n2_; have GE306 := n3_; clear n0_ n1_ n2_ n3_; clear hb hbox hg; have hcz10_0 : w9.cell? ⟨gb306, 0, none⟩ = some (.string a0_0) := (blk_cell BK306.out 0).trans rfl; have hcz10_1 : w9.cell? ⟨gb306, 1, none⟩ = some (.string a0_1) := (blk_cell BK306.out 1).trans rfl; have hcz10_2 : w9.cell? ⟨gb306, 2, none⟩ = some (.int .i64 a0_2) := (blk_cell BK306.out 2).trans rfl; have hfz10_0 := blk_frozen BK306.out 0; have hfz10_1 := blk_frozen BK306.out 1; have hfz10_2 := blk_frozen BK306.out 2))
   go_ret
   exact ⟨by first | rfl | (simp [errW_none, errW_some] <;> rfl) | (simp [*, errW_none, errW_some] <;> rfl), by repeat (first | (with_reducible first | exact HB.out | apply below_alloc | apply pw_below_drewN | apply below_drew1 | refine below_set ?_ GE306.out) | exact HB.out)⟩

/-! ### spec_l1In: function 67 -/
def spec_l1In.f (a0 : Int) (a1 : Int) (a2 : Int) : Option (Bool) := if a0 ≥ a1 then (some (decide (a0 ≤ a2))) else (some false)
set_option maxHeartbeats 8000000 in
set_option maxRecDepth 100000 in
theorem spec_l1In.calls (a0 : Int) (a1 : Int) (a2 : Int) (r : Bool) (w : World) (h : spec_l1In.f a0 a1 a2 = some r) :
  Calls Tryz.prog 67 #[.int .i64 a0, .int .i64 a1, .int .i64 a2] w fun e w' => e = .returned (.bool r) ∧ Drawn0 w w' := by
 have H : (if a0 ≥ a1 then (some (decide (a0 ≤ a2))) else (some false)) = some r := h
 clear h
 by_cases c4 : a0 ≥ a1
 ·rw [if_pos c4] at H
  have c4b0 : decide (a1 ≤ a0) = true := decide_eq_true c4
  clear c4
  obtain rfl := Option.some.inj H
  go_enter Tryz.func67, Tryz.ntmps67
  go_wp2
  go_ret
  exact ⟨by first | rfl | (simp; done) | (simp [*]; done), by repeat (first | exact Drawn0.refl _ | apply Drawn0.step)⟩
 ·rw [if_neg c4] at H
  have c4b0 : decide (a1 ≤ a0) = false := decide_eq_false c4
  clear c4
  obtain rfl := Option.some.inj H
  go_enter Tryz.func67, Tryz.ntmps67
  go_wp2
  go_ret
  exact ⟨by first | rfl | (simp; done) | (simp [*]; done), by repeat (first | exact Drawn0.refl _ | apply Drawn0.step)⟩

/-! ### spec_l1Split: function 87 -/
def spec_l1Split.l0 : Nat → ByteArray → Int → List ByteArray → Int → Int → Option (List ByteArray)
 | 0, _, _, _, _, _ => none
 | k + 1, x0, x1, x5, x6, x7 => if x7 < (x0.size : Int) then (if 0 ≤ x7 then (if (bt x0 x7) = x1 then (if 0 ≤ x6 then (if x6 ≤ x7 then (if x7 ≤ (x0.size : Int) then (if x5.length < 8796093022208 then (spec_l1Split.l0 k x0 x1 (x5 ++ [x0.extract (x6 : Int).toNat (x7 : Int).toNat]) (wrap64 (x7 + 1)) (wrap64 (x7 + 1))) else (none)) else (none)) else (none)) else (none)) else (spec_l1Split.l0 k x0 x1 x5 x6 (wrap64 (x7 + 1)))) else (none)) else (if 0 ≤ x6 then (if x6 ≤ (x0.size : Int) then (if x5.length < 8796093022208 then (some (x5 ++ [x0.extract (x6 : Int).toNat x0.size])) else (none)) else (none)) else (none))
def spec_l1Split.f (k : Nat) (a0 : ByteArray) (a1 : Int) : Option (List ByteArray) := spec_l1Split.l0 k a0 a1 (([] : List ByteArray)) 0 0
theorem spec_l1Split.mono_l : ∀ k, (∀ y0 y1 y2 y3 y4, LeO (spec_l1Split.l0 k y0 y1 y2 y3 y4) (spec_l1Split.l0 (k + 1) y0 y1 y2 y3 y4))
 | 0 => fun _ _ _ _ _ r h => by simp [spec_l1Split.l0] at h
 | k + 1 => by
  have ih0 := spec_l1Split.mono_l k
  ·intro y0 y1 y2 y3 y4
   unfold spec_l1Split.l0
   repeat' first
   | (with_reducible exact ih0 _ _ _ _ _)
   | (with_reducible exact LeO.refl _)
   | (with_reducible exact LeO.none _)
   | (with_reducible refine LeO.ite ?_ ?_)
   | (with_reducible refine LeO.bind ?_ (fun _ => ?_))
   | exact ih0 _ _ _ _ _
   | exact LeO.none _
   | refine LeO.ite ?_ ?_
   | refine LeO.bind ?_ (fun _ => ?_)
theorem spec_l1Split.mono : ∀ a0 a1 k, LeO (spec_l1Split.f k a0 a1) (spec_l1Split.f (k + 1) a0 a1) := by
 intro a0 a1 k
 have ih0 := spec_l1Split.mono_l k
 unfold spec_l1Split.f
 repeat' first
   | (with_reducible exact ih0 _ _ _ _ _)
   | (with_reducible exact LeO.refl _)
   | (with_reducible exact LeO.none _)
   | (with_reducible refine LeO.ite ?_ ?_)
   | (with_reducible refine LeO.bind ?_ (fun _ => ?_))
   | exact ih0 _ _ _ _ _
   | exact LeO.none _
   | refine LeO.ite ?_ ?_
   | refine LeO.bind ?_ (fun _ => ?_)
set_option maxHeartbeats 8000000 in
set_option maxRecDepth 100000 in
theorem spec_l1Split.calls (k : Nat) (a0 : ByteArray) (a1 : Int) (r : List ByteArray) (w : World) (h : spec_l1Split.f k a0 a1 = some r) :
  Calls Tryz.prog 87 #[.string a0, .int .u8 a1] w fun e w' => ∃ v0_ : Value, e = .returned (v0_) ∧ Kd.R Kd.string 9 w' w.heap.size (fun _ => True) v0_ r ∧ Below w.heap.size w w' := by
 have HB := Aside0.mk (Below.refl w.heap.size w)
 have H : (spec_l1Split.l0 k a0 a1 (([] : List ByteArray)) 0 0) = some r := h
 clear h
 obtain ⟨y307, hy307⟩ : ∃ y_ : List ByteArray, y_ = (([] : List ByteArray)) := ⟨_, rfl⟩
 replace H : (spec_l1Split.l0 k a0 a1 y307 0 0) = some r := by first | (rw [hy307]; with_reducible exact H) | (have H2_ := (Option.bind_some _ _).symm.trans H; rw [hy307]; with_reducible exact H2_) | (have H2_ := (Option.bind_some _ _).symm.trans H; with_reducible exact H2_) | with_reducible exact H | (rw [hy307]; exact H) | exact H
 have Ny307 := Aside0.mk hy307; clear hy307
 have H' := Aside0.mk H
 clear H
 go_enter Tryz.func87, Tryz.ntmps87
 go_wp2_with (first | ((with_reducible refine gate_dst (N := 8) rfl ?_); refine Kd.R_lit Kd.string _ 9 ?hg (N := 8) ?hd (xs := ([] : List ByteArray)) (inner := []) (ok := fun _ => True) (okp := fun _ => True) ?hr ?hp (fun _ hk => hk) trivial (Below.refl _ _) (Nat.le_refl _) (by simp) ?_; (case hd => rfl); (case hg => rfl); (case hr => exact ax23); (case hp => exact ax24); intro v308 w3 ho4 hb hg_ hnew_; clear hg_ hnew_; (first | rw [← Ny307.out] at ho4 | (simp only [Int.reduceToNat] at ho4; rw [← Ny307.out] at ho4)); have n0_ := Aside0.mk (Kd.R_lower ho4 (below_size ax25)); have n1_ := Aside0.mk (below_step ax25 hb); clear HB; have HO309 := n0_; have HB := n1_; clear n0_ n1_; clear hb ho4))
 go_loopg [5, 6, 7] k (fun kq v5 v6 v7 w' => ∃ (x5_1 : List ByteArray) (x6_1 : Int) (x7_1 : Int), v6 = .int .i64 x6_1 ∧ v7 = .int .i64 x7_1 ∧ Aside0 (spec_l1Split.l0 kq a0 a1 x5_1 x6_1 x7_1 = some r) ∧ Aside0 (kq ≤ k) ∧ Aside0 (Kd.R Kd.string 9 w' w.heap.size (fun _ => True) v5 x5_1) ∧ Aside0 (Below w.heap.size w w'))
 case atStart => exact ⟨(y307), (0), (0), ax21, ax21, H', ⟨Nat.le_refl _⟩, ⟨by (with_reducible repeat (first | apply Kd.R_alloc | apply Kd.R_drewN | apply Kd.R_drew)); exact HO309.out⟩, ⟨by repeat (first | (with_reducible first | exact HB.out | apply below_alloc | apply pw_below_drewN | apply below_drew1) | exact HB.out)⟩⟩
 case round =>
  clear H'
  try clear p2
  obtain ⟨x5_1, x6_1, x7_1, rfl, rfl, HA, HK1, HO_5, HB⟩ := hrel
  cases gk with
  | zero => exact absurd HA.out (by simp [spec_l1Split.l0])
  | succ k1 =>
   have H := HA.out; clear HA
   simp only [spec_l1Split.l0] at H
   by_cases c5 : x7_1 < (a0.size : Int)
   ·rw [if_pos c5] at H
    have c5b0 : decide (x7_1 < (a0.size : Int)) = true := decide_eq_true c5
    clear c5
    by_cases c6 : 0 ≤ x7_1
    ·rw [if_pos c6] at H
     have c6b0 : decide (0 ≤ x7_1) = true := decide_eq_true c6
     clear c6
     by_cases c8 : (bt a0 x7_1) = a1
     ·rw [if_pos c8] at H
      have c8b0 : ((bt a0 x7_1) == a1) = true := beq_iff_eq.mpr c8
      have c8b1 : ((bt a0 x7_1) != a1) = false := bne_eq_false_iff_eq.mpr c8
      clear c8
      by_cases c9 : 0 ≤ x6_1
      ·rw [if_pos c9] at H
       have c9b0 := eq_true c9
       have c9b1 : decide (0 ≤ x6_1) = true := decide_eq_true c9
       clear c9
       by_cases c10 : x6_1 ≤ x7_1
       ·rw [if_pos c10] at H
        have c10b0 := eq_true c10
        have c10b1 : decide (x6_1 ≤ x7_1) = true := decide_eq_true c10
        clear c10
        by_cases c11 : x7_1 ≤ (a0.size : Int)
        ·rw [if_pos c11] at H
         have c11b0 := eq_true c11
         have c11b1 : decide (x7_1 ≤ (a0.size : Int)) = true := decide_eq_true c11
         clear c11
         obtain ⟨js12, hjs12⟩ : ∃ j_ : ByteArray, (a0.extract (x6_1 : Int).toNat (x7_1 : Int).toNat) = j_ := ⟨_, rfl⟩
         replace H : (if x5_1.length < 8796093022208 then (spec_l1Split.l0 k1 a0 a1 (x5_1 ++ [js12]) (wrap64 (x7_1 + 1)) (wrap64 (x7_1 + 1))) else (none)) = some r := by first | (rw [hjs12] at H; exact H) | (simp only [hjs12] at H ⊢; exact H)
         by_cases c13 : x5_1.length < 8796093022208
         ·rw [if_pos c13] at H
          have LMc13 := Aside0.mk c13; clear c13
          obtain ⟨y310, hy310⟩ : ∃ y_ : List ByteArray, y_ = (x5_1 ++ [js12]) := ⟨_, rfl⟩
          replace H : (spec_l1Split.l0 k1 a0 a1 y310 (wrap64 (x7_1 + 1)) (wrap64 (x7_1 + 1))) = some r := by first | (rw [hy310]; with_reducible exact H) | (have H2_ := (Option.bind_some _ _).symm.trans H; rw [hy310]; with_reducible exact H2_) | (have H2_ := (Option.bind_some _ _).symm.trans H; with_reducible exact H2_) | with_reducible exact H | (rw [hy310]; exact H) | exact H
          have Ny310 := Aside0.mk hy310; clear hy310
          have H' := Aside0.mk H
          clear H
          have p7 : 0 ≤ (x7_1 : Int) := of_decide_eq_true ax22
          have q7 : x7_1 < (a0.size : Int) := of_decide_eq_true ax22
          have hx7 := bt_at a0 x7_1; replace p7 := eq_true p7; replace q7 := eq_true q7
          go_wp2_with (first | ((with_reducible refine gate_builtin (b := .append) (xs := #[.tmp 20, .tmp 25]) rfl ?_); at_builtin; refine Kd.R_append Kd.string (w0 := w) w.heap.size rfl (.tmp 20) (.tmp 25) 22 9 (.string ⟨#[]⟩) 16 rfl Tryz.underlying22 info9 rfl (by decide) (by omega) u5 x5_1 js12 [.string js12] (fun _ => True) (fun _ => False) rfl rfl ?aP (fun _ hk => hk.elim) ?aF ?aO ?aB ?aS ?aL ?_; (case aP => exact rfl); (case aB => exact ax27); (case aF => exact ax28); (case aO => exact ax119); (case aS => exact ax29); (case aL => have := LMc13.out; omega); intro v311 w14 ho hb hg hat; rw [← Ny310.out] at ho; have n0_ := Aside0.mk (hb); have n1_ := Aside0.mk (ho); clear HB; clear HO_5; have HB := n0_; have HO312 := n1_; clear n0_ n1_; clear ho hb hg hat))
          go_roundg k1
          case measure => have := HK1.out; omega
          case rel => exact ⟨(y310), (wrap64 (x7_1 + 1)), (wrap64 (x7_1 + 1)), ax21, ax21, H', ⟨by have := HK1.out; omega⟩, ⟨by (with_reducible repeat (first | apply Kd.R_alloc | apply Kd.R_drewN | apply Kd.R_drew)); exact HO312.out⟩, ⟨by repeat (first | (with_reducible first | exact HB.out | apply below_alloc | apply pw_below_drewN | apply below_drew1) | exact HB.out)⟩⟩
         ·rw [if_neg c13] at H
          exact absurd H (by simp)
        ·exact ax11
       ·rw [if_neg c10] at H
        exact absurd H (by simp)
      ·exact ax3
     ·rw [if_neg c8] at H
      have c8b0 : ((bt a0 x7_1) == a1) = false := beq_eq_false_iff_ne.mpr c8
      have c8b1 : ((bt a0 x7_1) != a1) = true := bne_iff_ne.mpr c8
      have H' := Aside0.mk H
      clear H
      have p7 : 0 ≤ (x7_1 : Int) := of_decide_eq_true ax22
      have q7 : x7_1 < (a0.size : Int) := of_decide_eq_true ax22
      have hx7 := bt_at a0 x7_1; replace p7 := eq_true p7; replace q7 := eq_true q7
      go_wp2
      go_roundg k1
      case measure => have := HK1.out; omega
      case rel => exact ⟨(x5_1), (x6_1), (wrap64 (x7_1 + 1)), ax21, ax21, H', ⟨by have := HK1.out; omega⟩, ⟨by (with_reducible repeat (first | apply Kd.R_alloc | apply Kd.R_drewN | apply Kd.R_drew)); exact HO_5.out⟩, ⟨by repeat (first | (with_reducible first | exact HB.out | apply below_alloc | apply pw_below_drewN | apply below_drew1) | exact HB.out)⟩⟩
    ·exact ax1
   ·rw [if_neg c5] at H
    have c5b0 : decide (x7_1 < (a0.size : Int)) = false := decide_eq_false c5
    clear c5
    by_cases c15 : 0 ≤ x6_1
    ·rw [if_pos c15] at H
     have c15b0 := eq_true c15
     have c15b1 : decide (0 ≤ x6_1) = true := decide_eq_true c15
     clear c15
     by_cases c16 : x6_1 ≤ (a0.size : Int)
     ·rw [if_pos c16] at H
      have c16b0 := eq_true c16
      have c16b1 : decide (x6_1 ≤ (a0.size : Int)) = true := decide_eq_true c16
      clear c16
      obtain ⟨js17, hjs17⟩ : ∃ j_ : ByteArray, (a0.extract (x6_1 : Int).toNat a0.size) = j_ := ⟨_, rfl⟩
      replace H : (if x5_1.length < 8796093022208 then (some (x5_1 ++ [js17])) else (none)) = some r := by first | (rw [hjs17] at H; exact H) | (simp only [hjs17] at H ⊢; exact H)
      by_cases c18 : x5_1.length < 8796093022208
      ·rw [if_pos c18] at H
       have LMc18 := Aside0.mk c18; clear c18
       obtain ⟨y313, hy313⟩ : ∃ y_ : List ByteArray, y_ = (x5_1 ++ [js17]) := ⟨_, rfl⟩
       replace H : (some y313) = some r := by first | (rw [hy313]; with_reducible exact H) | (have H2_ := (Option.bind_some _ _).symm.trans H; rw [hy313]; with_reducible exact H2_) | (have H2_ := (Option.bind_some _ _).symm.trans H; with_reducible exact H2_) | with_reducible exact H | (rw [hy313]; exact H) | exact H
       have Ny313 := Aside0.mk hy313; clear hy313
       obtain rfl := Option.some.inj H
       go_wp2_with (first | ((with_reducible refine gate_builtin (b := .append) (xs := #[.tmp 29, .tmp 33]) rfl ?_); at_builtin; refine Kd.R_append Kd.string (w0 := w) w.heap.size rfl (.tmp 29) (.tmp 33) 22 9 (.string ⟨#[]⟩) 16 rfl Tryz.underlying22 info9 rfl (by decide) (by omega) u5 x5_1 js17 [.string js17] (fun _ => True) (fun _ => False) rfl rfl ?aP (fun _ hk => hk.elim) ?aF ?aO ?aB ?aS ?aL ?_; (case aP => exact rfl); (case aB => exact ax27); (case aF => exact ax28); (case aO => exact ax119); (case aS => exact ax29); (case aL => have := LMc18.out; omega); intro v314 w19 ho hb hg hat; rw [← Ny313.out] at ho; have n0_ := Aside0.mk (hb); have n1_ := Aside0.mk (ho); clear HB; clear HO_5; have HB := n0_; have HO315 := n1_; clear n0_ n1_; clear ho hb hg hat))
       go_ret
       exact ⟨_, by first | rfl | (simp [errW_none, errW_some] <;> rfl) | (simp only [← hjs17]; first | rfl | (simp [errW_none, errW_some] <;> rfl)) | (simp [*, errW_none, errW_some] <;> rfl), by (with_reducible repeat (first | apply Kd.R_alloc | apply Kd.R_drewN | apply Kd.R_drew)); exact HO315.out, by repeat (first | (with_reducible first | exact HB.out | apply below_alloc | apply pw_below_drewN | apply below_drew1) | exact HB.out)⟩
      ·rw [if_neg c18] at H
       exact absurd H (by simp)
     ·rw [if_neg c16] at H
      exact absurd H (by simp)
    ·rw [if_neg c15] at H
     exact absurd H (by simp)

/-! ### spec_l12Words: function 68 -/
def spec_l12Words.f (k : Nat) (a0_0 : ByteArray) (a0_1 : ByteArray) (a0_2 : Int) : Option (List ByteArray × Bool) := if a0_0.toList = ([] : List UInt8) then (some ((([] : List ByteArray)), true)) else ((spec_l1Split.f k a0_0 32).bind fun t320 => ((spec_l2Set.f k t320).bind fun bt323 => (if bt323.2 = true then ((spec_l2Has.f k t320 (⟨#[]⟩ : ByteArray)).bind fun t327 => (if t327 = true then (some (bt323.1, false)) else ((spec_l12Joined.f k bt323.1).bind fun t328 => (some (bt323.1, (t328.toList == a0_0.toList)))))) else (some (bt323.1, false)))))
theorem spec_l12Words.mono : ∀ a0 a1 a2 k, LeO (spec_l12Words.f k a0 a1 a2) (spec_l12Words.f (k + 1) a0 a1 a2) := by
 intro a0 a1 a2 k
 unfold spec_l12Words.f
 repeat' first
   | (with_reducible exact spec_l12Joined.mono _ _)
   | (with_reducible exact spec_l1Split.mono _ _ _)
   | (with_reducible exact spec_l2Has.mono _ _ _)
   | (with_reducible exact spec_l2Set.mono _ _)
   | (with_reducible exact LeO.refl _)
   | (with_reducible exact LeO.none _)
   | (with_reducible refine LeO.ite ?_ ?_)
   | (with_reducible refine LeO.bind ?_ (fun _ => ?_))
   | exact spec_l12Joined.mono _ _
   | exact spec_l1Split.mono _ _ _
   | exact spec_l2Has.mono _ _ _
   | exact spec_l2Set.mono _ _
   | exact LeO.none _
   | refine LeO.ite ?_ ?_
   | refine LeO.bind ?_ (fun _ => ?_)
set_option maxHeartbeats 8000000 in
set_option maxRecDepth 100000 in
theorem spec_l12Words.calls (k : Nat) (a0_0 : ByteArray) (a0_1 : ByteArray) (a0_2 : Int) (r1 : List ByteArray) (r2 : Bool) (w : World) (h : spec_l12Words.f k a0_0 a0_1 a0_2 = some (r1, r2)) :
  Calls Tryz.prog 68 #[.agg #[.string a0_0, .string a0_1, .int .i64 a0_2]] w fun e w' => ∃ v0_ : Value, e = .returned (.tuple #[v0_, .bool r2]) ∧ Kd.V Kd.string 9 w' w.heap.size (fun k_ => (w.heap.size ≤ k_)) v0_ r1 ∧ Below w.heap.size w w' := by
 have hu25 := Tryz.underlying25; have HB := Aside0.mk (Below.refl w.heap.size w)
 have H : (if a0_0.toList = ([] : List UInt8) then (some ((([] : List ByteArray)), true)) else ((spec_l1Split.f k a0_0 32).bind fun t320 => ((spec_l2Set.f k t320).bind fun bt323 => (if bt323.2 = true then ((spec_l2Has.f k t320 (⟨#[]⟩ : ByteArray)).bind fun t327 => (if t327 = true then (some (bt323.1, false)) else ((spec_l12Joined.f k bt323.1).bind fun t328 => (some (bt323.1, (t328.toList == a0_0.toList)))))) else (some (bt323.1, false)))))) = some (r1, r2) := h
 clear h
 by_cases c2 : a0_0.toList = ([] : List UInt8)
 ·rw [if_pos c2] at H
  have c2b0 : (a0_0.toList == ([] : List UInt8)) = true := beq_iff_eq.mpr c2
  have c2b1 : (a0_0.toList != ([] : List UInt8)) = false := bne_eq_false_iff_eq.mpr c2
  clear c2
  obtain ⟨y317, hy317⟩ : ∃ y_ : List ByteArray, y_ = (([] : List ByteArray)) := ⟨_, rfl⟩
  replace H : (some (y317, true)) = some (r1, r2) := by first | (rw [hy317]; with_reducible exact H) | (have H2_ := (Option.bind_some _ _).symm.trans H; rw [hy317]; with_reducible exact H2_) | (have H2_ := (Option.bind_some _ _).symm.trans H; with_reducible exact H2_) | with_reducible exact H | (rw [hy317]; exact H) | exact H
  have Ny317 := Aside0.mk hy317; clear hy317
  simp only [Option.some.injEq, Prod.mk.injEq] at H
  obtain ⟨rfl, rfl⟩ := H
  go_enter Tryz.func68, Tryz.ntmps68
  go_wp2_with (first | ((with_reducible refine gate_dst (N := 1) rfl ?_); refine box_event ?hg (N := 1) ?hd (cs := #[.string a0_0, .string a0_1, .int .i64 a0_2]) (t := 25) ?hr ?_; (case hd => rfl); (case hg => rfl); (case hr => exact ax23); intro gb316 hg w3 hbox hb; have n0_ := Aside0.mk (below_step ax25 hb); have n1_ := Aside0.mk (hbox); have n2_ := Aside0.mk ((ax54 : w.heap.size ≤ gb316)); have n3_ := Aside0.mk ((ax54 : w.heap.size ≤ gb316)); clear HB; have HB := n0_; have BK316 := n1_; have GW316 := n2_; have GE316 := n3_; clear n0_ n1_ n2_ n3_; clear hb hbox hg; have hcz4_0 : w3.cell? ⟨gb316, 0, none⟩ = some (.string a0_0) := (blk_cell BK316.out 0).trans rfl; have hcz4_1 : w3.cell? ⟨gb316, 1, none⟩ = some (.string a0_1) := (blk_cell BK316.out 1).trans rfl; have hcz4_2 : w3.cell? ⟨gb316, 2, none⟩ = some (.int .i64 a0_2) := (blk_cell BK316.out 2).trans rfl; have hfz4_0 := blk_frozen BK316.out 0; have hfz4_1 := blk_frozen BK316.out 1; have hfz4_2 := blk_frozen BK316.out 2) | ((with_reducible refine gate_dst (N := 10) rfl ?_); refine Kd.R_lit Kd.string _ 9 ?hg (N := 10) ?hd (xs := ([] : List ByteArray)) (inner := []) (ok := fun _ => True) (okp := fun _ => True) ?hr ?hp (fun _ hk => hk) trivial (Below.refl _ _) (Nat.le_refl _) (by simp) ?_; (case hd => rfl); (case hg => rfl); (case hr => exact ax23); (case hp => exact ax24); intro v318 w5 ho6 hb hg_ hnew_; clear hg_ hnew_; (first | rw [← Ny317.out] at ho6 | (simp only [Int.reduceToNat] at ho6; rw [← Ny317.out] at ho6)); have n0_ := Aside0.mk (Kd.R_lower (Kd.R_newM (M := fun k_ => (w.heap.size ≤ k_)) ho6 (below_size ax120) (fun k_ h_ => h_)) (below_size ax120)); have n1_ := Aside0.mk (blk_below (g := gb316) (o := .cells #[.string a0_0, .string a0_1, .int .i64 a0_2] 25 (0, 0)) ax121 hb); have n2_ := Aside0.mk (below_step ax120 hb); clear BK316; clear HB; have HO319 := n0_; have BK316 := n1_; have HB := n2_; clear n0_ n1_ n2_; clear hb ho6))
  repeat (go_quiet (first | ((with_reducible refine gate_dst (N := 1) rfl ?_); refine box_event ?hg (N := 1) ?hd (cs := #[.string a0_0, .string a0_1, .int .i64 a0_2]) (t := 25) ?hr ?_; (case hd => rfl); (case hg => rfl); (case hr => exact ax23); intro gb316 hg w3 hbox hb; have n0_ := Aside0.mk (below_step ax25 hb); have n1_ := Aside0.mk (hbox); have n2_ := Aside0.mk ((ax54 : w.heap.size ≤ gb316)); have n3_ := Aside0.mk ((ax54 : w.heap.size ≤ gb316)); clear HB; have HB := n0_; have BK316 := n1_; have GW316 := n2_; have GE316 := n3_; clear n0_ n1_ n2_ n3_; clear hb hbox hg; have hcz4_0 : w3.cell? ⟨gb316, 0, none⟩ = some (.string a0_0) := (blk_cell BK316.out 0).trans rfl; have hcz4_1 : w3.cell? ⟨gb316, 1, none⟩ = some (.string a0_1) := (blk_cell BK316.out 1).trans rfl; have hcz4_2 : w3.cell? ⟨gb316, 2, none⟩ = some (.int .i64 a0_2) := (blk_cell BK316.out 2).trans rfl; have hfz4_0 := blk_frozen BK316.out 0; have hfz4_1 := blk_frozen BK316.out 1; have hfz4_2 := blk_frozen BK316.out 2) | ((with_reducible refine gate_dst (N := 10) rfl ?_); refine Kd.R_lit Kd.string _ 9 ?hg (N := 10) ?hd (xs := ([] : List ByteArray)) (inner := []) (ok := fun _ => True) (okp := fun _ => True) ?hr ?hp (fun _ hk => hk) trivial (Below.refl _ _) (Nat.le_refl _) (by simp) ?_; (case hd => rfl); (case hg => rfl); (case hr => exact ax23); (case hp => exact ax24); intro v318 w5 ho6 hb hg_ hnew_; clear hg_ hnew_; (first | rw [← Ny317.out] at ho6 | (simp only [Int.reduceToNat] at ho6; rw [← Ny317.out] at ho6)); have n0_ := Aside0.mk (Kd.R_lower (Kd.R_newM (M := fun k_ => (w.heap.size ≤ k_)) ho6 (below_size ax120) (fun k_ h_ => h_)) (below_size ax120)); have n1_ := Aside0.mk (blk_below (g := gb316) (o := .cells #[.string a0_0, .string a0_1, .int .i64 a0_2] 25 (0, 0)) ax121 hb); have n2_ := Aside0.mk (below_step ax120 hb); clear BK316; clear HB; have HO319 := n0_; have BK316 := n1_; have HB := n2_; clear n0_ n1_ n2_; clear hb ho6)); try go_wp2_with (first | ((with_reducible refine gate_dst (N := 1) rfl ?_); refine box_event ?hg (N := 1) ?hd (cs := #[.string a0_0, .string a0_1, .int .i64 a0_2]) (t := 25) ?hr ?_; (case hd => rfl); (case hg => rfl); (case hr => exact ax23); intro gb316 hg w3 hbox hb; have n0_ := Aside0.mk (below_step ax25 hb); have n1_ := Aside0.mk (hbox); have n2_ := Aside0.mk ((ax54 : w.heap.size ≤ gb316)); have n3_ := Aside0.mk ((ax54 : w.heap.size ≤ gb316)); clear HB; have HB := n0_; have BK316 := n1_; have GW316 := n2_; have GE316 := n3_; clear n0_ n1_ n2_ n3_; clear hb hbox hg; have hcz4_0 : w3.cell? ⟨gb316, 0, none⟩ = some (.string a0_0) := (blk_cell BK316.out 0).trans rfl; have hcz4_1 : w3.cell? ⟨gb316, 1, none⟩ = some (.string a0_1) := (blk_cell BK316.out 1).trans rfl; have hcz4_2 : w3.cell? ⟨gb316, 2, none⟩ = some (.int .i64 a0_2) := (blk_cell BK316.out 2).trans rfl; have hfz4_0 := blk_frozen BK316.out 0; have hfz4_1 := blk_frozen BK316.out 1; have hfz4_2 := blk_frozen BK316.out 2) | ((with_reducible refine gate_dst (N := 10) rfl ?_); refine Kd.R_lit Kd.string _ 9 ?hg (N := 10) ?hd (xs := ([] : List ByteArray)) (inner := []) (ok := fun _ => True) (okp := fun _ => True) ?hr ?hp (fun _ hk => hk) trivial (Below.refl _ _) (Nat.le_refl _) (by simp) ?_; (case hd => rfl); (case hg => rfl); (case hr => exact ax23); (case hp => exact ax24); intro v318 w5 ho6 hb hg_ hnew_; clear hg_ hnew_; (first | rw [← Ny317.out] at ho6 | (simp only [Int.reduceToNat] at ho6; rw [← Ny317.out] at ho6)); have n0_ := Aside0.mk (Kd.R_lower (Kd.R_newM (M := fun k_ => (w.heap.size ≤ k_)) ho6 (below_size ax120) (fun k_ h_ => h_)) (below_size ax120)); have n1_ := Aside0.mk (blk_below (g := gb316) (o := .cells #[.string a0_0, .string a0_1, .int .i64 a0_2] 25 (0, 0)) ax121 hb); have n2_ := Aside0.mk (below_step ax120 hb); clear BK316; clear HB; have HO319 := n0_; have BK316 := n1_; have HB := n2_; clear n0_ n1_ n2_; clear hb ho6)))
  go_ret2
  exact ⟨_, by first | rfl | (simp [errW_none, errW_some] <;> rfl) | (simp [*, errW_none, errW_some] <;> rfl), Kd.R_V (by (with_reducible repeat (first | apply Kd.R_alloc | apply Kd.R_drewN | apply Kd.R_drew)); exact Kd.R_mono HO319.out (fun _ hk => hk.1)), by repeat (first | (with_reducible first | exact HB.out | apply below_alloc | apply pw_below_drewN | apply below_drew1 | refine below_set ?_ GE316.out) | exact HB.out)⟩
 ·rw [if_neg c2] at H
  have c2b0 : (a0_0.toList == ([] : List UInt8)) = false := beq_eq_false_iff_ne.mpr c2
  have c2b1 : (a0_0.toList != ([] : List UInt8)) = true := bne_iff_ne.mpr c2
  replace H := Option.bind_eq_some_iff.mp H
  obtain ⟨t320, A70, H⟩ := H
  replace H : ((spec_l2Set.f k t320).bind fun bt323 => (if bt323.2 = true then ((spec_l2Has.f k t320 (⟨#[]⟩ : ByteArray)).bind fun t327 => (if t327 = true then (some (bt323.1, false)) else ((spec_l12Joined.f k bt323.1).bind fun t328 => (some (bt323.1, (t328.toList == a0_0.toList)))))) else (some (bt323.1, false)))) = some (r1, r2) := H
  have A7 := Aside0.mk A70; clear A70; replace H := Option.bind_eq_some_iff.mp H
  obtain ⟨⟨t323, t326⟩, A80, H⟩ := H
  replace H : (if t326 = true then ((spec_l2Has.f k t320 (⟨#[]⟩ : ByteArray)).bind fun t327 => (if t327 = true then (some (t323, false)) else ((spec_l12Joined.f k t323).bind fun t328 => (some (t323, (t328.toList == a0_0.toList)))))) else (some (t323, false))) = some (r1, r2) := H
  have A8 := Aside0.mk A80; clear A80
  by_cases c9 : t326 = true
  ·subst c9
   have H1 : ((spec_l2Has.f k t320 (⟨#[]⟩ : ByteArray)).bind fun t327 => (if t327 = true then (some (t323, false)) else ((spec_l12Joined.f k t323).bind fun t328 => (some (t323, (t328.toList == a0_0.toList)))))) = some (r1, r2) := by rw [if_pos rfl] at H; exact H
   clear H; have H := H1; clear H1; replace H := Option.bind_eq_some_iff.mp H
   obtain ⟨t327, A100, H⟩ := H
   replace H : (if t327 = true then (some (t323, false)) else ((spec_l12Joined.f k t323).bind fun t328 => (some (t323, (t328.toList == a0_0.toList))))) = some (r1, r2) := H
   have A10 := Aside0.mk A100; clear A100
   by_cases c11 : t327 = true
   ·subst c11
    have H1 : (some (t323, false)) = some (r1, r2) := by rw [if_pos rfl] at H; exact H
    clear H; have H := H1; clear H1
    simp only [Option.some.injEq, Prod.mk.injEq] at H
    obtain ⟨rfl, rfl⟩ := H
    go_enter Tryz.func68, Tryz.ntmps68
    go_wp2_with (first | ((with_reducible refine gate_dst (N := 1) rfl ?_); refine box_event ?hg (N := 1) ?hd (cs := #[.string a0_0, .string a0_1, .int .i64 a0_2]) (t := 25) ?hr ?_; (case hd => rfl); (case hg => rfl); (case hr => exact ax23); intro gb316 hg w12 hbox hb; have n0_ := Aside0.mk (below_step ax25 hb); have n1_ := Aside0.mk (hbox); have n2_ := Aside0.mk ((ax54 : w.heap.size ≤ gb316)); have n3_ := Aside0.mk ((ax54 : w.heap.size ≤ gb316)); clear HB; have HB := n0_; have BK316 := n1_; have GW316 := n2_; have GE316 := n3_; clear n0_ n1_ n2_ n3_; clear hb hbox hg; have hcz13_0 : w12.cell? ⟨gb316, 0, none⟩ = some (.string a0_0) := (blk_cell BK316.out 0).trans rfl; have hcz13_1 : w12.cell? ⟨gb316, 1, none⟩ = some (.string a0_1) := (blk_cell BK316.out 1).trans rfl; have hcz13_2 : w12.cell? ⟨gb316, 2, none⟩ = some (.int .i64 a0_2) := (blk_cell BK316.out 2).trans rfl; have hfz13_0 := blk_frozen BK316.out 0; have hfz13_1 := blk_frozen BK316.out 1; have hfz13_2 := blk_frozen BK316.out 2) | (go_at_call 87; (with_reducible refine (spec_l1Split.calls k a0_0 32 t320 _ A7.out).mono ?_); rintro e w14 ⟨v321, rfl, ho0, hb⟩; have n0_ := Aside0.mk (Kd.R_lower (Kd.R_newM (M := fun k_ => (w.heap.size ≤ k_)) ho0 (below_size ax120) (fun k_ h_ => h_)) (below_size ax120)); have n1_ := Aside0.mk (blk_below (g := gb316) (o := .cells #[.string a0_0, .string a0_1, .int .i64 a0_2] 25 (0, 0)) ax121 hb); have n2_ := Aside0.mk (below_step ax120 hb); clear BK316; clear HB; have HO322 := n0_; have BK316 := n1_; have HB := n2_; clear n0_ n1_ n2_; (try clear hb); (try clear hb2); (try clear hk); (try clear hi); (try clear ho0); obtain ⟨Ao15, co15, eo15⟩ := Kd.R_slice HO322.out; subst eo15) | (go_at_call 33; (with_reducible refine (spec_l2Set.calls k _ _ t320 t323 true _ ?side1 ?side2 A8.out).mono ?_); (case side1 => exact ax122); (case side2 => exact ax123); rintro e w16 ⟨v324, rfl, ho0, hb⟩; have n0_ := Aside0.mk (Kd.R_below ax124 hb); have n1_ := Aside0.mk (Kd.V_lower (Kd.V_mono (ok' := fun k_ => (w.heap.size ≤ k_) ∧ some k_ ≠ (.slice Ao15 t320.length co15 : Value).ownBlock ∧ k_ ≠ gb316) ho0 (fun k_ hk_ => ⟨(Nat.le_trans (below_size ax120) hk_), (Kd.fresh' (Kd.R_lt ax124) k_ hk_), (Kd.freshB (g := gb316) (o := .cells #[.string a0_0, .string a0_1, .int .i64 a0_2] 25 (0, 0)) ax121 k_ hk_)⟩)) (below_size ax120)); have n2_ := Aside0.mk (blk_below (g := gb316) (o := .cells #[.string a0_0, .string a0_1, .int .i64 a0_2] 25 (0, 0)) ax121 hb); have n3_ := Aside0.mk (below_step ax120 hb); clear HO322; clear BK316; clear HB; have HO322 := n0_; have HO325 := n1_; have BK316 := n2_; have HB := n3_; clear n0_ n1_ n2_ n3_; (try clear hb); (try clear hb2); (try clear hk); (try clear hi); (try clear ho0)) | (go_at_call 34; (with_reducible refine (spec_l2Has.calls k _ _ t320 (⟨#[]⟩ : ByteArray) true _ ?side1 ?side2 A10.out).mono ?_); (case side1 => exact ax122); (case side2 => exact ax123); rintro e w' ⟨rfl, ⟨nd, rfl⟩⟩; (try first | exact ⟨rfl, _, World.drewN_drewN _ _ _⟩ | exact ⟨rfl, _, Eq.trans (World.drewN_drewN _ _ _) (congrArg (World.drewN _) (Nat.add_assoc _ _ _))⟩)))
    repeat (go_quiet (first | ((with_reducible refine gate_dst (N := 1) rfl ?_); refine box_event ?hg (N := 1) ?hd (cs := #[.string a0_0, .string a0_1, .int .i64 a0_2]) (t := 25) ?hr ?_; (case hd => rfl); (case hg => rfl); (case hr => exact ax23); intro gb316 hg w12 hbox hb; have n0_ := Aside0.mk (below_step ax25 hb); have n1_ := Aside0.mk (hbox); have n2_ := Aside0.mk ((ax54 : w.heap.size ≤ gb316)); have n3_ := Aside0.mk ((ax54 : w.heap.size ≤ gb316)); clear HB; have HB := n0_; have BK316 := n1_; have GW316 := n2_; have GE316 := n3_; clear n0_ n1_ n2_ n3_; clear hb hbox hg; have hcz13_0 : w12.cell? ⟨gb316, 0, none⟩ = some (.string a0_0) := (blk_cell BK316.out 0).trans rfl; have hcz13_1 : w12.cell? ⟨gb316, 1, none⟩ = some (.string a0_1) := (blk_cell BK316.out 1).trans rfl; have hcz13_2 : w12.cell? ⟨gb316, 2, none⟩ = some (.int .i64 a0_2) := (blk_cell BK316.out 2).trans rfl; have hfz13_0 := blk_frozen BK316.out 0; have hfz13_1 := blk_frozen BK316.out 1; have hfz13_2 := blk_frozen BK316.out 2) | (go_at_call 87; (with_reducible refine (spec_l1Split.calls k a0_0 32 t320 _ A7.out).mono ?_); rintro e w14 ⟨v321, rfl, ho0, hb⟩; have n0_ := Aside0.mk (Kd.R_lower (Kd.R_newM (M := fun k_ => (w.heap.size ≤ k_)) ho0 (below_size ax120) (fun k_ h_ => h_)) (below_size ax120)); have n1_ := Aside0.mk (blk_below (g := gb316) (o := .cells #[.string a0_0, .string a0_1, .int .i64 a0_2] 25 (0, 0)) ax121 hb); have n2_ := Aside0.mk (below_step ax120 hb); clear BK316; clear HB; have HO322 := n0_; have BK316 := n1_; have HB := n2_; clear n0_ n1_ n2_; (try clear hb); (try clear hb2); (try clear hk); (try clear hi); (try clear ho0); obtain ⟨Ao15, co15, eo15⟩ := Kd.R_slice HO322.out; subst eo15) | (go_at_call 33; (with_reducible refine (spec_l2Set.calls k _ _ t320 t323 true _ ?side1 ?side2 A8.out).mono ?_); (case side1 => exact ax122); (case side2 => exact ax123); rintro e w16 ⟨v324, rfl, ho0, hb⟩; have n0_ := Aside0.mk (Kd.R_below ax124 hb); have n1_ := Aside0.mk (Kd.V_lower (Kd.V_mono (ok' := fun k_ => (w.heap.size ≤ k_) ∧ some k_ ≠ (.slice Ao15 t320.length co15 : Value).ownBlock ∧ k_ ≠ gb316) ho0 (fun k_ hk_ => ⟨(Nat.le_trans (below_size ax120) hk_), (Kd.fresh' (Kd.R_lt ax124) k_ hk_), (Kd.freshB (g := gb316) (o := .cells #[.string a0_0, .string a0_1, .int .i64 a0_2] 25 (0, 0)) ax121 k_ hk_)⟩)) (below_size ax120)); have n2_ := Aside0.mk (blk_below (g := gb316) (o := .cells #[.string a0_0, .string a0_1, .int .i64 a0_2] 25 (0, 0)) ax121 hb); have n3_ := Aside0.mk (below_step ax120 hb); clear HO322; clear BK316; clear HB; have HO322 := n0_; have HO325 := n1_; have BK316 := n2_; have HB := n3_; clear n0_ n1_ n2_ n3_; (try clear hb); (try clear hb2); (try clear hk); (try clear hi); (try clear ho0)) | (go_at_call 34; (with_reducible refine (spec_l2Has.calls k _ _ t320 (⟨#[]⟩ : ByteArray) true _ ?side1 ?side2 A10.out).mono ?_); (case side1 => exact ax122); (case side2 => exact ax123); rintro e w' ⟨rfl, ⟨nd, rfl⟩⟩; (try first | exact ⟨rfl, _, World.drewN_drewN _ _ _⟩ | exact ⟨rfl, _, Eq.trans (World.drewN_drewN _ _ _) (congrArg (World.drewN _) (Nat.add_assoc _ _ _))⟩))); try go_wp2_with (first | ((with_reducible refine gate_dst (N := 1) rfl ?_); refine box_event ?hg (N := 1) ?hd (cs := #[.string a0_0, .string a0_1, .int .i64 a0_2]) (t := 25) ?hr ?_; (case hd => rfl); (case hg => rfl); (case hr => exact ax23); intro gb316 hg w12 hbox hb; have n0_ := Aside0.mk (below_step ax25 hb); have n1_ := Aside0.mk (hbox); have n2_ := Aside0.mk ((ax54 : w.heap.size ≤ gb316)); have n3_ := Aside0.mk ((ax54 : w.heap.size ≤ gb316)); clear HB; have HB := n0_; have BK316 := n1_; have GW316 := n2_; have GE316 := n3_; clear n0_ n1_ n2_ n3_; clear hb hbox hg; have hcz13_0 : w12.cell? ⟨gb316, 0, none⟩ = some (.string a0_0) := (blk_cell BK316.out 0).trans rfl; have hcz13_1 : w12.cell? ⟨gb316, 1, none⟩ = some (.string a0_1) := (blk_cell BK316.out 1).trans rfl; have hcz13_2 : w12.cell? ⟨gb316, 2, none⟩ = some (.int .i64 a0_2) := (blk_cell BK316.out 2).trans rfl; have hfz13_0 := blk_frozen BK316.out 0; have hfz13_1 := blk_frozen BK316.out 1; have hfz13_2 := blk_frozen BK316.out 2) | (go_at_call 87; (with_reducible refine (spec_l1Split.calls k a0_0 32 t320 _ A7.out).mono ?_); rintro e w14 ⟨v321, rfl, ho0, hb⟩; have n0_ := Aside0.mk (Kd.R_lower (Kd.R_newM (M := fun k_ => (w.heap.size ≤ k_)) ho0 (below_size ax120) (fun k_ h_ => h_)) (below_size ax120)); have n1_ := Aside0.mk (blk_below (g := gb316) (o := .cells #[.string a0_0, .string a0_1, .int .i64 a0_2] 25 (0, 0)) ax121 hb); have n2_ := Aside0.mk (below_step ax120 hb); clear BK316; clear HB; have HO322 := n0_; have BK316 := n1_; have HB := n2_; clear n0_ n1_ n2_; (try clear hb); (try clear hb2); (try clear hk); (try clear hi); (try clear ho0); obtain ⟨Ao15, co15, eo15⟩ := Kd.R_slice HO322.out; subst eo15) | (go_at_call 33; (with_reducible refine (spec_l2Set.calls k _ _ t320 t323 true _ ?side1 ?side2 A8.out).mono ?_); (case side1 => exact ax122); (case side2 => exact ax123); rintro e w16 ⟨v324, rfl, ho0, hb⟩; have n0_ := Aside0.mk (Kd.R_below ax124 hb); have n1_ := Aside0.mk (Kd.V_lower (Kd.V_mono (ok' := fun k_ => (w.heap.size ≤ k_) ∧ some k_ ≠ (.slice Ao15 t320.length co15 : Value).ownBlock ∧ k_ ≠ gb316) ho0 (fun k_ hk_ => ⟨(Nat.le_trans (below_size ax120) hk_), (Kd.fresh' (Kd.R_lt ax124) k_ hk_), (Kd.freshB (g := gb316) (o := .cells #[.string a0_0, .string a0_1, .int .i64 a0_2] 25 (0, 0)) ax121 k_ hk_)⟩)) (below_size ax120)); have n2_ := Aside0.mk (blk_below (g := gb316) (o := .cells #[.string a0_0, .string a0_1, .int .i64 a0_2] 25 (0, 0)) ax121 hb); have n3_ := Aside0.mk (below_step ax120 hb); clear HO322; clear BK316; clear HB; have HO322 := n0_; have HO325 := n1_; have BK316 := n2_; have HB := n3_; clear n0_ n1_ n2_ n3_; (try clear hb); (try clear hb2); (try clear hk); (try clear hi); (try clear ho0)) | (go_at_call 34; (with_reducible refine (spec_l2Has.calls k _ _ t320 (⟨#[]⟩ : ByteArray) true _ ?side1 ?side2 A10.out).mono ?_); (case side1 => exact ax122); (case side2 => exact ax123); rintro e w' ⟨rfl, ⟨nd, rfl⟩⟩; (try first | exact ⟨rfl, _, World.drewN_drewN _ _ _⟩ | exact ⟨rfl, _, Eq.trans (World.drewN_drewN _ _ _) (congrArg (World.drewN _) (Nat.add_assoc _ _ _))⟩))))
    go_ret2
    exact ⟨_, by first | rfl | (simp [errW_none, errW_some] <;> rfl) | (simp [*, errW_none, errW_some] <;> rfl), by (with_reducible repeat (first | apply Kd.V_alloc | apply Kd.V_drewN | apply Kd.V_drew)); exact Kd.V_mono HO325.out (fun _ hk => hk.1), by repeat (first | (with_reducible first | exact HB.out | apply below_alloc | apply pw_below_drewN | apply below_drew1 | refine below_set ?_ GE316.out) | exact HB.out)⟩
   ·replace c11 := Bool.eq_false_iff.mpr c11
    subst c11
    have H1 : ((spec_l12Joined.f k t323).bind fun t328 => (some (t323, (t328.toList == a0_0.toList)))) = some (r1, r2) := by rw [if_neg (show ¬ (false = true) by decide)] at H; exact H
    clear H; have H := H1; clear H1; replace H := Option.bind_eq_some_iff.mp H
    obtain ⟨t328, A170, H⟩ := H
    replace H : (some (t323, (t328.toList == a0_0.toList))) = some (r1, r2) := H
    have A17 := Aside0.mk A170; clear A170
    simp only [Option.some.injEq, Prod.mk.injEq] at H
    obtain ⟨rfl, rfl⟩ := H
    go_enter Tryz.func68, Tryz.ntmps68
    go_wp2_with (first | ((with_reducible refine gate_dst (N := 1) rfl ?_); refine box_event ?hg (N := 1) ?hd (cs := #[.string a0_0, .string a0_1, .int .i64 a0_2]) (t := 25) ?hr ?_; (case hd => rfl); (case hg => rfl); (case hr => exact ax23); intro gb316 hg w18 hbox hb; have n0_ := Aside0.mk (below_step ax25 hb); have n1_ := Aside0.mk (hbox); have n2_ := Aside0.mk ((ax54 : w.heap.size ≤ gb316)); have n3_ := Aside0.mk ((ax54 : w.heap.size ≤ gb316)); clear HB; have HB := n0_; have BK316 := n1_; have GW316 := n2_; have GE316 := n3_; clear n0_ n1_ n2_ n3_; clear hb hbox hg; have hcz19_0 : w18.cell? ⟨gb316, 0, none⟩ = some (.string a0_0) := (blk_cell BK316.out 0).trans rfl; have hcz19_1 : w18.cell? ⟨gb316, 1, none⟩ = some (.string a0_1) := (blk_cell BK316.out 1).trans rfl; have hcz19_2 : w18.cell? ⟨gb316, 2, none⟩ = some (.int .i64 a0_2) := (blk_cell BK316.out 2).trans rfl; have hfz19_0 := blk_frozen BK316.out 0; have hfz19_1 := blk_frozen BK316.out 1; have hfz19_2 := blk_frozen BK316.out 2) | (go_at_call 87; (with_reducible refine (spec_l1Split.calls k a0_0 32 t320 _ A7.out).mono ?_); rintro e w20 ⟨v321, rfl, ho0, hb⟩; have n0_ := Aside0.mk (Kd.R_lower (Kd.R_newM (M := fun k_ => (w.heap.size ≤ k_)) ho0 (below_size ax120) (fun k_ h_ => h_)) (below_size ax120)); have n1_ := Aside0.mk (blk_below (g := gb316) (o := .cells #[.string a0_0, .string a0_1, .int .i64 a0_2] 25 (0, 0)) ax121 hb); have n2_ := Aside0.mk (below_step ax120 hb); clear BK316; clear HB; have HO322 := n0_; have BK316 := n1_; have HB := n2_; clear n0_ n1_ n2_; (try clear hb); (try clear hb2); (try clear hk); (try clear hi); (try clear ho0); obtain ⟨Ao21, co21, eo21⟩ := Kd.R_slice HO322.out; subst eo21) | (go_at_call 33; (with_reducible refine (spec_l2Set.calls k _ _ t320 t323 true _ ?side1 ?side2 A8.out).mono ?_); (case side1 => exact ax122); (case side2 => exact ax123); rintro e w22 ⟨v324, rfl, ho0, hb⟩; have n0_ := Aside0.mk (Kd.R_below ax124 hb); have n1_ := Aside0.mk (Kd.V_lower (Kd.V_mono (ok' := fun k_ => (w.heap.size ≤ k_) ∧ some k_ ≠ (.slice Ao21 t320.length co21 : Value).ownBlock ∧ k_ ≠ gb316) ho0 (fun k_ hk_ => ⟨(Nat.le_trans (below_size ax120) hk_), (Kd.fresh' (Kd.R_lt ax124) k_ hk_), (Kd.freshB (g := gb316) (o := .cells #[.string a0_0, .string a0_1, .int .i64 a0_2] 25 (0, 0)) ax121 k_ hk_)⟩)) (below_size ax120)); have n2_ := Aside0.mk (blk_below (g := gb316) (o := .cells #[.string a0_0, .string a0_1, .int .i64 a0_2] 25 (0, 0)) ax121 hb); have n3_ := Aside0.mk (below_step ax120 hb); clear HO322; clear BK316; clear HB; have HO322 := n0_; have HO325 := n1_; have BK316 := n2_; have HB := n3_; clear n0_ n1_ n2_ n3_; (try clear hb); (try clear hb2); (try clear hk); (try clear hi); (try clear ho0)) | (go_at_call 34; (with_reducible refine (spec_l2Has.calls k _ _ t320 (⟨#[]⟩ : ByteArray) false _ ?side1 ?side2 A10.out).mono ?_); (case side1 => exact ax122); (case side2 => exact ax123); rintro e w' ⟨rfl, ⟨nd, rfl⟩⟩; (try first | exact ⟨rfl, _, World.drewN_drewN _ _ _⟩ | exact ⟨rfl, _, Eq.trans (World.drewN_drewN _ _ _) (congrArg (World.drewN _) (Nat.add_assoc _ _ _))⟩); obtain ⟨Ao23, co23, eo23⟩ := Kd.V_slice HO325.out; subst eo23) | (go_at_call 35; (with_reducible refine (spec_l12Joined.calls k _ _ t323 t328 _ ?side1 ?side2 A17.out).mono ?_); (case side1 => exact ax125); (case side2 => exact (Kd.V_reads' HO325.out).2.1); rintro e w' ⟨rfl, ⟨nd, rfl⟩⟩; (try first | exact ⟨rfl, _, World.drewN_drewN _ _ _⟩ | exact ⟨rfl, _, Eq.trans (World.drewN_drewN _ _ _) (congrArg (World.drewN _) (Nat.add_assoc _ _ _))⟩); have hcz24_0 : w22.cell? ⟨gb316, 0, none⟩ = some (.string a0_0) := (blk_cell BK316.out 0).trans rfl; have hcz24_1 : w22.cell? ⟨gb316, 1, none⟩ = some (.string a0_1) := (blk_cell BK316.out 1).trans rfl; have hcz24_2 : w22.cell? ⟨gb316, 2, none⟩ = some (.int .i64 a0_2) := (blk_cell BK316.out 2).trans rfl; have hfz24_0 := blk_frozen BK316.out 0; have hfz24_1 := blk_frozen BK316.out 1; have hfz24_2 := blk_frozen BK316.out 2))
    repeat (go_quiet (first | ((with_reducible refine gate_dst (N := 1) rfl ?_); refine box_event ?hg (N := 1) ?hd (cs := #[.string a0_0, .string a0_1, .int .i64 a0_2]) (t := 25) ?hr ?_; (case hd => rfl); (case hg => rfl); (case hr => exact ax23); intro gb316 hg w18 hbox hb; have n0_ := Aside0.mk (below_step ax25 hb); have n1_ := Aside0.mk (hbox); have n2_ := Aside0.mk ((ax54 : w.heap.size ≤ gb316)); have n3_ := Aside0.mk ((ax54 : w.heap.size ≤ gb316)); clear HB; have HB := n0_; have BK316 := n1_; have GW316 := n2_; have GE316 := n3_; clear n0_ n1_ n2_ n3_; clear hb hbox hg; have hcz19_0 : w18.cell? ⟨gb316, 0, none⟩ = some (.string a0_0) := (blk_cell BK316.out 0).trans rfl; have hcz19_1 : w18.cell? ⟨gb316, 1, none⟩ = some (.string a0_1) := (blk_cell BK316.out 1).trans rfl; have hcz19_2 : w18.cell? ⟨gb316, 2, none⟩ = some (.int .i64 a0_2) := (blk_cell BK316.out 2).trans rfl; have hfz19_0 := blk_frozen BK316.out 0; have hfz19_1 := blk_frozen BK316.out 1; have hfz19_2 := blk_frozen BK316.out 2) | (go_at_call 87; (with_reducible refine (spec_l1Split.calls k a0_0 32 t320 _ A7.out).mono ?_); rintro e w20 ⟨v321, rfl, ho0, hb⟩; have n0_ := Aside0.mk (Kd.R_lower (Kd.R_newM (M := fun k_ => (w.heap.size ≤ k_)) ho0 (below_size ax120) (fun k_ h_ => h_)) (below_size ax120)); have n1_ := Aside0.mk (blk_below (g := gb316) (o := .cells #[.string a0_0, .string a0_1, .int .i64 a0_2] 25 (0, 0)) ax121 hb); have n2_ := Aside0.mk (below_step ax120 hb); clear BK316; clear HB; have HO322 := n0_; have BK316 := n1_; have HB := n2_; clear n0_ n1_ n2_; (try clear hb); (try clear hb2); (try clear hk); (try clear hi); (try clear ho0); obtain ⟨Ao21, co21, eo21⟩ := Kd.R_slice HO322.out; subst eo21) | (go_at_call 33; (with_reducible refine (spec_l2Set.calls k _ _ t320 t323 true _ ?side1 ?side2 A8.out).mono ?_); (case side1 => exact ax122); (case side2 => exact ax123); rintro e w22 ⟨v324, rfl, ho0, hb⟩; have n0_ := Aside0.mk (Kd.R_below ax124 hb); have n1_ := Aside0.mk (Kd.V_lower (Kd.V_mono (ok' := fun k_ => (w.heap.size ≤ k_) ∧ some k_ ≠ (.slice Ao21 t320.length co21 : Value).ownBlock ∧ k_ ≠ gb316) ho0 (fun k_ hk_ => ⟨(Nat.le_trans (below_size ax120) hk_), (Kd.fresh' (Kd.R_lt ax124) k_ hk_), (Kd.freshB (g := gb316) (o := .cells #[.string a0_0, .string a0_1, .int .i64 a0_2] 25 (0, 0)) ax121 k_ hk_)⟩)) (below_size ax120)); have n2_ := Aside0.mk (blk_below (g := gb316) (o := .cells #[.string a0_0, .string a0_1, .int .i64 a0_2] 25 (0, 0)) ax121 hb); have n3_ := Aside0.mk (below_step ax120 hb); clear HO322; clear BK316; clear HB; have HO322 := n0_; have HO325 := n1_; have BK316 := n2_; have HB := n3_; clear n0_ n1_ n2_ n3_; (try clear hb); (try clear hb2); (try clear hk); (try clear hi); (try clear ho0)) | (go_at_call 34; (with_reducible refine (spec_l2Has.calls k _ _ t320 (⟨#[]⟩ : ByteArray) false _ ?side1 ?side2 A10.out).mono ?_); (case side1 => exact ax122); (case side2 => exact ax123); rintro e w' ⟨rfl, ⟨nd, rfl⟩⟩; (try first | exact ⟨rfl, _, World.drewN_drewN _ _ _⟩ | exact ⟨rfl, _, Eq.trans (World.drewN_drewN _ _ _) (congrArg (World.drewN _) (Nat.add_assoc _ _ _))⟩); obtain ⟨Ao23, co23, eo23⟩ := Kd.V_slice HO325.out; subst eo23) | (go_at_call 35; (with_reducible refine (spec_l12Joined.calls k _ _ t323 t328 _ ?side1 ?side2 A17.out).mono ?_); (case side1 => exact ax125); (case side2 => exact (Kd.V_reads' HO325.out).2.1); rintro e w' ⟨rfl, ⟨nd, rfl⟩⟩; (try first | exact ⟨rfl, _, World.drewN_drewN _ _ _⟩ | exact ⟨rfl, _, Eq.trans (World.drewN_drewN _ _ _) (congrArg (World.drewN _) (Nat.add_assoc _ _ _))⟩); have hcz24_0 : w22.cell? ⟨gb316, 0, none⟩ = some (.string a0_0) := (blk_cell BK316.out 0).trans rfl; have hcz24_1 : w22.cell? ⟨gb316, 1, none⟩ = some (.string a0_1) := (blk_cell BK316.out 1).trans rfl; have hcz24_2 : w22.cell? ⟨gb316, 2, none⟩ = some (.int .i64 a0_2) := (blk_cell BK316.out 2).trans rfl; have hfz24_0 := blk_frozen BK316.out 0; have hfz24_1 := blk_frozen BK316.out 1; have hfz24_2 := blk_frozen BK316.out 2)); try go_wp2_with (first | ((with_reducible refine gate_dst (N := 1) rfl ?_); refine box_event ?hg (N := 1) ?hd (cs := #[.string a0_0, .string a0_1, .int .i64 a0_2]) (t := 25) ?hr ?_; (case hd => rfl); (case hg => rfl); (case hr => exact ax23); intro gb316 hg w18 hbox hb; have n0_ := Aside0.mk (below_step ax25 hb); have n1_ := Aside0.mk (hbox); have n2_ := Aside0.mk ((ax54 : w.heap.size ≤ gb316)); have n3_ := Aside0.mk ((ax54 : w.heap.size ≤ gb316)); clear HB; have HB := n0_; have BK316 := n1_; have GW316 := n2_; have GE316 := n3_; clear n0_ n1_ n2_ n3_; clear hb hbox hg; have hcz19_0 : w18.cell? ⟨gb316, 0, none⟩ = some (.string a0_0) := (blk_cell BK316.out 0).trans rfl; have hcz19_1 : w18.cell? ⟨gb316, 1, none⟩ = some (.string a0_1) := (blk_cell BK316.out 1).trans rfl; have hcz19_2 : w18.cell? ⟨gb316, 2, none⟩ = some (.int .i64 a0_2) := (blk_cell BK316.out 2).trans rfl; have hfz19_0 := blk_frozen BK316.out 0; have hfz19_1 := blk_frozen BK316.out 1; have hfz19_2 := blk_frozen BK316.out 2) | (go_at_call 87; (with_reducible refine (spec_l1Split.calls k a0_0 32 t320 _ A7.out).mono ?_); rintro e w20 ⟨v321, rfl, ho0, hb⟩; have n0_ := Aside0.mk (Kd.R_lower (Kd.R_newM (M := fun k_ => (w.heap.size ≤ k_)) ho0 (below_size ax120) (fun k_ h_ => h_)) (below_size ax120)); have n1_ := Aside0.mk (blk_below (g := gb316) (o := .cells #[.string a0_0, .string a0_1, .int .i64 a0_2] 25 (0, 0)) ax121 hb); have n2_ := Aside0.mk (below_step ax120 hb); clear BK316; clear HB; have HO322 := n0_; have BK316 := n1_; have HB := n2_; clear n0_ n1_ n2_; (try clear hb); (try clear hb2); (try clear hk); (try clear hi); (try clear ho0); obtain ⟨Ao21, co21, eo21⟩ := Kd.R_slice HO322.out; subst eo21) | (go_at_call 33; (with_reducible refine (spec_l2Set.calls k _ _ t320 t323 true _ ?side1 ?side2 A8.out).mono ?_); (case side1 => exact ax122); (case side2 => exact ax123); rintro e w22 ⟨v324, rfl, ho0, hb⟩; have n0_ := Aside0.mk (Kd.R_below ax124 hb); have n1_ := Aside0.mk (Kd.V_lower (Kd.V_mono (ok' := fun k_ => (w.heap.size ≤ k_) ∧ some k_ ≠ (.slice Ao21 t320.length co21 : Value).ownBlock ∧ k_ ≠ gb316) ho0 (fun k_ hk_ => ⟨(Nat.le_trans (below_size ax120) hk_), (Kd.fresh' (Kd.R_lt ax124) k_ hk_), (Kd.freshB (g := gb316) (o := .cells #[.string a0_0, .string a0_1, .int .i64 a0_2] 25 (0, 0)) ax121 k_ hk_)⟩)) (below_size ax120)); have n2_ := Aside0.mk (blk_below (g := gb316) (o := .cells #[.string a0_0, .string a0_1, .int .i64 a0_2] 25 (0, 0)) ax121 hb); have n3_ := Aside0.mk (below_step ax120 hb); clear HO322; clear BK316; clear HB; have HO322 := n0_; have HO325 := n1_; have BK316 := n2_; have HB := n3_; clear n0_ n1_ n2_ n3_; (try clear hb); (try clear hb2); (try clear hk); (try clear hi); (try clear ho0)) | (go_at_call 34; (with_reducible refine (spec_l2Has.calls k _ _ t320 (⟨#[]⟩ : ByteArray) false _ ?side1 ?side2 A10.out).mono ?_); (case side1 => exact ax122); (case side2 => exact ax123); rintro e w' ⟨rfl, ⟨nd, rfl⟩⟩; (try first | exact ⟨rfl, _, World.drewN_drewN _ _ _⟩ | exact ⟨rfl, _, Eq.trans (World.drewN_drewN _ _ _) (congrArg (World.drewN _) (Nat.add_assoc _ _ _))⟩); obtain ⟨Ao23, co23, eo23⟩ := Kd.V_slice HO325.out; subst eo23) | (go_at_call 35; (with_reducible refine (spec_l12Joined.calls k _ _ t323 t328 _ ?side1 ?side2 A17.out).mono ?_); (case side1 => exact ax125); (case side2 => exact (Kd.V_reads' HO325.out).2.1); rintro e w' ⟨rfl, ⟨nd, rfl⟩⟩; (try first | exact ⟨rfl, _, World.drewN_drewN _ _ _⟩ | exact ⟨rfl, _, Eq.trans (World.drewN_drewN _ _ _) (congrArg (World.drewN _) (Nat.add_assoc _ _ _))⟩); have hcz24_0 : w22.cell? ⟨gb316, 0, none⟩ = some (.string a0_0) := (blk_cell BK316.out 0).trans rfl; have hcz24_1 : w22.cell? ⟨gb316, 1, none⟩ = some (.string a0_1) := (blk_cell BK316.out 1).trans rfl; have hcz24_2 : w22.cell? ⟨gb316, 2, none⟩ = some (.int .i64 a0_2) := (blk_cell BK316.out 2).trans rfl; have hfz24_0 := blk_frozen BK316.out 0; have hfz24_1 := blk_frozen BK316.out 1; have hfz24_2 := blk_frozen BK316.out 2)))
    go_ret2
    exact ⟨_, by first | rfl | (simp [errW_none, errW_some] <;> rfl) | (simp [*, errW_none, errW_some] <;> rfl), by (with_reducible repeat (first | apply Kd.V_alloc | apply Kd.V_drewN | apply Kd.V_drew)); exact Kd.V_mono HO325.out (fun _ hk => hk.1), by repeat (first | (with_reducible first | exact HB.out | apply below_alloc | apply pw_below_drewN | apply below_drew1 | refine below_set ?_ GE316.out) | exact HB.out)⟩
  ·replace c9 := Bool.eq_false_iff.mpr c9
   subst c9
   have H1 : (some (t323, false)) = some (r1, r2) := by rw [if_neg (show ¬ (false = true) by decide)] at H; exact H
   clear H; have H := H1; clear H1
   simp only [Option.some.injEq, Prod.mk.injEq] at H
   obtain ⟨rfl, rfl⟩ := H
   go_enter Tryz.func68, Tryz.ntmps68
   go_wp2_with (first | ((with_reducible refine gate_dst (N := 1) rfl ?_); refine box_event ?hg (N := 1) ?hd (cs := #[.string a0_0, .string a0_1, .int .i64 a0_2]) (t := 25) ?hr ?_; (case hd => rfl); (case hg => rfl); (case hr => exact ax23); intro gb316 hg w25 hbox hb; have n0_ := Aside0.mk (below_step ax25 hb); have n1_ := Aside0.mk (hbox); have n2_ := Aside0.mk ((ax54 : w.heap.size ≤ gb316)); have n3_ := Aside0.mk ((ax54 : w.heap.size ≤ gb316)); clear HB; have HB := n0_; have BK316 := n1_; have GW316 := n2_; have GE316 := n3_; clear n0_ n1_ n2_ n3_; clear hb hbox hg; have hcz26_0 : w25.cell? ⟨gb316, 0, none⟩ = some (.string a0_0) := (blk_cell BK316.out 0).trans rfl; have hcz26_1 : w25.cell? ⟨gb316, 1, none⟩ = some (.string a0_1) := (blk_cell BK316.out 1).trans rfl; have hcz26_2 : w25.cell? ⟨gb316, 2, none⟩ = some (.int .i64 a0_2) := (blk_cell BK316.out 2).trans rfl; have hfz26_0 := blk_frozen BK316.out 0; have hfz26_1 := blk_frozen BK316.out 1; have hfz26_2 := blk_frozen BK316.out 2) | (go_at_call 87; (with_reducible refine (spec_l1Split.calls k a0_0 32 t320 _ A7.out).mono ?_); rintro e w27 ⟨v321, rfl, ho0, hb⟩; have n0_ := Aside0.mk (Kd.R_lower (Kd.R_newM (M := fun k_ => (w.heap.size ≤ k_)) ho0 (below_size ax120) (fun k_ h_ => h_)) (below_size ax120)); have n1_ := Aside0.mk (blk_below (g := gb316) (o := .cells #[.string a0_0, .string a0_1, .int .i64 a0_2] 25 (0, 0)) ax121 hb); have n2_ := Aside0.mk (below_step ax120 hb); clear BK316; clear HB; have HO322 := n0_; have BK316 := n1_; have HB := n2_; clear n0_ n1_ n2_; (try clear hb); (try clear hb2); (try clear hk); (try clear hi); (try clear ho0); obtain ⟨Ao28, co28, eo28⟩ := Kd.R_slice HO322.out; subst eo28) | (go_at_call 33; (with_reducible refine (spec_l2Set.calls k _ _ t320 t323 false _ ?side1 ?side2 A8.out).mono ?_); (case side1 => exact ax122); (case side2 => exact ax123); rintro e w29 ⟨v324, rfl, ho0, hb⟩; have n0_ := Aside0.mk (Kd.R_below ax124 hb); have n1_ := Aside0.mk (Kd.V_lower (Kd.V_mono (ok' := fun k_ => (w.heap.size ≤ k_) ∧ some k_ ≠ (.slice Ao28 t320.length co28 : Value).ownBlock ∧ k_ ≠ gb316) ho0 (fun k_ hk_ => ⟨(Nat.le_trans (below_size ax120) hk_), (Kd.fresh' (Kd.R_lt ax124) k_ hk_), (Kd.freshB (g := gb316) (o := .cells #[.string a0_0, .string a0_1, .int .i64 a0_2] 25 (0, 0)) ax121 k_ hk_)⟩)) (below_size ax120)); have n2_ := Aside0.mk (blk_below (g := gb316) (o := .cells #[.string a0_0, .string a0_1, .int .i64 a0_2] 25 (0, 0)) ax121 hb); have n3_ := Aside0.mk (below_step ax120 hb); clear HO322; clear BK316; clear HB; have HO322 := n0_; have HO325 := n1_; have BK316 := n2_; have HB := n3_; clear n0_ n1_ n2_ n3_; (try clear hb); (try clear hb2); (try clear hk); (try clear hi); (try clear ho0)))
   repeat (go_quiet (first | ((with_reducible refine gate_dst (N := 1) rfl ?_); refine box_event ?hg (N := 1) ?hd (cs := #[.string a0_0, .string a0_1, .int .i64 a0_2]) (t := 25) ?hr ?_; (case hd => rfl); (case hg => rfl); (case hr => exact ax23); intro gb316 hg w25 hbox hb; have n0_ := Aside0.mk (below_step ax25 hb); have n1_ := Aside0.mk (hbox); have n2_ := Aside0.mk ((ax54 : w.heap.size ≤ gb316)); have n3_ := Aside0.mk ((ax54 : w.heap.size ≤ gb316)); clear HB; have HB := n0_; have BK316 := n1_; have GW316 := n2_; have GE316 := n3_; clear n0_ n1_ n2_ n3_; clear hb hbox hg; have hcz26_0 : w25.cell? ⟨gb316, 0, none⟩ = some (.string a0_0) := (blk_cell BK316.out 0).trans rfl; have hcz26_1 : w25.cell? ⟨gb316, 1, none⟩ = some (.string a0_1) := (blk_cell BK316.out 1).trans rfl; have hcz26_2 : w25.cell? ⟨gb316, 2, none⟩ = some (.int .i64 a0_2) := (blk_cell BK316.out 2).trans rfl; have hfz26_0 := blk_frozen BK316.out 0; have hfz26_1 := blk_frozen BK316.out 1; have hfz26_2 := blk_frozen BK316.out 2) | (go_at_call 87; (with_reducible refine (spec_l1Split.calls k a0_0 32 t320 _ A7.out).mono ?_); rintro e w27 ⟨v321, rfl, ho0, hb⟩; have n0_ := Aside0.mk (Kd.R_lower (Kd.R_newM (M := fun k_ => (w.heap.size ≤ k_)) ho0 (below_size ax120) (fun k_ h_ => h_)) (below_size ax120)); have n1_ := Aside0.mk (blk_below (g := gb316) (o := .cells #[.string a0_0, .string a0_1, .int .i64 a0_2] 25 (0, 0)) ax121 hb); have n2_ := Aside0.mk (below_step ax120 hb); clear BK316; clear HB; have HO322 := n0_; have BK316 := n1_; have HB := n2_; clear n0_ n1_ n2_; (try clear hb); (try clear hb2); (try clear hk); (try clear hi); (try clear ho0); obtain ⟨Ao28, co28, eo28⟩ := Kd.R_slice HO322.out; subst eo28) | (go_at_call 33; (with_reducible refine (spec_l2Set.calls k _ _ t320 t323 false _ ?side1 ?side2 A8.out).mono ?_); (case side1 => exact ax122); (case side2 => exact ax123); rintro e w29 ⟨v324, rfl, ho0, hb⟩; have n0_ := Aside0.mk (Kd.R_below ax124 hb); have n1_ := Aside0.mk (Kd.V_lower (Kd.V_mono (ok' := fun k_ => (w.heap.size ≤ k_) ∧ some k_ ≠ (.slice Ao28 t320.length co28 : Value).ownBlock ∧ k_ ≠ gb316) ho0 (fun k_ hk_ => ⟨(Nat.le_trans (below_size ax120) hk_), (Kd.fresh' (Kd.R_lt ax124) k_ hk_), (Kd.freshB (g := gb316) (o := .cells #[.string a0_0, .string a0_1, .int .i64 a0_2] 25 (0, 0)) ax121 k_ hk_)⟩)) (below_size ax120)); have n2_ := Aside0.mk (blk_below (g := gb316) (o := .cells #[.string a0_0, .string a0_1, .int .i64 a0_2] 25 (0, 0)) ax121 hb); have n3_ := Aside0.mk (below_step ax120 hb); clear HO322; clear BK316; clear HB; have HO322 := n0_; have HO325 := n1_; have BK316 := n2_; have HB := n3_; clear n0_ n1_ n2_ n3_; (try clear hb); (try clear hb2); (try clear hk); (try clear hi); (try clear ho0))); try go_wp2_with (first | ((with_reducible refine gate_dst (N := 1) rfl ?_); refine box_event ?hg (N := 1) ?hd (cs := #[.string a0_0, .string a0_1, .int .i64 a0_2]) (t := 25) ?hr ?_; (case hd => rfl); (case hg => rfl); (case hr => exact ax23); intro gb316 hg w25 hbox hb; have n0_ := Aside0.mk (below_step ax25 hb); have n1_ := Aside0.mk (hbox); have n2_ := Aside0.mk ((ax54 : w.heap.size ≤ gb316)); have n3_ := Aside0.mk ((ax54 : w.heap.size ≤ gb316)); clear HB; have HB := n0_; have BK316 := n1_; have GW316 := n2_; have GE316 := n3_; clear n0_ n1_ n2_ n3_; clear hb hbox hg; have hcz26_0 : w25.cell? ⟨gb316, 0, none⟩ = some (.string a0_0) := (blk_cell BK316.out 0).trans rfl; have hcz26_1 : w25.cell? ⟨gb316, 1, none⟩ = some (.string a0_1) := (blk_cell BK316.out 1).trans rfl; have hcz26_2 : w25.cell? ⟨gb316, 2, none⟩ = some (.int .i64 a0_2) := (blk_cell BK316.out 2).trans rfl; have hfz26_0 := blk_frozen BK316.out 0; have hfz26_1 := blk_frozen BK316.out 1; have hfz26_2 := blk_frozen BK316.out 2) | (go_at_call 87; (with_reducible refine (spec_l1Split.calls k a0_0 32 t320 _ A7.out).mono ?_); rintro e w27 ⟨v321, rfl, ho0, hb⟩; have n0_ := Aside0.mk (Kd.R_lower (Kd.R_newM (M := fun k_ => (w.heap.size ≤ k_)) ho0 (below_size ax120) (fun k_ h_ => h_)) (below_size ax120)); have n1_ := Aside0.mk (blk_below (g := gb316) (o := .cells #[.string a0_0, .string a0_1, .int .i64 a0_2] 25 (0, 0)) ax121 hb); have n2_ := Aside0.mk (below_step ax120 hb); clear BK316; clear HB; have HO322 := n0_; have BK316 := n1_; have HB := n2_; clear n0_ n1_ n2_; (try clear hb); (try clear hb2); (try clear hk); (try clear hi); (try clear ho0); obtain ⟨Ao28, co28, eo28⟩ := Kd.R_slice HO322.out; subst eo28) | (go_at_call 33; (with_reducible refine (spec_l2Set.calls k _ _ t320 t323 false _ ?side1 ?side2 A8.out).mono ?_); (case side1 => exact ax122); (case side2 => exact ax123); rintro e w29 ⟨v324, rfl, ho0, hb⟩; have n0_ := Aside0.mk (Kd.R_below ax124 hb); have n1_ := Aside0.mk (Kd.V_lower (Kd.V_mono (ok' := fun k_ => (w.heap.size ≤ k_) ∧ some k_ ≠ (.slice Ao28 t320.length co28 : Value).ownBlock ∧ k_ ≠ gb316) ho0 (fun k_ hk_ => ⟨(Nat.le_trans (below_size ax120) hk_), (Kd.fresh' (Kd.R_lt ax124) k_ hk_), (Kd.freshB (g := gb316) (o := .cells #[.string a0_0, .string a0_1, .int .i64 a0_2] 25 (0, 0)) ax121 k_ hk_)⟩)) (below_size ax120)); have n2_ := Aside0.mk (blk_below (g := gb316) (o := .cells #[.string a0_0, .string a0_1, .int .i64 a0_2] 25 (0, 0)) ax121 hb); have n3_ := Aside0.mk (below_step ax120 hb); clear HO322; clear BK316; clear HB; have HO322 := n0_; have HO325 := n1_; have BK316 := n2_; have HB := n3_; clear n0_ n1_ n2_ n3_; (try clear hb); (try clear hb2); (try clear hk); (try clear hi); (try clear ho0))))
   go_ret2
   exact ⟨_, by first | rfl | (simp [errW_none, errW_some] <;> rfl) | (simp [*, errW_none, errW_some] <;> rfl), by (with_reducible repeat (first | apply Kd.V_alloc | apply Kd.V_drewN | apply Kd.V_drew)); exact Kd.V_mono HO325.out (fun _ hk => hk.1), by repeat (first | (with_reducible first | exact HB.out | apply below_alloc | apply pw_below_drewN | apply below_drew1 | refine below_set ?_ GE316.out) | exact HB.out)⟩

/-! ### spec_l2Kid: function 88 -/
def spec_l2Kid.l0 : Nat → Int → Int → Int → List (S105) → Option (Int)
 | 0, _, _, _, _ => none
 | k + 1, x1, x2, x7, x330000 => if x7 < (x330000.length : Int) then (if 0 ≤ x7 then (if ((rd_T105 x330000 x7).f1) = x1 then (if ((rd_T105 x330000 x7).f0) = x2 then (some x7) else (spec_l2Kid.l0 k x1 x2 (wrap64 (x7 + 1)) x330000)) else (spec_l2Kid.l0 k x1 x2 (wrap64 (x7 + 1)) x330000)) else (none)) else (some (-1))
def spec_l2Kid.f (k : Nat) (l0_0 : List (S105)) (a1 : Int) (a2 : Int) : Option (Int) := spec_l2Kid.l0 k a1 a2 (wrap64 (a1 + 1)) l0_0
theorem spec_l2Kid.mono_l : ∀ k, (∀ y0 y1 y2 y3, LeO (spec_l2Kid.l0 k y0 y1 y2 y3) (spec_l2Kid.l0 (k + 1) y0 y1 y2 y3))
 | 0 => fun _ _ _ _ r h => by simp [spec_l2Kid.l0] at h
 | k + 1 => by
  have ih0 := spec_l2Kid.mono_l k
  ·intro y0 y1 y2 y3
   unfold spec_l2Kid.l0
   repeat' first
   | (with_reducible exact ih0 _ _ _ _)
   | (with_reducible exact LeO.refl _)
   | (with_reducible exact LeO.none _)
   | (with_reducible refine LeO.ite ?_ ?_)
   | (with_reducible refine LeO.bind ?_ (fun _ => ?_))
   | exact ih0 _ _ _ _
   | exact LeO.none _
   | refine LeO.ite ?_ ?_
   | refine LeO.bind ?_ (fun _ => ?_)
theorem spec_l2Kid.mono : ∀ a0 a1 a2 k, LeO (spec_l2Kid.f k a0 a1 a2) (spec_l2Kid.f (k + 1) a0 a1 a2) := by
 intro a0 a1 a2 k
 have ih0 := spec_l2Kid.mono_l k
 unfold spec_l2Kid.f
 repeat' first
   | (with_reducible exact ih0 _ _ _ _)
   | (with_reducible exact LeO.refl _)
   | (with_reducible exact LeO.none _)
   | (with_reducible refine LeO.ite ?_ ?_)
   | (with_reducible refine LeO.bind ?_ (fun _ => ?_))
   | exact ih0 _ _ _ _
   | exact LeO.none _
   | refine LeO.ite ?_ ?_
   | refine LeO.bind ?_ (fun _ => ?_)
set_option maxHeartbeats 8000000 in
set_option maxRecDepth 100000 in
theorem spec_l2Kid.calls (k : Nat) (A0_0 : Option Addr) (c0_0 : Nat) (l0_0 : List (S105)) (a1 : Int) (a2 : Int) (r : Int) (w : World) (hr0_0 : Kd.C k105 w A0_0 l0_0.length l0_0) (hc0_0 : l0_0.length ≤ c0_0) (h : spec_l2Kid.f k l0_0 a1 a2 = some r) :
  Calls Tryz.prog 88 #[.agg #[.slice A0_0 l0_0.length c0_0], .int .i64 a1, .int .i64 a2] w fun e w' => e = .returned (.int .i64 r) ∧ Below w.heap.size w w' := by
 have hu45 := Tryz.underlying45; have HR0_0 := Aside0.mk hr0_0; have HC0_0 := Aside0.mk hc0_0; clear hr0_0 hc0_0; have HB := Aside0.mk (Below.refl w.heap.size w)
 have H : (spec_l2Kid.l0 k a1 a2 (wrap64 (a1 + 1)) l0_0) = some r := h
 clear h
 have H' := Aside0.mk H
 clear H
 go_enter Tryz.func88, Tryz.ntmps88
 go_wp2_with (first | ((with_reducible refine gate_dst (N := 3) rfl ?_); refine box_event ?hg (N := 3) ?hd (cs := #[.slice A0_0 l0_0.length c0_0]) (t := 45) ?hr ?_; (case hd => rfl); (case hg => rfl); (case hr => exact ax23); intro gb329 hg w4 hbox hb; have n0_ := Aside0.mk (below_step ax25 hb); have n1_ := Aside0.mk (hbox); have n2_ := Aside0.mk ((ax54 : w.heap.size ≤ gb329)); have n3_ := Aside0.mk ((ax54 : w.heap.size ≤ gb329)); clear HB; have HB := n0_; have BK329 := n1_; have GW329 := n2_; have GE329 := n3_; clear n0_ n1_ n2_ n3_; clear hb hbox hg))
 go_loopg [7] k (fun kq v7 w' => ∃ (x7_1 : Int), v7 = .int .i64 x7_1 ∧ Aside0 (spec_l2Kid.l0 kq a1 a2 x7_1 l0_0 = some r) ∧ Aside0 (kq ≤ k) ∧ Aside0 (w'.heap[gb329]? = some (.cells #[(.slice A0_0 l0_0.length c0_0)] 45 (0, 0))) ∧ Aside0 (Below w.heap.size w w'))
 case atStart => exact ⟨(wrap64 (a1 + 1)), ax21, H', ⟨Nat.le_refl _⟩, ⟨by (with_reducible repeat (first | refine blk_drewN ?_ _ | refine blk_drew ?_ | refine blk_alloc ?_ _)); exact BK329.out⟩, ⟨by repeat (first | (with_reducible first | exact HB.out | apply below_alloc | apply pw_below_drewN | apply below_drew1 | refine below_set ?_ GE329.out) | exact HB.out)⟩⟩
 case round =>
  clear H'
  try clear p2
  obtain ⟨x7_1, rfl, HA, HK1, BK329, HB⟩ := hrel
  cases gk with
  | zero => exact absurd HA.out (by simp [spec_l2Kid.l0])
  | succ k1 =>
   have H := HA.out; clear HA
   simp only [spec_l2Kid.l0] at H
   by_cases c5 : x7_1 < (l0_0.length : Int)
   ·rw [if_pos c5] at H
    have c5b0 : decide (x7_1 < (l0_0.length : Int)) = true := decide_eq_true c5
    clear c5
    by_cases c6 : 0 ≤ x7_1
    ·rw [if_pos c6] at H
     have c6b0 : decide (0 ≤ x7_1) = true := decide_eq_true c6
     clear c6
     by_cases c7 : ((rd_T105 l0_0 x7_1).f1) = a1
     ·rw [if_pos c7] at H
      have c7b0 : (((rd_T105 l0_0 x7_1).f1) == a1) = true := beq_iff_eq.mpr c7
      have c7b1 : (((rd_T105 l0_0 x7_1).f1) != a1) = false := bne_eq_false_iff_eq.mpr c7
      clear c7
      by_cases c8 : ((rd_T105 l0_0 x7_1).f0) = a2
      ·rw [if_pos c8] at H
       have c8b0 : (((rd_T105 l0_0 x7_1).f0) == a2) = true := beq_iff_eq.mpr c8
       have c8b1 : (((rd_T105 l0_0 x7_1).f0) != a2) = false := bne_eq_false_iff_eq.mpr c8
       clear c8
       obtain rfl := Option.some.inj H
       have hcz9_0 : wr.cell? ⟨gb329, 0, none⟩ = some (.slice A0_0 l0_0.length c0_0) := (blk_cell BK329.out 0).trans rfl
       have hfz9_0 := blk_frozen BK329.out 0
       have p330 : 0 ≤ (x7_1 : Int) := of_decide_eq_true ax22
       have q330 : x7_1 < (l0_0.length : Int) := of_decide_eq_true ax22
       obtain ⟨ad330, e330, hx330_0, hx330_1, hx330_2⟩ := at_T105 HR0_0.out x7_1 p330 q330
       cases e330; replace hx330_0 := (HB.out.cell (World.block_lt_of_cell? w _ hx330_0)).trans hx330_0; replace hx330_1 := (HB.out.cell (World.block_lt_of_cell? w _ hx330_1)).trans hx330_1; replace hx330_2 := (HB.out.cell (World.block_lt_of_cell? w _ hx330_2)).trans hx330_2; replace p330 := eq_true p330; replace q330 := eq_true q330
       have p331 : 0 ≤ (x7_1 : Int) := of_decide_eq_true ax22
       have q331 : x7_1 < (l0_0.length : Int) := of_decide_eq_true ax22
       obtain ⟨ad331, e331, hx331_0, hx331_1, hx331_2⟩ := at_T105 HR0_0.out x7_1 p331 q331
       obtain rfl : ad330 = ad331 := (by injection e331)
       replace hx331_0 := (HB.out.cell (World.block_lt_of_cell? w _ hx331_0)).trans hx331_0; replace hx331_1 := (HB.out.cell (World.block_lt_of_cell? w _ hx331_1)).trans hx331_1; replace hx331_2 := (HB.out.cell (World.block_lt_of_cell? w _ hx331_2)).trans hx331_2; replace p331 := eq_true p331; replace q331 := eq_true q331
       go_wp2
       go_ret
       exact ⟨by first | rfl | (simp [errW_none, errW_some] <;> rfl) | (simp [*, errW_none, errW_some] <;> rfl), by repeat (first | (with_reducible first | exact HB.out | apply below_alloc | apply pw_below_drewN | apply below_drew1 | refine below_set ?_ GE329.out) | exact HB.out)⟩
      ·rw [if_neg c8] at H
       have c8b0 : (((rd_T105 l0_0 x7_1).f0) == a2) = false := beq_eq_false_iff_ne.mpr c8
       have c8b1 : (((rd_T105 l0_0 x7_1).f0) != a2) = true := bne_iff_ne.mpr c8
       have H' := Aside0.mk H
       clear H
       have hcz10_0 : wr.cell? ⟨gb329, 0, none⟩ = some (.slice A0_0 l0_0.length c0_0) := (blk_cell BK329.out 0).trans rfl
       have hfz10_0 := blk_frozen BK329.out 0
       have p330 : 0 ≤ (x7_1 : Int) := of_decide_eq_true ax22
       have q330 : x7_1 < (l0_0.length : Int) := of_decide_eq_true ax22
       obtain ⟨ad330, e330, hx330_0, hx330_1, hx330_2⟩ := at_T105 HR0_0.out x7_1 p330 q330
       cases e330; replace hx330_0 := (HB.out.cell (World.block_lt_of_cell? w _ hx330_0)).trans hx330_0; replace hx330_1 := (HB.out.cell (World.block_lt_of_cell? w _ hx330_1)).trans hx330_1; replace hx330_2 := (HB.out.cell (World.block_lt_of_cell? w _ hx330_2)).trans hx330_2; replace p330 := eq_true p330; replace q330 := eq_true q330
       have p331 : 0 ≤ (x7_1 : Int) := of_decide_eq_true ax22
       have q331 : x7_1 < (l0_0.length : Int) := of_decide_eq_true ax22
       obtain ⟨ad331, e331, hx331_0, hx331_1, hx331_2⟩ := at_T105 HR0_0.out x7_1 p331 q331
       obtain rfl : ad330 = ad331 := (by injection e331)
       replace hx331_0 := (HB.out.cell (World.block_lt_of_cell? w _ hx331_0)).trans hx331_0; replace hx331_1 := (HB.out.cell (World.block_lt_of_cell? w _ hx331_1)).trans hx331_1; replace hx331_2 := (HB.out.cell (World.block_lt_of_cell? w _ hx331_2)).trans hx331_2; replace p331 := eq_true p331; replace q331 := eq_true q331
       go_wp2
       go_roundg k1
       case measure => have := HK1.out; omega
       case rel => exact ⟨(wrap64 (x7_1 + 1)), ax21, H', ⟨by have := HK1.out; omega⟩, ⟨by (with_reducible repeat (first | refine blk_drewN ?_ _ | refine blk_drew ?_ | refine blk_alloc ?_ _)); exact BK329.out⟩, ⟨by repeat (first | (with_reducible first | exact HB.out | apply below_alloc | apply pw_below_drewN | apply below_drew1 | refine below_set ?_ GE329.out) | exact HB.out)⟩⟩
     ·rw [if_neg c7] at H
      have c7b0 : (((rd_T105 l0_0 x7_1).f1) == a1) = false := beq_eq_false_iff_ne.mpr c7
      have c7b1 : (((rd_T105 l0_0 x7_1).f1) != a1) = true := bne_iff_ne.mpr c7
      have H' := Aside0.mk H
      clear H
      have hcz11_0 : wr.cell? ⟨gb329, 0, none⟩ = some (.slice A0_0 l0_0.length c0_0) := (blk_cell BK329.out 0).trans rfl
      have hfz11_0 := blk_frozen BK329.out 0
      have p330 : 0 ≤ (x7_1 : Int) := of_decide_eq_true ax22
      have q330 : x7_1 < (l0_0.length : Int) := of_decide_eq_true ax22
      obtain ⟨ad330, e330, hx330_0, hx330_1, hx330_2⟩ := at_T105 HR0_0.out x7_1 p330 q330
      cases e330; replace hx330_0 := (HB.out.cell (World.block_lt_of_cell? w _ hx330_0)).trans hx330_0; replace hx330_1 := (HB.out.cell (World.block_lt_of_cell? w _ hx330_1)).trans hx330_1; replace hx330_2 := (HB.out.cell (World.block_lt_of_cell? w _ hx330_2)).trans hx330_2; replace p330 := eq_true p330; replace q330 := eq_true q330
      go_wp2
      go_roundg k1
      case measure => have := HK1.out; omega
      case rel => exact ⟨(wrap64 (x7_1 + 1)), ax21, H', ⟨by have := HK1.out; omega⟩, ⟨by (with_reducible repeat (first | refine blk_drewN ?_ _ | refine blk_drew ?_ | refine blk_alloc ?_ _)); exact BK329.out⟩, ⟨by repeat (first | (with_reducible first | exact HB.out | apply below_alloc | apply pw_below_drewN | apply below_drew1 | refine below_set ?_ GE329.out) | exact HB.out)⟩⟩
    ·exact ax1
   ·rw [if_neg c5] at H
    have c5b0 : decide (x7_1 < (l0_0.length : Int)) = false := decide_eq_false c5
    clear c5
    obtain rfl := Option.some.inj H
    have hcz12_0 : wr.cell? ⟨gb329, 0, none⟩ = some (.slice A0_0 l0_0.length c0_0) := (blk_cell BK329.out 0).trans rfl
    have hfz12_0 := blk_frozen BK329.out 0
    go_wp2
    go_ret
    exact ⟨by first | rfl | (simp [errW_none, errW_some] <;> rfl) | (simp [*, errW_none, errW_some] <;> rfl), by repeat (first | (with_reducible first | exact HB.out | apply below_alloc | apply pw_below_drewN | apply below_drew1 | refine below_set ?_ GE329.out) | exact HB.out)⟩

end Go.Proofs.YtmecniejpoopfaaGreatDoor.X

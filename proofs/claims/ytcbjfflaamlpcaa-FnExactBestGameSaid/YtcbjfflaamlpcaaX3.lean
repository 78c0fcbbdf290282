-- By gen.py (the session's own program over the kit's printer): functions of the program, each with its contract. Lean checks it.
import Derived.Test.YtcbjfflaamlpcaaX0
import Derived.Test.YtcbjfflaamlpcaaX2
namespace Go.Proofs.Ytcbjfflaamlpcaa.X
open Go.RowKit Go.Proofs.YtcbjfflaamlpcaaW.PrintWords Go.Proofs.YtcbjfflaamlpcaaW.PrintLast Go.Proofs.YtcbjfflaamlpcaaW.PrintMore
attribute [local go_sem] max2_int min2_int max_two min_two max_three min_three max_four min_four   -- for this text's walks alone
set_option linter.unusedVariables false
set_option linter.unusedSimpArgs false

/-! ### laws_eqTrie: function 17 -/
def laws_eqTrie.f (k : Nat) (l0_0 : List (S67)) (l1_0 : List (S67)) : Option (Bool) := (laws_eqNodeS.f k l0_0 l1_0).bind fun t127 => (if t127 = true then (some true) else (some false))
theorem laws_eqTrie.mono : ∀ a0 a1 k, LeO (laws_eqTrie.f k a0 a1) (laws_eqTrie.f (k + 1) a0 a1) := by
 intro a0 a1 k
 unfold laws_eqTrie.f
 repeat' first
   | (with_reducible exact laws_eqNodeS.mono _ _ _)
   | (with_reducible exact LeO.refl _)
   | (with_reducible exact LeO.none _)
   | (with_reducible refine LeO.ite ?_ ?_)
   | (with_reducible refine LeO.bind ?_ (fun _ => ?_))
   | exact laws_eqNodeS.mono _ _ _
   | exact LeO.none _
   | refine LeO.ite ?_ ?_
   | refine LeO.bind ?_ (fun _ => ?_)
set_option maxHeartbeats 8000000 in
set_option maxRecDepth 100000 in
theorem laws_eqTrie.calls (k : Nat) (A0_0 : Option Addr) (c0_0 : Nat) (l0_0 : List (S67)) (A1_0 : Option Addr) (c1_0 : Nat) (l1_0 : List (S67)) (r : Bool) (w : World) (hr0_0 : Kd.C k67 w A0_0 l0_0.length l0_0) (hc0_0 : l0_0.length ≤ c0_0) (hr1_0 : Kd.C k67 w A1_0 l1_0.length l1_0) (hc1_0 : l1_0.length ≤ c1_0) (h : laws_eqTrie.f k l0_0 l1_0 = some r) :
  Calls Try.prog 17 #[.agg #[.slice A0_0 l0_0.length c0_0], .agg #[.slice A1_0 l1_0.length c1_0]] w fun e w' => e = .returned (.bool r) ∧ Below w.heap.size w w' := by
 have hu30 := Try.underlying30; have HR0_0 := Aside0.mk hr0_0; have HC0_0 := Aside0.mk hc0_0; clear hr0_0 hc0_0; have HR1_0 := Aside0.mk hr1_0; have HC1_0 := Aside0.mk hc1_0; clear hr1_0 hc1_0; have HB := Aside0.mk (Below.refl w.heap.size w)
 have H : ((laws_eqNodeS.f k l0_0 l1_0).bind fun t127 => (if t127 = true then (some true) else (some false))) = some r := h
 clear h; replace H := Option.bind_eq_some_iff.mp H
 obtain ⟨t127, A30, H⟩ := H
 replace H : (if t127 = true then (some true) else (some false)) = some r := H
 have A3 := Aside0.mk A30; clear A30
 by_cases c4 : t127 = true
 ·subst c4
  have H1 : (some true) = some r := by rw [if_pos rfl] at H; exact H
  clear H; have H := H1; clear H1
  obtain rfl := Option.some.inj H
  go_enter Try.func17, Try.ntmps17
  go_wp2_with (first | ((with_reducible refine gate_dst (N := 2) rfl ?_); refine box_event ?hg (N := 2) ?hd (cs := #[.slice A0_0 l0_0.length c0_0]) (t := 30) ?hr ?_; (case hd => rfl); (case hg => rfl); (case hr => exact ax22); intro gb125 hg w5 hbox hb; have n0_ := Aside0.mk (below_step ax23 hb); have n1_ := Aside0.mk (hbox); have n2_ := Aside0.mk ((ax24 : w.heap.size ≤ gb125)); have n3_ := Aside0.mk ((ax24 : w.heap.size ≤ gb125)); clear HB; have HB := n0_; have BK125 := n1_; have GW125 := n2_; have GE125 := n3_; clear n0_ n1_ n2_ n3_; clear hb hbox hg) | ((with_reducible refine gate_dst (N := 3) rfl ?_); refine box_event ?hg (N := 3) ?hd (cs := #[.slice A1_0 l1_0.length c1_0]) (t := 30) ?hr ?_; (case hd => rfl); (case hg => rfl); (case hr => exact ax22); intro gb126 hg w6 hbox hb; have n0_ := Aside0.mk (blk_below (g := gb125) (o := .cells #[.slice A0_0 l0_0.length c0_0] 30 (0, 0)) ax54 hb); have n1_ := Aside0.mk (below_step ax55 hb); have n2_ := Aside0.mk (hbox); have n3_ := Aside0.mk ((ax56 : w.heap.size ≤ gb126)); have n4_ := Aside0.mk ((ax56 : w.heap.size ≤ gb126)); have n5_ := Aside0.mk ((ax57 : gb125 ≠ gb126)); have n6_ := Aside0.mk ((ax58 : gb126 ≠ gb125)); clear BK125; clear HB; have BK125 := n0_; have HB := n1_; have BK126 := n2_; have GW126 := n3_; have GE126 := n4_; have NB125_126 := n5_; have NB126_125 := n6_; clear n0_ n1_ n2_ n3_ n4_ n5_ n6_; clear hb hbox hg; have hnb7 := NB125_126.out; have hnc7 := NB126_125.out; have hcz8_0 : w6.cell? ⟨gb125, 0, none⟩ = some (.slice A0_0 l0_0.length c0_0) := (blk_cell BK125.out 0).trans rfl; have hfz8_0 := blk_frozen BK125.out 0; have hcz9_0 : w6.cell? ⟨gb126, 0, none⟩ = some (.slice A1_0 l1_0.length c1_0) := (blk_cell BK126.out 0).trans rfl; have hfz9_0 := blk_frozen BK126.out 0) | ((with_reducible refine gate_callee (f := 47) rfl ?_); refine goesL_ (some 9) rfl rfl Try.func47 (by kernel_rfl) rfl #[.slice A0_0 l0_0.length c0_0, .slice A1_0 l1_0.length c1_0] rfl ax25 ?_; (with_reducible refine (laws_eqNodeS.calls k _ _ l0_0 _ _ l1_0 true _ ?side1 ?side2 ?side3 ?side4 A3.out).mono ?_); (case side1 => exact ax26); (case side2 => exact ax27); (case side3 => exact ax59); (case side4 => exact HC1_0.out); rintro e w10 ⟨rfl, hb⟩; refine ⟨_, rfl, ?_⟩; have n0_ := Aside0.mk (blk_below (g := gb125) (o := .cells #[.slice A0_0 l0_0.length c0_0] 30 (0, 0)) ax54 hb); have n1_ := Aside0.mk (blk_below (g := gb126) (o := .cells #[.slice A1_0 l1_0.length c1_0] 30 (0, 0)) ax60 hb); have n2_ := Aside0.mk (below_step ax61 hb); clear BK125; clear BK126; clear HB; have BK125 := n0_; have BK126 := n1_; have HB := n2_; clear n0_ n1_ n2_; (try clear hb); (try clear hb2); (try clear hk); (try clear hi)))
  go_ret
  exact ⟨by first | rfl | (simp [errW_none, errW_some] <;> rfl) | (simp [*, errW_none, errW_some] <;> rfl), by repeat (first | (with_reducible first | exact HB.out | apply below_alloc | apply pw_below_drewN | apply below_drew1 | refine below_set ?_ GE125.out | refine below_set ?_ GE126.out) | exact HB.out)⟩
 ·replace c4 := Bool.eq_false_iff.mpr c4
  subst c4
  have H1 : (some false) = some r := by rw [if_neg (show ¬ (false = true) by decide)] at H; exact H
  clear H; have H := H1; clear H1
  obtain rfl := Option.some.inj H
  go_enter Try.func17, Try.ntmps17
  go_wp2_with (first | ((with_reducible refine gate_dst (N := 2) rfl ?_); refine box_event ?hg (N := 2) ?hd (cs := #[.slice A0_0 l0_0.length c0_0]) (t := 30) ?hr ?_; (case hd => rfl); (case hg => rfl); (case hr => exact ax22); intro gb125 hg w11 hbox hb; have n0_ := Aside0.mk (below_step ax23 hb); have n1_ := Aside0.mk (hbox); have n2_ := Aside0.mk ((ax24 : w.heap.size ≤ gb125)); have n3_ := Aside0.mk ((ax24 : w.heap.size ≤ gb125)); clear HB; have HB := n0_; have BK125 := n1_; have GW125 := n2_; have GE125 := n3_; clear n0_ n1_ n2_ n3_; clear hb hbox hg) | ((with_reducible refine gate_dst (N := 3) rfl ?_); refine box_event ?hg (N := 3) ?hd (cs := #[.slice A1_0 l1_0.length c1_0]) (t := 30) ?hr ?_; (case hd => rfl); (case hg => rfl); (case hr => exact ax22); intro gb126 hg w12 hbox hb; have n0_ := Aside0.mk (blk_below (g := gb125) (o := .cells #[.slice A0_0 l0_0.length c0_0] 30 (0, 0)) ax54 hb); have n1_ := Aside0.mk (below_step ax55 hb); have n2_ := Aside0.mk (hbox); have n3_ := Aside0.mk ((ax56 : w.heap.size ≤ gb126)); have n4_ := Aside0.mk ((ax56 : w.heap.size ≤ gb126)); have n5_ := Aside0.mk ((ax57 : gb125 ≠ gb126)); have n6_ := Aside0.mk ((ax58 : gb126 ≠ gb125)); clear BK125; clear HB; have BK125 := n0_; have HB := n1_; have BK126 := n2_; have GW126 := n3_; have GE126 := n4_; have NB125_126 := n5_; have NB126_125 := n6_; clear n0_ n1_ n2_ n3_ n4_ n5_ n6_; clear hb hbox hg; have hnb13 := NB125_126.out; have hnc13 := NB126_125.out; have hcz14_0 : w12.cell? ⟨gb125, 0, none⟩ = some (.slice A0_0 l0_0.length c0_0) := (blk_cell BK125.out 0).trans rfl; have hfz14_0 := blk_frozen BK125.out 0; have hcz15_0 : w12.cell? ⟨gb126, 0, none⟩ = some (.slice A1_0 l1_0.length c1_0) := (blk_cell BK126.out 0).trans rfl; have hfz15_0 := blk_frozen BK126.out 0) | ((with_reducible refine gate_callee (f := 47) rfl ?_); refine goesL_ (some 9) rfl rfl Try.func47 (by kernel_rfl) rfl #[.slice A0_0 l0_0.length c0_0, .slice A1_0 l1_0.length c1_0] rfl ax25 ?_; (with_reducible refine (laws_eqNodeS.calls k _ _ l0_0 _ _ l1_0 false _ ?side1 ?side2 ?side3 ?side4 A3.out).mono ?_); (case side1 => exact ax26); (case side2 => exact ax27); (case side3 => exact ax59); (case side4 => exact HC1_0.out); rintro e w16 ⟨rfl, hb⟩; refine ⟨_, rfl, ?_⟩; have n0_ := Aside0.mk (blk_below (g := gb125) (o := .cells #[.slice A0_0 l0_0.length c0_0] 30 (0, 0)) ax54 hb); have n1_ := Aside0.mk (blk_below (g := gb126) (o := .cells #[.slice A1_0 l1_0.length c1_0] 30 (0, 0)) ax60 hb); have n2_ := Aside0.mk (below_step ax61 hb); clear BK125; clear BK126; clear HB; have BK125 := n0_; have BK126 := n1_; have HB := n2_; clear n0_ n1_ n2_; (try clear hb); (try clear hb2); (try clear hk); (try clear hi)))
  go_ret
  exact ⟨by first | rfl | (simp [errW_none, errW_some] <;> rfl) | (simp [*, errW_none, errW_some] <;> rfl), by repeat (first | (with_reducible first | exact HB.out | apply below_alloc | apply pw_below_drewN | apply below_drew1 | refine below_set ?_ GE125.out | refine below_set ?_ GE126.out) | exact HB.out)⟩

/-! ### spec_l1In: function 77 -/
def spec_l1In.f (a0 : Int) (a1 : Int) (a2 : Int) : Option (Bool) := if a0 ≥ a1 then (some (decide (a0 ≤ a2))) else (some false)
set_option maxHeartbeats 8000000 in
set_option maxRecDepth 100000 in
theorem spec_l1In.calls (a0 : Int) (a1 : Int) (a2 : Int) (r : Bool) (w : World) (h : spec_l1In.f a0 a1 a2 = some r) :
  Calls Try.prog 77 #[.int .i64 a0, .int .i64 a1, .int .i64 a2] w fun e w' => e = .returned (.bool r) ∧ Drawn0 w w' := by
 have H : (if a0 ≥ a1 then (some (decide (a0 ≤ a2))) else (some false)) = some r := h
 clear h
 by_cases c4 : a0 ≥ a1
 ·rw [if_pos c4] at H
  have c4b0 : decide (a1 ≤ a0) = true := decide_eq_true c4
  clear c4
  obtain rfl := Option.some.inj H
  go_enter Try.func77, Try.ntmps77
  go_wp2
  go_ret
  exact ⟨by first | rfl | (simp; done) | (simp [*]; done), by repeat (first | exact Drawn0.refl _ | apply Drawn0.step)⟩
 ·rw [if_neg c4] at H
  have c4b0 : decide (a1 ≤ a0) = false := decide_eq_false c4
  clear c4
  obtain rfl := Option.some.inj H
  go_enter Try.func77, Try.ntmps77
  go_wp2
  go_ret
  exact ⟨by first | rfl | (simp; done) | (simp [*]; done), by repeat (first | exact Drawn0.refl _ | apply Drawn0.step)⟩

/-! ### spec_l2Prefix: function 62 -/
mutual
def spec_l2Prefix.l0 : Nat → Int → ByteArray → List (S67) → Option (ByteArray)
 | 0, _, _, _ => none
 | k + 1, x1, x5, x129000 => if x1 > 0 then (spec_l2Prefix.j1 k x1 x5 (decide ((x5.size : Int) ≤ 12)) x129000) else (spec_l2Prefix.j1 k x1 x5 false x129000)
def spec_l2Prefix.j1 : Nat → Int → ByteArray → Bool → List (S67) → Option (ByteArray)
 | 0, _, _, _, _ => none
 | k + 1, x1, x5, x13, x129000 => if x13 = true then (if 0 ≤ x1 then (if x1 < (x129000.length : Int) then ((spec_l1In.f ((rd_T67 x129000 x1).f0) 0 25).bind fun t131 => (if t131 = true then (if ((rd_T67 x129000 x1).f1) ≥ x1 then (some (⟨#[63]⟩ : ByteArray)) else ((some (([(wrap64 (97 + ((rd_T67 x129000 x1).f0))) % 256] : List Int) : List Int)).bind fun y132 => (if (strOfNums y132).size + x5.size ≤ 9223372036854775807 then (spec_l2Prefix.l0 k ((rd_T67 x129000 x1).f1) ((strOfNums y132) ++ x5) x129000) else (none)))) else (some (⟨#[63]⟩ : ByteArray)))) else (none)) else (none)) else (if x1 = 0 then (some x5) else (some (⟨#[63]⟩ : ByteArray)))
end
def spec_l2Prefix.f (k : Nat) (l0_0 : List (S67)) (a1 : Int) : Option (ByteArray) := spec_l2Prefix.l0 k a1 (⟨#[]⟩ : ByteArray) l0_0
theorem spec_l2Prefix.mono_l : ∀ k, (∀ y0 y1 y2, LeO (spec_l2Prefix.l0 k y0 y1 y2) (spec_l2Prefix.l0 (k + 1) y0 y1 y2)) ∧ (∀ y0 y1 y2 y3, LeO (spec_l2Prefix.j1 k y0 y1 y2 y3) (spec_l2Prefix.j1 (k + 1) y0 y1 y2 y3))
 | 0 => ⟨fun _ _ _ r h => by simp [spec_l2Prefix.l0] at h, fun _ _ _ _ r h => by simp [spec_l2Prefix.j1] at h⟩
 | k + 1 => by
  obtain ⟨ih0, ih1⟩ := spec_l2Prefix.mono_l k
  refine ⟨?_, ?_⟩
  ·intro y0 y1 y2
   unfold spec_l2Prefix.l0
   repeat' first
   | (with_reducible exact ih0 _ _ _)
   | (with_reducible exact ih1 _ _ _ _)
   | (with_reducible exact LeO.refl _)
   | (with_reducible exact LeO.none _)
   | (with_reducible refine LeO.ite ?_ ?_)
   | (with_reducible refine LeO.bind ?_ (fun _ => ?_))
   | exact ih0 _ _ _
   | exact ih1 _ _ _ _
   | exact LeO.none _
   | refine LeO.ite ?_ ?_
   | refine LeO.bind ?_ (fun _ => ?_)
  ·intro y0 y1 y2 y3
   unfold spec_l2Prefix.j1
   repeat' first
   | (with_reducible exact ih0 _ _ _)
   | (with_reducible exact ih1 _ _ _ _)
   | (with_reducible exact LeO.refl _)
   | (with_reducible exact LeO.none _)
   | (with_reducible refine LeO.ite ?_ ?_)
   | (with_reducible refine LeO.bind ?_ (fun _ => ?_))
   | exact ih0 _ _ _
   | exact ih1 _ _ _ _
   | exact LeO.none _
   | refine LeO.ite ?_ ?_
   | refine LeO.bind ?_ (fun _ => ?_)
theorem spec_l2Prefix.mono : ∀ a0 a1 k, LeO (spec_l2Prefix.f k a0 a1) (spec_l2Prefix.f (k + 1) a0 a1) := by
 intro a0 a1 k
 obtain ⟨ih0, ih1⟩ := spec_l2Prefix.mono_l k
 unfold spec_l2Prefix.f
 repeat' first
   | (with_reducible exact ih0 _ _ _)
   | (with_reducible exact ih1 _ _ _ _)
   | (with_reducible exact LeO.refl _)
   | (with_reducible exact LeO.none _)
   | (with_reducible refine LeO.ite ?_ ?_)
   | (with_reducible refine LeO.bind ?_ (fun _ => ?_))
   | exact ih0 _ _ _
   | exact ih1 _ _ _ _
   | exact LeO.none _
   | refine LeO.ite ?_ ?_
   | refine LeO.bind ?_ (fun _ => ?_)
set_option maxHeartbeats 8000000 in
set_option maxRecDepth 100000 in
theorem spec_l2Prefix.calls (k : Nat) (A0_0 : Option Addr) (c0_0 : Nat) (l0_0 : List (S67)) (a1 : Int) (r : ByteArray) (w : World) (hr0_0 : Kd.C k67 w A0_0 l0_0.length l0_0) (hc0_0 : l0_0.length ≤ c0_0) (h : spec_l2Prefix.f k l0_0 a1 = some r) :
  Calls Try.prog 62 #[.agg #[.slice A0_0 l0_0.length c0_0], .int .i64 a1] w fun e w' => e = .returned (.string r) ∧ Below w.heap.size w w' := by
 have hu30 := Try.underlying30; have hu67 := Try.underlying67; have HR0_0 := Aside0.mk hr0_0; have HC0_0 := Aside0.mk hc0_0; clear hr0_0 hc0_0; have HB := Aside0.mk (Below.refl w.heap.size w)
 have H : (spec_l2Prefix.l0 k a1 (⟨#[]⟩ : ByteArray) l0_0) = some r := h
 clear h
 have H' := Aside0.mk H
 clear H
 go_enter Try.func62, Try.ntmps62
 go_wp2_with (first | ((with_reducible refine gate_dst (N := 2) rfl ?_); (try (refine gate_guard (by rfl) ?_; dsimp only)); refine box_event ?hg (N := 2) ?hd (cs := #[.slice A0_0 l0_0.length c0_0]) (t := 30) ?hr ?_; (case hd => rfl); (case hg => rfl); (case hr => exact ax22); intro gb128 hg w3 hbox hb; have n0_ := Aside0.mk (below_step ax23 hb); have n1_ := Aside0.mk (hbox); have n2_ := Aside0.mk ((ax24 : w.heap.size ≤ gb128)); have n3_ := Aside0.mk ((ax24 : w.heap.size ≤ gb128)); clear HB; have HB := n0_; have BK128 := n1_; have GW128 := n2_; have GE128 := n3_; clear n0_ n1_ n2_ n3_; clear hb hbox hg))
 go_loopg [1, 5] k (fun kq v1 v5 w' => ∃ (x1_1 : Int) (x5_1 : ByteArray), v1 = .int .i64 x1_1 ∧ v5 = .string x5_1 ∧ Aside0 (spec_l2Prefix.l0 kq x1_1 x5_1 l0_0 = some r) ∧ Aside0 (kq ≤ k) ∧ Aside0 (w'.heap[gb128]? = some (.cells #[(.slice A0_0 l0_0.length c0_0)] 30 (0, 0))) ∧ Aside0 (Below w.heap.size w w'))
 case atStart => exact ⟨(a1), ((⟨#[]⟩ : ByteArray)), ax37, ax37, H', ⟨Nat.le_refl _⟩, ⟨by (with_reducible repeat (first | refine blk_drewN ?_ _ | refine blk_drew ?_ | refine blk_alloc ?_ _)); exact BK128.out⟩, ⟨by repeat (first | (with_reducible first | exact HB.out | apply below_alloc | apply pw_below_drewN | apply below_drew1 | refine below_set ?_ GE128.out) | exact HB.out)⟩⟩
 case round =>
  clear H'
  try clear p2
  obtain ⟨x1_1, x5_1, rfl, rfl, HA, HK1, BK128, HB⟩ := hrel
  cases gk with
  | zero => exact absurd HA.out (by simp [spec_l2Prefix.l0])
  | succ k1 =>
   have H := HA.out; clear HA
   simp only [spec_l2Prefix.l0] at H
   have HC4 := Aside0.mk H; clear H
   go_upto_region 2 with (fail)
   go_cut [13] (fun v13 wc => ∃ (kq : Nat) (x13_3 : Bool), v13 = .bool x13_3 ∧ Aside0 (spec_l2Prefix.j1 kq x1_1 x5_1 x13_3 l0_0 = some r) ∧ Aside0 (kq ≤ k1) ∧ Aside0 (wc.heap[gb128]? = some (.cells #[(.slice A0_0 l0_0.length c0_0)] 30 (0, 0))) ∧ Aside0 (Below w.heap.size w wc))
   case first =>
    have H := HC4.out; clear HC4
    by_cases c5 : x1_1 > 0
    ·rw [if_pos c5] at H
     have c5b0 : decide (0 < x1_1) = true := decide_eq_true c5
     clear c5
     (first | rw [c5b0] | (simp only [i64_w, i32_w]; rw [c5b0]) | skip)
     have H' := Aside0.mk H
     clear H
     go_wp2
     go_meet
     case rel => exact ⟨_, (decide ((x5_1.size : Int) ≤ 12)), ax37, H', ⟨by have := HK1.out; first | omega | exact Nat.le_refl _⟩, ⟨by (with_reducible repeat (first | refine blk_drewN ?_ _ | refine blk_drew ?_ | refine blk_alloc ?_ _)); exact BK128.out⟩, ⟨by repeat (first | (with_reducible first | exact HB.out | apply below_alloc | apply pw_below_drewN | apply below_drew1 | refine below_set ?_ GE128.out) | exact HB.out)⟩⟩
    ·rw [if_neg c5] at H
     have c5b0 : decide (0 < x1_1) = false := decide_eq_false c5
     clear c5
     (first | rw [c5b0] | (simp only [i64_w, i32_w]; rw [c5b0]) | skip)
     have H' := Aside0.mk H
     clear H
     go_wp2
     go_meet
     case rel => exact ⟨_, (false), ax37, H', ⟨by have := HK1.out; first | omega | exact Nat.le_refl _⟩, ⟨by (with_reducible repeat (first | refine blk_drewN ?_ _ | refine blk_drew ?_ | refine blk_alloc ?_ _)); exact BK128.out⟩, ⟨by repeat (first | (with_reducible first | exact HB.out | apply below_alloc | apply pw_below_drewN | apply below_drew1 | refine below_set ?_ GE128.out) | exact HB.out)⟩⟩
   case rest =>
    clear HC4
    try clear p2
    try clear c5
    try clear c5b0
    try clear p2
    obtain ⟨kq, x13_3, rfl, HA, HJ3, BK128, HB⟩ := hcut
    cases kq with
    | zero => exact absurd HA.out (by simp [spec_l2Prefix.j1])
    | succ kj3 =>
     have H := HA.out; clear HA
     simp only [spec_l2Prefix.j1] at H
     by_cases c6 : x13_3 = true
     ·subst c6
      have H1 : (if 0 ≤ x1_1 then (if x1_1 < (l0_0.length : Int) then ((spec_l1In.f ((rd_T67 l0_0 x1_1).f0) 0 25).bind fun t131 => (if t131 = true then (if ((rd_T67 l0_0 x1_1).f1) ≥ x1_1 then (some (⟨#[63]⟩ : ByteArray)) else ((some (([(wrap64 (97 + ((rd_T67 l0_0 x1_1).f0))) % 256] : List Int) : List Int)).bind fun y132 => (if (strOfNums y132).size + x5_1.size ≤ 9223372036854775807 then (spec_l2Prefix.l0 kj3 ((rd_T67 l0_0 x1_1).f1) ((strOfNums y132) ++ x5_1) l0_0) else (none)))) else (some (⟨#[63]⟩ : ByteArray)))) else (none)) else (none)) = some r := by rw [if_pos rfl] at H; exact H
      clear H; have H := H1; clear H1
      by_cases c7 : 0 ≤ x1_1
      ·rw [if_pos c7] at H
       have c7b0 : decide (0 ≤ x1_1) = true := decide_eq_true c7
       clear c7
       by_cases c8 : x1_1 < (l0_0.length : Int)
       ·rw [if_pos c8] at H
        have c8b0 : decide (x1_1 < (l0_0.length : Int)) = true := decide_eq_true c8
        clear c8; replace H := Option.bind_eq_some_iff.mp H
        obtain ⟨t131, A90, H⟩ := H
        replace H : (if t131 = true then (if ((rd_T67 l0_0 x1_1).f1) ≥ x1_1 then (some (⟨#[63]⟩ : ByteArray)) else ((some (([(wrap64 (97 + ((rd_T67 l0_0 x1_1).f0))) % 256] : List Int) : List Int)).bind fun y132 => (if (strOfNums y132).size + x5_1.size ≤ 9223372036854775807 then (spec_l2Prefix.l0 kj3 ((rd_T67 l0_0 x1_1).f1) ((strOfNums y132) ++ x5_1) l0_0) else (none)))) else (some (⟨#[63]⟩ : ByteArray))) = some r := H
        have A9 := Aside0.mk A90; clear A90
        by_cases c10 : t131 = true
        ·subst c10
         have H1 : (if ((rd_T67 l0_0 x1_1).f1) ≥ x1_1 then (some (⟨#[63]⟩ : ByteArray)) else ((some (([(wrap64 (97 + ((rd_T67 l0_0 x1_1).f0))) % 256] : List Int) : List Int)).bind fun y132 => (if (strOfNums y132).size + x5_1.size ≤ 9223372036854775807 then (spec_l2Prefix.l0 kj3 ((rd_T67 l0_0 x1_1).f1) ((strOfNums y132) ++ x5_1) l0_0) else (none)))) = some r := by rw [if_pos rfl] at H; exact H
         clear H; have H := H1; clear H1
         by_cases c11 : ((rd_T67 l0_0 x1_1).f1) ≥ x1_1
         ·rw [if_pos c11] at H
          have c11b0 : decide (x1_1 ≤ ((rd_T67 l0_0 x1_1).f1)) = true := decide_eq_true c11
          clear c11
          obtain rfl := Option.some.inj H
          have hcz12_0 : wc.cell? ⟨gb128, 0, none⟩ = some (.slice A0_0 l0_0.length c0_0) := (blk_cell BK128.out 0).trans rfl
          have hfz12_0 := blk_frozen BK128.out 0
          have p129 : 0 ≤ (x1_1 : Int) := of_decide_eq_true ax36
          have q129 : x1_1 < (l0_0.length : Int) := of_decide_eq_true ax36
          obtain ⟨ad129, e129, hx129_0, hx129_1, hx129_2⟩ := at_T67 HR0_0.out x1_1 p129 q129
          cases e129; replace hx129_0 := (HB.out.cell (World.block_lt_of_cell? w _ hx129_0)).trans hx129_0; replace hx129_1 := (HB.out.cell (World.block_lt_of_cell? w _ hx129_1)).trans hx129_1; replace hx129_2 := (HB.out.cell (World.block_lt_of_cell? w _ hx129_2)).trans hx129_2; replace p129 := eq_true p129; replace q129 := eq_true q129
          go_wp2_with (first | ((with_reducible refine gate_dst (N := 6) rfl ?_); (try (refine gate_guard (by rfl) ?_; dsimp only)); refine box_event ?hg (N := 6) ?hd (cs := #[.int .i64 0, .int .i64 0, .bool false]) (t := 67) ?hr ?_; (case hd => rfl); (case hg => rfl); (case hr => exact ax22); intro gb130 hg w13 hbox hb; have n0_ := Aside0.mk (blk_below (g := gb128) (o := .cells #[.slice (some ad129) l0_0.length c0_0] 30 (0, 0)) ax62 hb); have n1_ := Aside0.mk (below_step ax63 hb); have n2_ := Aside0.mk (hbox); have n3_ := Aside0.mk ((ax64 : w.heap.size ≤ gb130)); have n4_ := Aside0.mk ((ax64 : w.heap.size ≤ gb130)); have n5_ := Aside0.mk ((ax65 : gb128 ≠ gb130)); have n6_ := Aside0.mk ((ax66 : gb130 ≠ gb128)); clear BK128; clear HB; have BK128 := n0_; have HB := n1_; have BK130 := n2_; have GW130 := n3_; have GE130 := n4_; have NB128_130 := n5_; have NB130_128 := n6_; clear n0_ n1_ n2_ n3_ n4_ n5_ n6_; clear hb hbox hg; have hnb14 := NB130_128.out; have hnc14 := NB128_130.out; have hcz15_0 : w13.cell? ⟨gb130, 0, none⟩ = some (.int .i64 0) := (blk_cell BK130.out 0).trans rfl; have hcz15_1 : w13.cell? ⟨gb130, 1, none⟩ = some (.int .i64 0) := (blk_cell BK130.out 1).trans rfl; have hcz15_2 : w13.cell? ⟨gb130, 2, none⟩ = some (.bool false) := (blk_cell BK130.out 2).trans rfl; have hfz15_0 := blk_frozen BK130.out 0; have hfz15_1 := blk_frozen BK130.out 1; have hfz15_2 := blk_frozen BK130.out 2) | ((with_reducible refine gate_store (t := 67) (p := 6) rfl ?_); refine store_event (t := 67) (p := 6) (v := ?vo_w16) (w1 := (((w13.setCell ⟨gb130, 0, none⟩ (.int .i64 ((rd_T67 l0_0 x1_1).f0))).setCell ⟨gb130, 1, none⟩ (.int .i64 ((rd_T67 l0_0 x1_1).f1))).setCell ⟨gb130, 2, none⟩ (.bool ((rd_T67 l0_0 x1_1).f2)))) ?hg ?ho ?hn ?hr ?_; (case ho => rfl); (case hg => rfl); (case hn => rfl); (case hr => exact ax22); intro w16 hw; have n0_ : Aside0 (w16.heap[gb128]? = some (.cells #[.slice (some ad129) l0_0.length c0_0] 30 (0, 0))) := ⟨ax67⟩; have n1_ : Aside0 (w16.heap[gb130]? = some (.cells #[.int .i64 ((rd_T67 l0_0 x1_1).f0), .int .i64 ((rd_T67 l0_0 x1_1).f1), .bool ((rd_T67 l0_0 x1_1).f2)] 67 (0, 0))) := ⟨ax68⟩; have n2_ : Aside0 (Below w.heap.size w w16) := ⟨ax69⟩; clear hw; clear BK128; clear BK130; clear HB; have BK128 := n0_; have BK130 := n1_; have HB := n2_; clear n0_ n1_ n2_; have hcz17_0 : w16.cell? ⟨gb130, 0, none⟩ = some (.int .i64 ((rd_T67 l0_0 x1_1).f0)) := (blk_cell BK130.out 0).trans rfl; have hcz17_1 : w16.cell? ⟨gb130, 1, none⟩ = some (.int .i64 ((rd_T67 l0_0 x1_1).f1)) := (blk_cell BK130.out 1).trans rfl; have hcz17_2 : w16.cell? ⟨gb130, 2, none⟩ = some (.bool ((rd_T67 l0_0 x1_1).f2)) := (blk_cell BK130.out 2).trans rfl; have hfz17_0 := blk_frozen BK130.out 0; have hfz17_1 := blk_frozen BK130.out 1; have hfz17_2 := blk_frozen BK130.out 2) | ((with_reducible refine gate_callee (f := 77) rfl ?_); refine goesL_ (some 21) rfl rfl Try.func77 (by kernel_rfl) rfl #[.int .i64 ((rd_T67 l0_0 x1_1).f0), .int .i64 0, .int .i64 25] rfl ax25 ?_; (with_reducible refine (spec_l1In.calls ((rd_T67 l0_0 x1_1).f0) 0 25 true _ A9.out).mono ?_); rintro e w' ⟨rfl, ⟨nd, rfl⟩⟩; refine ⟨_, rfl, ?_⟩))
          go_ret
          exact ⟨by first | rfl | (simp [errW_none, errW_some] <;> rfl) | (simp [*, errW_none, errW_some] <;> rfl), by repeat (first | (with_reducible first | exact HB.out | apply below_alloc | apply pw_below_drewN | apply below_drew1 | refine below_set ?_ GE128.out | refine below_set ?_ GE130.out) | exact HB.out)⟩
         ·rw [if_neg c11] at H
          have c11b0 : decide (x1_1 ≤ ((rd_T67 l0_0 x1_1).f1)) = false := decide_eq_false c11
          clear c11
          obtain ⟨y132, hy132⟩ : ∃ y_ : List Int, y_ = (([(wrap64 (97 + ((rd_T67 l0_0 x1_1).f0))) % 256] : List Int)) := ⟨_, rfl⟩
          replace H : (if (strOfNums y132).size + x5_1.size ≤ 9223372036854775807 then (spec_l2Prefix.l0 kj3 ((rd_T67 l0_0 x1_1).f1) ((strOfNums y132) ++ x5_1) l0_0) else (none)) = some r := by first | (rw [hy132]; with_reducible exact H) | (have H2_ := (Option.bind_some _ _).symm.trans H; rw [hy132]; with_reducible exact H2_) | (have H2_ := (Option.bind_some _ _).symm.trans H; with_reducible exact H2_) | with_reducible exact H | (rw [hy132]; exact H) | exact H
          have Ny132 := Aside0.mk hy132; clear hy132
          by_cases c18 : (strOfNums y132).size + x5_1.size ≤ 9223372036854775807
          ·rw [if_pos c18] at H
           have c18b0 := eq_true c18
           have c18b1 : decide ((strOfNums y132).size + x5_1.size ≤ 9223372036854775807) = true := decide_eq_true c18
           try have c18b2 : (9223372036854775807 < (strOfNums y132).size + x5_1.size) = False := eq_false (Nat.not_lt.2 c18)
           clear c18
           obtain ⟨js19, hjs19⟩ : ∃ j_ : ByteArray, ((strOfNums y132) ++ x5_1) = j_ := ⟨_, rfl⟩
           replace H : (spec_l2Prefix.l0 kj3 ((rd_T67 l0_0 x1_1).f1) js19 l0_0) = some r := by first | (rw [hjs19] at H; exact H) | (simp only [hjs19] at H ⊢; exact H)
           have H' := Aside0.mk H
           clear H
           have hcz20_0 : wc.cell? ⟨gb128, 0, none⟩ = some (.slice A0_0 l0_0.length c0_0) := (blk_cell BK128.out 0).trans rfl
           have hfz20_0 := blk_frozen BK128.out 0
           have p129 : 0 ≤ (x1_1 : Int) := of_decide_eq_true ax36
           have q129 : x1_1 < (l0_0.length : Int) := of_decide_eq_true ax36
           obtain ⟨ad129, e129, hx129_0, hx129_1, hx129_2⟩ := at_T67 HR0_0.out x1_1 p129 q129
           cases e129; replace hx129_0 := (HB.out.cell (World.block_lt_of_cell? w _ hx129_0)).trans hx129_0; replace hx129_1 := (HB.out.cell (World.block_lt_of_cell? w _ hx129_1)).trans hx129_1; replace hx129_2 := (HB.out.cell (World.block_lt_of_cell? w _ hx129_2)).trans hx129_2; replace p129 := eq_true p129; replace q129 := eq_true q129
           go_wp2_with (first | ((with_reducible refine gate_dst (N := 6) rfl ?_); (try (refine gate_guard (by rfl) ?_; dsimp only)); refine box_event ?hg (N := 6) ?hd (cs := #[.int .i64 0, .int .i64 0, .bool false]) (t := 67) ?hr ?_; (case hd => rfl); (case hg => rfl); (case hr => exact ax22); intro gb130 hg w21 hbox hb; have n0_ := Aside0.mk (blk_below (g := gb128) (o := .cells #[.slice (some ad129) l0_0.length c0_0] 30 (0, 0)) ax62 hb); have n1_ := Aside0.mk (below_step ax63 hb); have n2_ := Aside0.mk (hbox); have n3_ := Aside0.mk ((ax64 : w.heap.size ≤ gb130)); have n4_ := Aside0.mk ((ax64 : w.heap.size ≤ gb130)); have n5_ := Aside0.mk ((ax65 : gb128 ≠ gb130)); have n6_ := Aside0.mk ((ax66 : gb130 ≠ gb128)); clear BK128; clear HB; have BK128 := n0_; have HB := n1_; have BK130 := n2_; have GW130 := n3_; have GE130 := n4_; have NB128_130 := n5_; have NB130_128 := n6_; clear n0_ n1_ n2_ n3_ n4_ n5_ n6_; clear hb hbox hg; have hnb22 := NB130_128.out; have hnc22 := NB128_130.out; have hcz23_0 : w21.cell? ⟨gb130, 0, none⟩ = some (.int .i64 0) := (blk_cell BK130.out 0).trans rfl; have hcz23_1 : w21.cell? ⟨gb130, 1, none⟩ = some (.int .i64 0) := (blk_cell BK130.out 1).trans rfl; have hcz23_2 : w21.cell? ⟨gb130, 2, none⟩ = some (.bool false) := (blk_cell BK130.out 2).trans rfl; have hfz23_0 := blk_frozen BK130.out 0; have hfz23_1 := blk_frozen BK130.out 1; have hfz23_2 := blk_frozen BK130.out 2) | ((with_reducible refine gate_store (t := 67) (p := 6) rfl ?_); refine store_event (t := 67) (p := 6) (v := ?vo_w24) (w1 := (((w21.setCell ⟨gb130, 0, none⟩ (.int .i64 ((rd_T67 l0_0 x1_1).f0))).setCell ⟨gb130, 1, none⟩ (.int .i64 ((rd_T67 l0_0 x1_1).f1))).setCell ⟨gb130, 2, none⟩ (.bool ((rd_T67 l0_0 x1_1).f2)))) ?hg ?ho ?hn ?hr ?_; (case ho => rfl); (case hg => rfl); (case hn => rfl); (case hr => exact ax22); intro w24 hw; have n0_ : Aside0 (w24.heap[gb128]? = some (.cells #[.slice (some ad129) l0_0.length c0_0] 30 (0, 0))) := ⟨ax67⟩; have n1_ : Aside0 (w24.heap[gb130]? = some (.cells #[.int .i64 ((rd_T67 l0_0 x1_1).f0), .int .i64 ((rd_T67 l0_0 x1_1).f1), .bool ((rd_T67 l0_0 x1_1).f2)] 67 (0, 0))) := ⟨ax68⟩; have n2_ : Aside0 (Below w.heap.size w w24) := ⟨ax69⟩; clear hw; clear BK128; clear BK130; clear HB; have BK128 := n0_; have BK130 := n1_; have HB := n2_; clear n0_ n1_ n2_; have hcz25_0 : w24.cell? ⟨gb130, 0, none⟩ = some (.int .i64 ((rd_T67 l0_0 x1_1).f0)) := (blk_cell BK130.out 0).trans rfl; have hcz25_1 : w24.cell? ⟨gb130, 1, none⟩ = some (.int .i64 ((rd_T67 l0_0 x1_1).f1)) := (blk_cell BK130.out 1).trans rfl; have hcz25_2 : w24.cell? ⟨gb130, 2, none⟩ = some (.bool ((rd_T67 l0_0 x1_1).f2)) := (blk_cell BK130.out 2).trans rfl; have hfz25_0 := blk_frozen BK130.out 0; have hfz25_1 := blk_frozen BK130.out 1; have hfz25_2 := blk_frozen BK130.out 2) | ((with_reducible refine gate_callee (f := 77) rfl ?_); refine goesL_ (some 21) rfl rfl Try.func77 (by kernel_rfl) rfl #[.int .i64 ((rd_T67 l0_0 x1_1).f0), .int .i64 0, .int .i64 25] rfl ax25 ?_; (with_reducible refine (spec_l1In.calls ((rd_T67 l0_0 x1_1).f0) 0 25 true _ A9.out).mono ?_); rintro e w' ⟨rfl, ⟨nd, rfl⟩⟩; refine ⟨_, rfl, ?_⟩) | ((with_reducible refine gate_dst (N := 33) rfl ?_); (try (refine gate_guard (by rfl) ?_; dsimp only)); refine Kd.R_lit (Kd.int .u8) _ 5 ?hg (N := 33) ?hd (xs := ([(wrap64 (97 + ((rd_T67 l0_0 x1_1).f0))) % 256] : List Int)) (inner := [.int .u8 ((wrap64 (97 + ((rd_T67 l0_0 x1_1).f0))) % 256)]) (ok := fun _ => True) (okp := fun _ => True) ?hr ?hp (fun _ hk => hk) trivial (Below.refl _ _) (Nat.le_refl _) (by simp) ?_; (case hd => rfl); (case hg => rfl); (case hr => exact ax22); (case hp => exact (Reps.one (show Kd.M (Kd.int .u8) _ _ _ ((wrap64 (97 + ((rd_T67 l0_0 x1_1).f0))) % 256) [.int .u8 ((wrap64 (97 + ((rd_T67 l0_0 x1_1).f0))) % 256)] from rfl) (Reps.none _ _))); intro v133 w26 ho27 hb hg_ hnew_; clear hg_ hnew_; (first | rw [← Ny132.out] at ho27 | (simp only [Int.reduceToNat] at ho27; rw [← Ny132.out] at ho27)); have n0_ := Aside0.mk (Kd.R_lower ho27 (below_size ax70)); have n1_ := Aside0.mk (blk_below (g := gb128) (o := .cells #[.slice (some ad129) l0_0.length c0_0] 30 (0, 0)) ax62 hb); have n2_ := Aside0.mk (blk_below (g := gb130) (o := .cells #[.int .i64 ((rd_T67 l0_0 x1_1).f0), .int .i64 ((rd_T67 l0_0 x1_1).f1), .bool ((rd_T67 l0_0 x1_1).f2)] 67 (0, 0)) (by (with_reducible repeat (first | refine blk_drewN ?_ _ | refine blk_drew ?_ | refine blk_alloc ?_ _)); exact BK130.out) hb); have n3_ := Aside0.mk (below_step ax70 hb); clear BK128; clear BK130; clear HB; have HO134 := n0_; have BK128 := n1_; have BK130 := n2_; have HB := n3_; clear n0_ n1_ n2_ n3_; clear hb ho27; have hcv28 := own_string (P := Try.prog) Try.underlying84 Try.underlying5 Try.underlying9 (Kd.own_of_R HO134.out); have hcz29_0 : w26.cell? ⟨gb130, 0, none⟩ = some (.int .i64 ((rd_T67 l0_0 x1_1).f0)) := (blk_cell BK130.out 0).trans rfl; have hcz29_1 : w26.cell? ⟨gb130, 1, none⟩ = some (.int .i64 ((rd_T67 l0_0 x1_1).f1)) := (blk_cell BK130.out 1).trans rfl; have hcz29_2 : w26.cell? ⟨gb130, 2, none⟩ = some (.bool ((rd_T67 l0_0 x1_1).f2)) := (blk_cell BK130.out 2).trans rfl; have hfz29_0 := blk_frozen BK130.out 0; have hfz29_1 := blk_frozen BK130.out 1; have hfz29_2 := blk_frozen BK130.out 2))
           go_roundg kj3
           case measure => have := HK1.out; have := HJ3.out; omega
           case rel => exact ⟨((rd_T67 l0_0 x1_1).f1), (js19), ax37, (by first | rfl | (simp; done) | (simp only [← hjs19] <;> (first | rfl | simp)) | (simp [*]; done)), H', ⟨by have := HK1.out; have := HJ3.out; omega⟩, ⟨by (with_reducible repeat (first | refine blk_drewN ?_ _ | refine blk_drew ?_ | refine blk_alloc ?_ _)); exact BK128.out⟩, ⟨by repeat (first | (with_reducible first | exact HB.out | apply below_alloc | apply pw_below_drewN | apply below_drew1 | refine below_set ?_ GE128.out | refine below_set ?_ GE130.out) | exact HB.out)⟩⟩
          ·rw [if_neg c18] at H
           exact absurd H (by simp)
        ·replace c10 := Bool.eq_false_iff.mpr c10
         subst c10
         have H1 : (some (⟨#[63]⟩ : ByteArray)) = some r := by rw [if_neg (show ¬ (false = true) by decide)] at H; exact H
         clear H; have H := H1; clear H1
         obtain rfl := Option.some.inj H
         have hcz30_0 : wc.cell? ⟨gb128, 0, none⟩ = some (.slice A0_0 l0_0.length c0_0) := (blk_cell BK128.out 0).trans rfl
         have hfz30_0 := blk_frozen BK128.out 0
         have p129 : 0 ≤ (x1_1 : Int) := of_decide_eq_true ax36
         have q129 : x1_1 < (l0_0.length : Int) := of_decide_eq_true ax36
         obtain ⟨ad129, e129, hx129_0, hx129_1, hx129_2⟩ := at_T67 HR0_0.out x1_1 p129 q129
         cases e129; replace hx129_0 := (HB.out.cell (World.block_lt_of_cell? w _ hx129_0)).trans hx129_0; replace hx129_1 := (HB.out.cell (World.block_lt_of_cell? w _ hx129_1)).trans hx129_1; replace hx129_2 := (HB.out.cell (World.block_lt_of_cell? w _ hx129_2)).trans hx129_2; replace p129 := eq_true p129; replace q129 := eq_true q129
         go_wp2_with (first | ((with_reducible refine gate_dst (N := 6) rfl ?_); (try (refine gate_guard (by rfl) ?_; dsimp only)); refine box_event ?hg (N := 6) ?hd (cs := #[.int .i64 0, .int .i64 0, .bool false]) (t := 67) ?hr ?_; (case hd => rfl); (case hg => rfl); (case hr => exact ax22); intro gb130 hg w31 hbox hb; have n0_ := Aside0.mk (blk_below (g := gb128) (o := .cells #[.slice (some ad129) l0_0.length c0_0] 30 (0, 0)) ax62 hb); have n1_ := Aside0.mk (below_step ax63 hb); have n2_ := Aside0.mk (hbox); have n3_ := Aside0.mk ((ax64 : w.heap.size ≤ gb130)); have n4_ := Aside0.mk ((ax64 : w.heap.size ≤ gb130)); have n5_ := Aside0.mk ((ax65 : gb128 ≠ gb130)); have n6_ := Aside0.mk ((ax66 : gb130 ≠ gb128)); clear BK128; clear HB; have BK128 := n0_; have HB := n1_; have BK130 := n2_; have GW130 := n3_; have GE130 := n4_; have NB128_130 := n5_; have NB130_128 := n6_; clear n0_ n1_ n2_ n3_ n4_ n5_ n6_; clear hb hbox hg; have hnb32 := NB130_128.out; have hnc32 := NB128_130.out; have hcz33_0 : w31.cell? ⟨gb130, 0, none⟩ = some (.int .i64 0) := (blk_cell BK130.out 0).trans rfl; have hcz33_1 : w31.cell? ⟨gb130, 1, none⟩ = some (.int .i64 0) := (blk_cell BK130.out 1).trans rfl; have hcz33_2 : w31.cell? ⟨gb130, 2, none⟩ = some (.bool false) := (blk_cell BK130.out 2).trans rfl; have hfz33_0 := blk_frozen BK130.out 0; have hfz33_1 := blk_frozen BK130.out 1; have hfz33_2 := blk_frozen BK130.out 2) | ((with_reducible refine gate_store (t := 67) (p := 6) rfl ?_); refine store_event (t := 67) (p := 6) (v := ?vo_w34) (w1 := (((w31.setCell ⟨gb130, 0, none⟩ (.int .i64 ((rd_T67 l0_0 x1_1).f0))).setCell ⟨gb130, 1, none⟩ (.int .i64 ((rd_T67 l0_0 x1_1).f1))).setCell ⟨gb130, 2, none⟩ (.bool ((rd_T67 l0_0 x1_1).f2)))) ?hg ?ho ?hn ?hr ?_; (case ho => rfl); (case hg => rfl); (case hn => rfl); (case hr => exact ax22); intro w34 hw; have n0_ : Aside0 (w34.heap[gb128]? = some (.cells #[.slice (some ad129) l0_0.length c0_0] 30 (0, 0))) := ⟨ax67⟩; have n1_ : Aside0 (w34.heap[gb130]? = some (.cells #[.int .i64 ((rd_T67 l0_0 x1_1).f0), .int .i64 ((rd_T67 l0_0 x1_1).f1), .bool ((rd_T67 l0_0 x1_1).f2)] 67 (0, 0))) := ⟨ax68⟩; have n2_ : Aside0 (Below w.heap.size w w34) := ⟨ax69⟩; clear hw; clear BK128; clear BK130; clear HB; have BK128 := n0_; have BK130 := n1_; have HB := n2_; clear n0_ n1_ n2_; have hcz35_0 : w34.cell? ⟨gb130, 0, none⟩ = some (.int .i64 ((rd_T67 l0_0 x1_1).f0)) := (blk_cell BK130.out 0).trans rfl; have hcz35_1 : w34.cell? ⟨gb130, 1, none⟩ = some (.int .i64 ((rd_T67 l0_0 x1_1).f1)) := (blk_cell BK130.out 1).trans rfl; have hcz35_2 : w34.cell? ⟨gb130, 2, none⟩ = some (.bool ((rd_T67 l0_0 x1_1).f2)) := (blk_cell BK130.out 2).trans rfl; have hfz35_0 := blk_frozen BK130.out 0; have hfz35_1 := blk_frozen BK130.out 1; have hfz35_2 := blk_frozen BK130.out 2) | ((with_reducible refine gate_callee (f := 77) rfl ?_); refine goesL_ (some 21) rfl rfl Try.func77 (by kernel_rfl) rfl #[.int .i64 ((rd_T67 l0_0 x1_1).f0), .int .i64 0, .int .i64 25] rfl ax25 ?_; (with_reducible refine (spec_l1In.calls ((rd_T67 l0_0 x1_1).f0) 0 25 false _ A9.out).mono ?_); rintro e w' ⟨rfl, ⟨nd, rfl⟩⟩; refine ⟨_, rfl, ?_⟩))
         go_ret
         exact ⟨by first | rfl | (simp [errW_none, errW_some] <;> rfl) | (simp [*, errW_none, errW_some] <;> rfl), by repeat (first | (with_reducible first | exact HB.out | apply below_alloc | apply pw_below_drewN | apply below_drew1 | refine below_set ?_ GE128.out | refine below_set ?_ GE130.out) | exact HB.out)⟩
       ·rw [if_neg c8] at H
        exact absurd H (by simp)
      ·exact ax2
     ·replace c6 := Bool.eq_false_iff.mpr c6
      subst c6
      have H1 : (if x1_1 = 0 then (some x5_1) else (some (⟨#[63]⟩ : ByteArray))) = some r := by rw [if_neg (show ¬ (false = true) by decide)] at H; exact H
      clear H; have H := H1; clear H1
      by_cases c36 : x1_1 = 0
      ·rw [if_pos c36] at H
       have c36b0 : (x1_1 == 0) = true := beq_iff_eq.mpr c36
       have c36b1 : (x1_1 != 0) = false := bne_eq_false_iff_eq.mpr c36
       clear c36
       obtain rfl := Option.some.inj H
       go_wp2
       go_ret
       exact ⟨by first | rfl | (simp [errW_none, errW_some] <;> rfl) | (simp [*, errW_none, errW_some] <;> rfl), by repeat (first | (with_reducible first | exact HB.out | apply below_alloc | apply pw_below_drewN | apply below_drew1 | refine below_set ?_ GE128.out) | exact HB.out)⟩
      ·rw [if_neg c36] at H
       have c36b0 : (x1_1 == 0) = false := beq_eq_false_iff_ne.mpr c36
       have c36b1 : (x1_1 != 0) = true := bne_iff_ne.mpr c36
       obtain rfl := Option.some.inj H
       go_wp2
       go_ret
       exact ⟨by first | rfl | (simp [errW_none, errW_some] <;> rfl) | (simp [*, errW_none, errW_some] <;> rfl), by repeat (first | (with_reducible first | exact HB.out | apply below_alloc | apply pw_below_drewN | apply below_drew1 | refine below_set ?_ GE128.out) | exact HB.out)⟩

/-! ### spec_l2Words: function 68 -/
def spec_l2Words.l0 : Nat → List ByteArray → Int → List (S67) → Option (List ByteArray)
 | 0, _, _, _ => none
 | k + 1, x3, x4, x136000 => if x4 < (x136000.length : Int) then (if 0 ≤ x4 then (if (rd_T67 x136000 x4).f2 = true then ((spec_l2Prefix.f k x136000 x4).bind fun t140 => (if x3.length < 8796093022208 then (spec_l2Words.l0 k (x3 ++ [t140]) (wrap64 (x4 + 1)) x136000) else (none))) else (spec_l2Words.l0 k x3 (wrap64 (x4 + 1)) x136000)) else (none)) else (some x3)
def spec_l2Words.f (k : Nat) (l0_0 : List (S67)) : Option (List ByteArray) := spec_l2Words.l0 k (([] : List ByteArray)) 0 l0_0
theorem spec_l2Words.mono_l : ∀ k, (∀ y0 y1 y2, LeO (spec_l2Words.l0 k y0 y1 y2) (spec_l2Words.l0 (k + 1) y0 y1 y2))
 | 0 => fun _ _ _ r h => by simp [spec_l2Words.l0] at h
 | k + 1 => by
  have ih0 := spec_l2Words.mono_l k
  ·intro y0 y1 y2
   unfold spec_l2Words.l0
   repeat' first
   | (with_reducible exact ih0 _ _ _)
   | (with_reducible exact spec_l2Prefix.mono _ _ _)
   | (with_reducible exact LeO.refl _)
   | (with_reducible exact LeO.none _)
   | (with_reducible refine LeO.ite ?_ ?_)
   | (with_reducible refine LeO.bind ?_ (fun _ => ?_))
   | exact ih0 _ _ _
   | exact spec_l2Prefix.mono _ _ _
   | exact LeO.none _
   | refine LeO.ite ?_ ?_
   | refine LeO.bind ?_ (fun _ => ?_)
theorem spec_l2Words.mono : ∀ a0 k, LeO (spec_l2Words.f k a0) (spec_l2Words.f (k + 1) a0) := by
 intro a0 k
 have ih0 := spec_l2Words.mono_l k
 unfold spec_l2Words.f
 repeat' first
   | (with_reducible exact ih0 _ _ _)
   | (with_reducible exact spec_l2Prefix.mono _ _ _)
   | (with_reducible exact LeO.refl _)
   | (with_reducible exact LeO.none _)
   | (with_reducible refine LeO.ite ?_ ?_)
   | (with_reducible refine LeO.bind ?_ (fun _ => ?_))
   | exact ih0 _ _ _
   | exact spec_l2Prefix.mono _ _ _
   | exact LeO.none _
   | refine LeO.ite ?_ ?_
   | refine LeO.bind ?_ (fun _ => ?_)
set_option maxHeartbeats 8000000 in
set_option maxRecDepth 100000 in
theorem spec_l2Words.calls (k : Nat) (A0_0 : Option Addr) (c0_0 : Nat) (l0_0 : List (S67)) (r : List ByteArray) (w : World) (hr0_0 : Kd.C k67 w A0_0 l0_0.length l0_0) (hc0_0 : l0_0.length ≤ c0_0) (h : spec_l2Words.f k l0_0 = some r) :
  Calls Try.prog 68 #[.agg #[.slice A0_0 l0_0.length c0_0]] w fun e w' => ∃ v0_ : Value, e = .returned (v0_) ∧ Kd.R Kd.string 9 w' w.heap.size (fun _ => True) v0_ r ∧ Below w.heap.size w w' := by
 have hu30 := Try.underlying30; have HR0_0 := Aside0.mk hr0_0; have HC0_0 := Aside0.mk hc0_0; clear hr0_0 hc0_0; have HB := Aside0.mk (Below.refl w.heap.size w)
 have H : (spec_l2Words.l0 k (([] : List ByteArray)) 0 l0_0) = some r := h
 clear h
 obtain ⟨y136, hy136⟩ : ∃ y_ : List ByteArray, y_ = (([] : List ByteArray)) := ⟨_, rfl⟩
 replace H : (spec_l2Words.l0 k y136 0 l0_0) = some r := by first | (rw [hy136]; with_reducible exact H) | (have H2_ := (Option.bind_some _ _).symm.trans H; rw [hy136]; with_reducible exact H2_) | (have H2_ := (Option.bind_some _ _).symm.trans H; with_reducible exact H2_) | with_reducible exact H | (rw [hy136]; exact H) | exact H
 have Ny136 := Aside0.mk hy136; clear hy136
 have H' := Aside0.mk H
 clear H
 go_enter Try.func68, Try.ntmps68
 go_wp2_with (first | ((with_reducible refine gate_dst (N := 1) rfl ?_); refine box_event ?hg (N := 1) ?hd (cs := #[.slice A0_0 l0_0.length c0_0]) (t := 30) ?hr ?_; (case hd => rfl); (case hg => rfl); (case hr => exact ax22); intro gb135 hg w2 hbox hb; have n0_ := Aside0.mk (below_step ax23 hb); have n1_ := Aside0.mk (hbox); have n2_ := Aside0.mk ((ax24 : w.heap.size ≤ gb135)); have n3_ := Aside0.mk ((ax24 : w.heap.size ≤ gb135)); clear HB; have HB := n0_; have BK135 := n1_; have GW135 := n2_; have GE135 := n3_; clear n0_ n1_ n2_ n3_; clear hb hbox hg) | ((with_reducible refine gate_dst (N := 5) rfl ?_); refine Kd.R_lit Kd.string _ 9 ?hg (N := 5) ?hd (xs := ([] : List ByteArray)) (inner := []) (ok := fun _ => True) (okp := fun _ => True) ?hr ?hp (fun _ hk => hk) trivial (Below.refl _ _) (Nat.le_refl _) (by simp) ?_; (case hd => rfl); (case hg => rfl); (case hr => exact ax22); (case hp => exact ax71); intro v137 w3 ho4 hb hg_ hnew_; clear hg_ hnew_; (first | rw [← Ny136.out] at ho4 | (simp only [Int.reduceToNat] at ho4; rw [← Ny136.out] at ho4)); have n0_ := Aside0.mk (Kd.R_lower ho4 (below_size ax72)); have n1_ := Aside0.mk (blk_below (g := gb135) (o := .cells #[.slice A0_0 l0_0.length c0_0] 30 (0, 0)) ax73 hb); have n2_ := Aside0.mk (below_step ax72 hb); clear BK135; clear HB; have HO138 := n0_; have BK135 := n1_; have HB := n2_; clear n0_ n1_ n2_; clear hb ho4))
 go_loopg [3, 4] k (fun kq v3 v4 w' => ∃ (x3_1 : List ByteArray) (x4_1 : Int), v4 = .int .i64 x4_1 ∧ Aside0 (spec_l2Words.l0 kq x3_1 x4_1 l0_0 = some r) ∧ Aside0 (kq ≤ k) ∧ Aside0 (Kd.R Kd.string 9 w' w.heap.size (fun _ => True) v3 x3_1) ∧ Aside0 (w'.heap[gb135]? = some (.cells #[(.slice A0_0 l0_0.length c0_0)] 30 (0, 0))) ∧ Aside0 (Below w.heap.size w w'))
 case atStart => exact ⟨(y136), (0), ax37, H', ⟨Nat.le_refl _⟩, ⟨by (with_reducible repeat (first | apply Kd.R_alloc | apply Kd.R_drewN | apply Kd.R_drew)); exact HO138.out⟩, ⟨by (with_reducible repeat (first | refine blk_drewN ?_ _ | refine blk_drew ?_ | refine blk_alloc ?_ _)); exact BK135.out⟩, ⟨by repeat (first | (with_reducible first | exact HB.out | apply below_alloc | apply pw_below_drewN | apply below_drew1 | refine below_set ?_ GE135.out) | exact HB.out)⟩⟩
 case round =>
  clear H'
  try clear p2
  obtain ⟨x3_1, x4_1, rfl, HA, HK1, HO_3, BK135, HB⟩ := hrel
  cases gk with
  | zero => exact absurd HA.out (by simp [spec_l2Words.l0])
  | succ k1 =>
   have H := HA.out; clear HA
   simp only [spec_l2Words.l0] at H
   by_cases c5 : x4_1 < (l0_0.length : Int)
   ·rw [if_pos c5] at H
    have c5b0 : decide (x4_1 < (l0_0.length : Int)) = true := decide_eq_true c5
    clear c5
    by_cases c6 : 0 ≤ x4_1
    ·rw [if_pos c6] at H
     have c6b0 : decide (0 ≤ x4_1) = true := decide_eq_true c6
     clear c6
     obtain ⟨bq7, hbq7⟩ : ∃ b_ : Bool, b_ = ((rd_T67 l0_0 x4_1).f2) := ⟨_, rfl⟩
     replace H : (if bq7 = true then ((spec_l2Prefix.f k1 l0_0 x4_1).bind fun t140 => (if x3_1.length < 8796093022208 then (spec_l2Words.l0 k1 (x3_1 ++ [t140]) (wrap64 (x4_1 + 1)) l0_0) else (none))) else (spec_l2Words.l0 k1 x3_1 (wrap64 (x4_1 + 1)) l0_0)) = some r := by rw [← hbq7] at H; exact H
     have Nbq7 := Aside0.mk hbq7; clear hbq7
     by_cases c8 : bq7 = true
     ·subst c8
      have H1 : ((spec_l2Prefix.f k1 l0_0 x4_1).bind fun t140 => (if x3_1.length < 8796093022208 then (spec_l2Words.l0 k1 (x3_1 ++ [t140]) (wrap64 (x4_1 + 1)) l0_0) else (none))) = some r := by rw [if_pos rfl] at H; exact H
      clear H; have H := H1; clear H1; replace H := Option.bind_eq_some_iff.mp H
      obtain ⟨t140, A90, H⟩ := H
      replace H : (if x3_1.length < 8796093022208 then (spec_l2Words.l0 k1 (x3_1 ++ [t140]) (wrap64 (x4_1 + 1)) l0_0) else (none)) = some r := H
      have A9 := Aside0.mk A90; clear A90
      by_cases c10 : x3_1.length < 8796093022208
      ·rw [if_pos c10] at H
       have LMc10 := Aside0.mk c10; clear c10
       obtain ⟨y141, hy141⟩ : ∃ y_ : List ByteArray, y_ = (x3_1 ++ [t140]) := ⟨_, rfl⟩
       replace H : (spec_l2Words.l0 k1 y141 (wrap64 (x4_1 + 1)) l0_0) = some r := by first | (rw [hy141]; with_reducible exact H) | (have H2_ := (Option.bind_some _ _).symm.trans H; rw [hy141]; with_reducible exact H2_) | (have H2_ := (Option.bind_some _ _).symm.trans H; with_reducible exact H2_) | with_reducible exact H | (rw [hy141]; exact H) | exact H
       have Ny141 := Aside0.mk hy141; clear hy141
       have H' := Aside0.mk H
       clear H
       have hcz11_0 : wr.cell? ⟨gb135, 0, none⟩ = some (.slice A0_0 l0_0.length c0_0) := (blk_cell BK135.out 0).trans rfl
       have hfz11_0 := blk_frozen BK135.out 0
       have p139 : 0 ≤ (x4_1 : Int) := of_decide_eq_true ax36
       have q139 : x4_1 < (l0_0.length : Int) := of_decide_eq_true ax36
       obtain ⟨ad139, e139, hx139_0, hx139_1, hx139_2⟩ := at_T67 HR0_0.out x4_1 p139 q139
       (try rw [← Nbq7.out] at hx139_2)
       cases e139; replace hx139_0 := (HB.out.cell (World.block_lt_of_cell? w _ hx139_0)).trans hx139_0; replace hx139_1 := (HB.out.cell (World.block_lt_of_cell? w _ hx139_1)).trans hx139_1; replace hx139_2 := (HB.out.cell (World.block_lt_of_cell? w _ hx139_2)).trans hx139_2; replace p139 := eq_true p139; replace q139 := eq_true q139
       go_wp2_with (first | ((with_reducible refine gate_callee (f := 62) rfl ?_); refine goesL_ (some 22) rfl rfl Try.func62 (by kernel_rfl) rfl #[.agg #[.slice (some ad139) l0_0.length c0_0], .int .i64 x4_1] rfl ax25 ?_; (with_reducible refine (spec_l2Prefix.calls k1 _ _ l0_0 x4_1 t140 _ ?side1 ?side2 A9.out).mono ?_); (case side1 => exact ax26); (case side2 => exact ax27); rintro e w12 ⟨rfl, hb⟩; refine ⟨_, rfl, ?_⟩; have n0_ := Aside0.mk (Kd.R_below ax38 hb); have n1_ := Aside0.mk (blk_below (g := gb135) (o := .cells #[.slice (some ad139) l0_0.length c0_0] 30 (0, 0)) ax73 hb); have n2_ := Aside0.mk (below_step ax72 hb); clear HO_3; clear BK135; clear HB; have HO_3 := n0_; have BK135 := n1_; have HB := n2_; clear n0_ n1_ n2_; (try clear hb); (try clear hb2); (try clear hk); (try clear hi)) | ((with_reducible refine gate_builtin (b := .append) (xs := #[.tmp 19, .tmp 23]) rfl ?_); at_builtin; refine Kd.R_append Kd.string (w0 := w) w.heap.size rfl (.tmp 19) (.tmp 23) 40 9 (.string ⟨#[]⟩) 16 rfl Try.underlying40 info9 rfl (by decide) (by omega) u3 x3_1 t140 [.string t140] (fun _ => True) (fun _ => False) rfl rfl ?aP (fun _ hk => hk.elim) ?aF ?aO ?aB ?aS ?aL ?_; (case aP => exact rfl); (case aB => exact ax72); (case aF => exact ax74); (case aO => exact ax75); (case aS => exact (below_size ax72)); (case aL => have := LMc10.out; omega); intro v142 w13 ho hb hg hat; rw [← Ny141.out] at ho; have n0_ := Aside0.mk (blk_grown (g := gb135) (o := .cells #[.slice (some ad139) l0_0.length c0_0] 30 (0, 0)) ax73 hg (Kd.R_ne HO_3.out BK135.out (by decide))); have n1_ := Aside0.mk (hb); have n2_ := Aside0.mk (ho); clear BK135; clear HB; clear HO_3; have BK135 := n0_; have HB := n1_; have HO143 := n2_; clear n0_ n1_ n2_; clear ho hb hg hat))
       go_roundg k1
       case measure => have := HK1.out; omega
       case rel => exact ⟨(y141), (wrap64 (x4_1 + 1)), ax37, H', ⟨by have := HK1.out; omega⟩, ⟨by (with_reducible repeat (first | apply Kd.R_alloc | apply Kd.R_drewN | apply Kd.R_drew)); exact HO143.out⟩, ⟨by (with_reducible repeat (first | refine blk_drewN ?_ _ | refine blk_drew ?_ | refine blk_alloc ?_ _)); exact BK135.out⟩, ⟨by repeat (first | (with_reducible first | exact HB.out | apply below_alloc | apply pw_below_drewN | apply below_drew1 | refine below_set ?_ GE135.out) | exact HB.out)⟩⟩
      ·exact ax8
     ·replace c8 := Bool.eq_false_iff.mpr c8
      subst c8
      have H1 : (spec_l2Words.l0 k1 x3_1 (wrap64 (x4_1 + 1)) l0_0) = some r := by rw [if_neg (show ¬ (false = true) by decide)] at H; exact H
      clear H; have H := H1; clear H1
      have H' := Aside0.mk H
      clear H
      have hcz14_0 : wr.cell? ⟨gb135, 0, none⟩ = some (.slice A0_0 l0_0.length c0_0) := (blk_cell BK135.out 0).trans rfl
      have hfz14_0 := blk_frozen BK135.out 0
      have p139 : 0 ≤ (x4_1 : Int) := of_decide_eq_true ax36
      have q139 : x4_1 < (l0_0.length : Int) := of_decide_eq_true ax36
      obtain ⟨ad139, e139, hx139_0, hx139_1, hx139_2⟩ := at_T67 HR0_0.out x4_1 p139 q139
      (try rw [← Nbq7.out] at hx139_2)
      cases e139; replace hx139_0 := (HB.out.cell (World.block_lt_of_cell? w _ hx139_0)).trans hx139_0; replace hx139_1 := (HB.out.cell (World.block_lt_of_cell? w _ hx139_1)).trans hx139_1; replace hx139_2 := (HB.out.cell (World.block_lt_of_cell? w _ hx139_2)).trans hx139_2; replace p139 := eq_true p139; replace q139 := eq_true q139
      go_wp2
      go_roundg k1
      case measure => have := HK1.out; omega
      case rel => exact ⟨(x3_1), (wrap64 (x4_1 + 1)), ax37, H', ⟨by have := HK1.out; omega⟩, ⟨by (with_reducible repeat (first | apply Kd.R_alloc | apply Kd.R_drewN | apply Kd.R_drew)); exact HO_3.out⟩, ⟨by (with_reducible repeat (first | refine blk_drewN ?_ _ | refine blk_drew ?_ | refine blk_alloc ?_ _)); exact BK135.out⟩, ⟨by repeat (first | (with_reducible first | exact HB.out | apply below_alloc | apply pw_below_drewN | apply below_drew1 | refine below_set ?_ GE135.out) | exact HB.out)⟩⟩
    ·exact ax6
   ·rw [if_neg c5] at H
    have c5b0 : decide (x4_1 < (l0_0.length : Int)) = false := decide_eq_false c5
    clear c5
    obtain rfl := Option.some.inj H
    have hcz15_0 : wr.cell? ⟨gb135, 0, none⟩ = some (.slice A0_0 l0_0.length c0_0) := (blk_cell BK135.out 0).trans rfl
    have hfz15_0 := blk_frozen BK135.out 0
    go_wp2
    go_ret
    exact ⟨_, by first | rfl | (simp [errW_none, errW_some] <;> rfl) | (simp [*, errW_none, errW_some] <;> rfl), by (with_reducible repeat (first | apply Kd.R_alloc | apply Kd.R_drewN | apply Kd.R_drew)); exact HO_3.out, by repeat (first | (with_reducible first | exact HB.out | apply below_alloc | apply pw_below_drewN | apply below_drew1 | refine below_set ?_ GE135.out) | exact HB.out)⟩

/-! ### spec_l2Own: function 70 -/
def spec_l2Own.f (l0 : List ByteArray) : Option (List ByteArray) := (some (([] : List ByteArray) : List ByteArray)).bind fun y144 => (if y144.length + l0.length < 8796093022208 then (some (y144 ++ l0)) else (none))
set_option maxHeartbeats 8000000 in
set_option maxRecDepth 100000 in
theorem spec_l2Own.calls (A0 : Option Addr) (c0 : Nat) (l0 : List ByteArray) (r : List ByteArray) (w : World) (hr0 : Kd.C Kd.string w A0 l0.length l0) (hc0 : l0.length ≤ c0) (h : spec_l2Own.f l0 = some r) :
  Calls Try.prog 70 #[.slice A0 l0.length c0] w fun e w' => ∃ v0_ : Value, e = .returned (v0_) ∧ Kd.R Kd.string 9 w' w.heap.size (fun _ => True) v0_ r ∧ Below w.heap.size w w' := by
 have HR0 := Aside0.mk hr0; have HC0 := Aside0.mk hc0; clear hr0 hc0; have HB := Aside0.mk (Below.refl w.heap.size w)
 have H : ((some (([] : List ByteArray) : List ByteArray)).bind fun y144 => (if y144.length + l0.length < 8796093022208 then (some (y144 ++ l0)) else (none))) = some r := h
 clear h
 obtain ⟨y144, hy144⟩ : ∃ y_ : List ByteArray, y_ = (([] : List ByteArray)) := ⟨_, rfl⟩
 replace H : (if y144.length + l0.length < 8796093022208 then (some (y144 ++ l0)) else (none)) = some r := by first | (rw [hy144]; with_reducible exact H) | (have H2_ := (Option.bind_some _ _).symm.trans H; rw [hy144]; with_reducible exact H2_) | (have H2_ := (Option.bind_some _ _).symm.trans H; with_reducible exact H2_) | with_reducible exact H | (rw [hy144]; exact H) | exact H
 have Ny144 := Aside0.mk hy144; clear hy144
 by_cases c2 : y144.length + l0.length < 8796093022208
 ·rw [if_pos c2] at H
  have LMc2 := Aside0.mk c2; clear c2
  obtain ⟨y147, hy147⟩ : ∃ y_ : List ByteArray, y_ = (y144 ++ l0) := ⟨_, rfl⟩
  replace H : (some y147) = some r := by first | (rw [hy147]; with_reducible exact H) | (have H2_ := (Option.bind_some _ _).symm.trans H; rw [hy147]; with_reducible exact H2_) | (have H2_ := (Option.bind_some _ _).symm.trans H; with_reducible exact H2_) | with_reducible exact H | (rw [hy147]; exact H) | exact H
  have Ny147 := Aside0.mk hy147; clear hy147
  obtain rfl := Option.some.inj H
  go_enter Try.func70, Try.ntmps70
  go_wp2_with (first | ((with_reducible refine gate_dst (N := 3) rfl ?_); refine Kd.R_lit Kd.string _ 9 ?hg (N := 3) ?hd (xs := ([] : List ByteArray)) (inner := []) (ok := fun _ => True) (okp := fun _ => True) ?hr ?hp (fun _ hk => hk) trivial (Below.refl _ _) (Nat.le_refl _) (by simp) ?_; (case hd => rfl); (case hg => rfl); (case hr => exact ax22); (case hp => exact ax71); intro v145 w3 ho4 hb hg_ hnew_; clear hg_ hnew_; (first | rw [← Ny144.out] at ho4 | (simp only [Int.reduceToNat] at ho4; rw [← Ny144.out] at ho4)); have n0_ := Aside0.mk (Kd.R_lower ho4 (below_size ax23)); have n1_ := Aside0.mk (below_step ax23 hb); clear HB; have HO146 := n0_; have HB := n1_; clear n0_ n1_; clear hb ho4) | ((with_reducible refine gate_builtin (b := .append) (xs := #[.tmp 3, .tmp 4]) rfl ?_); at_builtin; refine Kd.R_append_rows Kd.string (w0 := w) w.heap.size rfl (.tmp 3) (.tmp 4) 40 9 (.string ⟨#[]⟩) 16 rfl Try.underlying40 info9 rfl (by decide) (by omega) v145 y144 l0 _ _ _ (fun _ => True) (fun _ => False) rfl rfl ?aO ?aR (fun _ _ h => h) (fun _ h => h.elim) ?aF ?aB ?aS ?aL ?_; (case aR => exact ax76); (case aB => exact ax77); (case aF => exact ax74); (case aO => exact (by (with_reducible repeat (first | apply Kd.R_alloc | apply Kd.R_drewN | apply Kd.R_drew)); exact HO146.out)); (case aS => exact ax78); (case aL => have := LMc2.out; omega); intro v148 w5 ho hb hg hat; rw [← Ny147.out] at ho; have n0_ := Aside0.mk (hb); have n1_ := Aside0.mk (ho); clear HB; clear HO146; have HB := n0_; have HO149 := n1_; clear n0_ n1_; clear ho hb hg hat))
  go_ret
  exact ⟨_, by first | rfl | (simp [errW_none, errW_some] <;> rfl) | (simp [*, errW_none, errW_some] <;> rfl), by (with_reducible repeat (first | apply Kd.R_alloc | apply Kd.R_drewN | apply Kd.R_drew)); exact HO149.out, by repeat (first | (with_reducible first | exact HB.out | apply below_alloc | apply pw_below_drewN | apply below_drew1) | exact HB.out)⟩
 ·rw [if_neg c2] at H
  exact absurd H (by simp)

end Go.Proofs.Ytcbjfflaamlpcaa.X

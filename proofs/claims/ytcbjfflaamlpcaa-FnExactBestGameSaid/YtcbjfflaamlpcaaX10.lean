-- By gen.py (the session's own program over the kit's printer): functions of the program, each with its contract. Lean checks it.
import Derived.Test.YtcbjfflaamlpcaaX0
import Derived.Test.YtcbjfflaamlpcaaX3
import Derived.Test.YtcbjfflaamlpcaaX8
import Derived.Test.YtcbjfflaamlpcaaX9
namespace Go.Proofs.Ytcbjfflaamlpcaa.X
open Go.RowKit Go.Proofs.YtcbjfflaamlpcaaW.PrintWords Go.Proofs.YtcbjfflaamlpcaaW.PrintLast Go.Proofs.YtcbjfflaamlpcaaW.PrintMore
attribute [local go_sem] max2_int min2_int max_two min_two max_three min_three max_four min_four   -- for this text's walks alone
set_option linter.unusedVariables false
set_option linter.unusedSimpArgs false

/-! ### spec_BestGame: function 38 -/
mutual
def spec_BestGame.l0 : Nat → Int → Int → List (S67) → Option (ByteArray × Bool)
 | 0, _, _, _ => none
 | k + 1, x1, x6, x283000 => (spec_l11Fatal.f k x283000 x6 x1).bind fun t284 => (if t284 = true then ((spec_l2Prefix.f k x283000 x6).bind fun t285 => (some (t285, true))) else ((spec_l2Kids.f k x283000 x6).bind fun t286 => (if (t286.length : Int) = 0 then ((spec_l2Prefix.f k x283000 x6).bind fun t289 => (some (t289, true))) else (if 0 < (t286.length : Int) then (spec_BestGame.l1 k x1 t286 (rd t286 0) (wrap64 ((t286.length : Int) - 1)) x283000) else (none)))))
def spec_BestGame.l1 : Nat → Int → List Int → Int → Int → List (S67) → Option (ByteArray × Bool)
 | 0, _, _, _, _, _ => none
 | k + 1, x1, x7, x8, x9, x283000 => if x9 ≥ 0 then (if 0 ≤ x9 then (if x9 < (x7.length : Int) then ((spec_l11Fatal.f k x283000 (rd x7 x9) x1).bind fun t292 => (if t292 = true then (spec_BestGame.l1 k x1 x7 x8 (wrap64 (x9 - 1)) x283000) else ((spec_l11Wins.f k x283000 (rd x7 x9) x1 false).bind fun t294 => (if t294 = true then (spec_BestGame.l1 k x1 x7 x8 (wrap64 (x9 - 1)) x283000) else (spec_BestGame.l1 k x1 x7 (rd x7 x9) (wrap64 (x9 - 1)) x283000))))) else (none)) else (none)) else (spec_BestGame.l0 k x1 x8 x283000)
end
def spec_BestGame.f (k : Nat) (l0_0 : List (S67)) (a1 : Int) : Option (ByteArray × Bool) := (spec_l11Good.f k l0_0 0 a1).bind fun t283 => (if t283 = true then (spec_BestGame.l0 k a1 0 l0_0) else (some ((⟨#[]⟩ : ByteArray), false)))
theorem spec_BestGame.mono_l : ∀ k, (∀ y0 y1 y2, LeO (spec_BestGame.l0 k y0 y1 y2) (spec_BestGame.l0 (k + 1) y0 y1 y2)) ∧ (∀ y0 y1 y2 y3 y4, LeO (spec_BestGame.l1 k y0 y1 y2 y3 y4) (spec_BestGame.l1 (k + 1) y0 y1 y2 y3 y4))
 | 0 => ⟨fun _ _ _ r h => by simp [spec_BestGame.l0] at h, fun _ _ _ _ _ r h => by simp [spec_BestGame.l1] at h⟩
 | k + 1 => by
  obtain ⟨ih0, ih1⟩ := spec_BestGame.mono_l k
  refine ⟨?_, ?_⟩
  ·intro y0 y1 y2
   unfold spec_BestGame.l0
   repeat' first
   | (with_reducible exact ih0 _ _ _)
   | (with_reducible exact ih1 _ _ _ _ _)
   | (with_reducible exact spec_l11Fatal.mono _ _ _ _)
   | (with_reducible exact spec_l11Good.mono _ _ _ _)
   | (with_reducible exact spec_l11Wins.mono _ _ _ _ _)
   | (with_reducible exact spec_l2Kids.mono _ _ _)
   | (with_reducible exact spec_l2Prefix.mono _ _ _)
   | (with_reducible exact LeO.refl _)
   | (with_reducible exact LeO.none _)
   | (with_reducible refine LeO.ite ?_ ?_)
   | (with_reducible refine LeO.bind ?_ (fun _ => ?_))
   | exact ih0 _ _ _
   | exact ih1 _ _ _ _ _
   | exact spec_l11Fatal.mono _ _ _ _
   | exact spec_l11Good.mono _ _ _ _
   | exact spec_l11Wins.mono _ _ _ _ _
   | exact spec_l2Kids.mono _ _ _
   | exact spec_l2Prefix.mono _ _ _
   | exact LeO.none _
   | refine LeO.ite ?_ ?_
   | refine LeO.bind ?_ (fun _ => ?_)
  ·intro y0 y1 y2 y3 y4
   unfold spec_BestGame.l1
   repeat' first
   | (with_reducible exact ih0 _ _ _)
   | (with_reducible exact ih1 _ _ _ _ _)
   | (with_reducible exact spec_l11Fatal.mono _ _ _ _)
   | (with_reducible exact spec_l11Good.mono _ _ _ _)
   | (with_reducible exact spec_l11Wins.mono _ _ _ _ _)
   | (with_reducible exact spec_l2Kids.mono _ _ _)
   | (with_reducible exact spec_l2Prefix.mono _ _ _)
   | (with_reducible exact LeO.refl _)
   | (with_reducible exact LeO.none _)
   | (with_reducible refine LeO.ite ?_ ?_)
   | (with_reducible refine LeO.bind ?_ (fun _ => ?_))
   | exact ih0 _ _ _
   | exact ih1 _ _ _ _ _
   | exact spec_l11Fatal.mono _ _ _ _
   | exact spec_l11Good.mono _ _ _ _
   | exact spec_l11Wins.mono _ _ _ _ _
   | exact spec_l2Kids.mono _ _ _
   | exact spec_l2Prefix.mono _ _ _
   | exact LeO.none _
   | refine LeO.ite ?_ ?_
   | refine LeO.bind ?_ (fun _ => ?_)
theorem spec_BestGame.mono : ∀ a0 a1 k, LeO (spec_BestGame.f k a0 a1) (spec_BestGame.f (k + 1) a0 a1) := by
 intro a0 a1 k
 obtain ⟨ih0, ih1⟩ := spec_BestGame.mono_l k
 unfold spec_BestGame.f
 repeat' first
   | (with_reducible exact ih0 _ _ _)
   | (with_reducible exact ih1 _ _ _ _ _)
   | (with_reducible exact spec_l11Fatal.mono _ _ _ _)
   | (with_reducible exact spec_l11Good.mono _ _ _ _)
   | (with_reducible exact spec_l11Wins.mono _ _ _ _ _)
   | (with_reducible exact spec_l2Kids.mono _ _ _)
   | (with_reducible exact spec_l2Prefix.mono _ _ _)
   | (with_reducible exact LeO.refl _)
   | (with_reducible exact LeO.none _)
   | (with_reducible refine LeO.ite ?_ ?_)
   | (with_reducible refine LeO.bind ?_ (fun _ => ?_))
   | exact ih0 _ _ _
   | exact ih1 _ _ _ _ _
   | exact spec_l11Fatal.mono _ _ _ _
   | exact spec_l11Good.mono _ _ _ _
   | exact spec_l11Wins.mono _ _ _ _ _
   | exact spec_l2Kids.mono _ _ _
   | exact spec_l2Prefix.mono _ _ _
   | exact LeO.none _
   | refine LeO.ite ?_ ?_
   | refine LeO.bind ?_ (fun _ => ?_)
def spec_BestGame.T11 : Bool × List (List Nat × List Nat) := (true, [([], []), ([], []), ([], []), ([1, 2], [1, 2]), ([3], [3]), ([], []), ([0, 4, 5], [0, 4, 5]), ([6], [6]), ([7, 6], [7]), ([8], [8]), ([8], [8]), ([8], [8]), ([10, 11, 8], [8, 10, 11]), ([12, 8], [8, 12]), ([8], [8]), ([9, 13, 14, 8, 8], [8, 9, 13, 14]), ([15, 8], [8, 15]), ([8, 16], [8, 16])])
def spec_BestGame.B11 : List Nat := [0, 0, 0, 6, 14, 0, 63, 127, 255, 511, 511, 511, 3583, 7679, 511, 32767, 65535, 131071]
theorem spec_BestGame.tab11 : rtab .any (opsOf Try.f38 11) = spec_BestGame.T11 := by kernel_rfl
theorem spec_BestGame.bits11 : waitsOk spec_BestGame.T11.2 spec_BestGame.B11 = true := by kernel_rfl
set_option maxHeartbeats 8000000 in
set_option maxRecDepth 100000 in
theorem spec_BestGame.calls (k : Nat) (A0_0 : Option Addr) (c0_0 : Nat) (l0_0 : List (S67)) (a1 : Int) (r1 : ByteArray) (r2 : Bool) (w : World) (hr0_0 : Kd.C k67 w A0_0 l0_0.length l0_0) (hc0_0 : l0_0.length ≤ c0_0) (h : spec_BestGame.f k l0_0 a1 = some (r1, r2)) :
  Calls Try.prog 38 #[.agg #[.slice A0_0 l0_0.length c0_0], .int .i64 a1] w fun e w' => e = .returned (.tuple #[.string r1, .bool r2]) ∧ Below w.heap.size w w' := by
 have hu30 := Try.underlying30; have HR0_0 := Aside0.mk hr0_0; have HC0_0 := Aside0.mk hc0_0; clear hr0_0 hc0_0; have HB := Aside0.mk (Below.refl w.heap.size w)
 have H : ((spec_l11Good.f k l0_0 0 a1).bind fun t283 => (if t283 = true then (spec_BestGame.l0 k a1 0 l0_0) else (some ((⟨#[]⟩ : ByteArray), false)))) = some (r1, r2) := h
 clear h; replace H := Option.bind_eq_some_iff.mp H
 obtain ⟨t283, A30, H⟩ := H
 replace H : (if t283 = true then (spec_BestGame.l0 k a1 0 l0_0) else (some ((⟨#[]⟩ : ByteArray), false))) = some (r1, r2) := H
 have A3 := Aside0.mk A30; clear A30
 by_cases c4 : t283 = true
 ·subst c4
  have H1 : (spec_BestGame.l0 k a1 0 l0_0) = some (r1, r2) := by rw [if_pos rfl] at H; exact H
  clear H; have H := H1; clear H1
  have H' := Aside0.mk H
  clear H
  go_enter Try.func38, Try.ntmps38
  go_wp2_with (first | ((with_reducible refine gate_dst (N := 2) rfl ?_); refine box_event ?hg (N := 2) ?hd (cs := #[.slice A0_0 l0_0.length c0_0]) (t := 30) ?hr ?_; (case hd => rfl); (case hg => rfl); (case hr => exact ax22); intro gb282 hg w5 hbox hb; have n0_ := Aside0.mk (below_step ax23 hb); have n1_ := Aside0.mk (hbox); have n2_ := Aside0.mk ((ax24 : w.heap.size ≤ gb282)); have n3_ := Aside0.mk ((ax24 : w.heap.size ≤ gb282)); clear HB; have HB := n0_; have BK282 := n1_; have GW282 := n2_; have GE282 := n3_; clear n0_ n1_ n2_ n3_; clear hb hbox hg; have hcz6_0 : w5.cell? ⟨gb282, 0, none⟩ = some (.slice A0_0 l0_0.length c0_0) := (blk_cell BK282.out 0).trans rfl; have hfz6_0 := blk_frozen BK282.out 0) | ((with_reducible refine gate_callee (f := 41) rfl ?_); refine goesL_ (some 12) rfl rfl Try.func41 (by kernel_rfl) rfl #[.agg #[.slice A0_0 l0_0.length c0_0], .int .i64 0, .int .i64 a1] rfl ax25 ?_; (with_reducible refine (spec_l11Good.calls k _ _ l0_0 0 a1 true _ ?side1 ?side2 A3.out).mono ?_); (case side1 => exact ax26); (case side2 => exact ax27); rintro e w7 ⟨rfl, hb⟩; refine ⟨_, rfl, ?_⟩; have n0_ := Aside0.mk (blk_below (g := gb282) (o := .cells #[.slice A0_0 l0_0.length c0_0] 30 (0, 0)) ax148 hb); have n1_ := Aside0.mk (below_step ax149 hb); clear BK282; clear HB; have BK282 := n0_; have HB := n1_; clear n0_ n1_; (try clear hb); (try clear hb2); (try clear hk); (try clear hi)))
  go_loopg [6] k (fun kq v6 w' => ∃ (x6_1 : Int), v6 = .int .i64 x6_1 ∧ Aside0 (spec_BestGame.l0 kq a1 x6_1 l0_0 = some (r1, r2)) ∧ Aside0 (kq ≤ k) ∧ Aside0 (w'.heap[gb282]? = some (.cells #[(.slice A0_0 l0_0.length c0_0)] 30 (0, 0))) ∧ Aside0 (Below w.heap.size w w'))
  case atStart => exact ⟨(0), ax37, H', ⟨Nat.le_refl _⟩, ⟨by (with_reducible repeat (first | refine blk_drewN ?_ _ | refine blk_drew ?_ | refine blk_alloc ?_ _)); exact BK282.out⟩, ⟨by repeat (first | (with_reducible first | exact HB.out | apply below_alloc | apply pw_below_drewN | apply below_drew1 | refine below_set ?_ GE282.out) | exact HB.out)⟩⟩
  case round =>
   clear H'
   try clear p2
   try clear c3
   try clear c4
   try clear hcz6_0
   try clear hfz6_0
   obtain ⟨x6_1, rfl, HA, HK1, BK282, HB⟩ := hrel
   cases gk with
   | zero => exact absurd HA.out (by simp [spec_BestGame.l0])
   | succ k1 =>
    have H := HA.out; clear HA
    simp only [spec_BestGame.l0] at H
    replace H := Option.bind_eq_some_iff.mp H
    obtain ⟨t284, A80, H⟩ := H
    replace H : (if t284 = true then ((spec_l2Prefix.f k1 l0_0 x6_1).bind fun t285 => (some (t285, true))) else ((spec_l2Kids.f k1 l0_0 x6_1).bind fun t286 => (if (t286.length : Int) = 0 then ((spec_l2Prefix.f k1 l0_0 x6_1).bind fun t289 => (some (t289, true))) else (if 0 < (t286.length : Int) then (spec_BestGame.l1 k1 a1 t286 (rd t286 0) (wrap64 ((t286.length : Int) - 1)) l0_0) else (none))))) = some (r1, r2) := H
    have A8 := Aside0.mk A80; clear A80
    by_cases c9 : t284 = true
    ·subst c9
     have H1 : ((spec_l2Prefix.f k1 l0_0 x6_1).bind fun t285 => (some (t285, true))) = some (r1, r2) := by rw [if_pos rfl] at H; exact H
     clear H; have H := H1; clear H1; replace H := Option.bind_eq_some_iff.mp H
     obtain ⟨t285, A100, H⟩ := H
     replace H : (some (t285, true)) = some (r1, r2) := H
     have A10 := Aside0.mk A100; clear A100
     simp only [Option.some.injEq, Prod.mk.injEq] at H
     obtain ⟨rfl, rfl⟩ := H
     have hcz11_0 : wr.cell? ⟨gb282, 0, none⟩ = some (.slice A0_0 l0_0.length c0_0) := (blk_cell BK282.out 0).trans rfl
     have hfz11_0 := blk_frozen BK282.out 0
     go_wp2_with (first | ((with_reducible refine gate_callee (f := 57) rfl ?_); refine goesL_ (some 17) rfl rfl Try.func57 (by kernel_rfl) rfl #[.agg #[.slice A0_0 l0_0.length c0_0], .int .i64 x6_1, .int .i64 a1] rfl ax25 ?_; (with_reducible refine (spec_l11Fatal.calls k1 _ _ l0_0 x6_1 a1 true _ ?side1 ?side2 A8.out).mono ?_); (case side1 => exact ax26); (case side2 => exact ax27); rintro e w12 ⟨rfl, hb⟩; refine ⟨_, rfl, ?_⟩; have n0_ := Aside0.mk (blk_below (g := gb282) (o := .cells #[.slice A0_0 l0_0.length c0_0] 30 (0, 0)) ax148 hb); have n1_ := Aside0.mk (below_step ax149 hb); clear BK282; clear HB; have BK282 := n0_; have HB := n1_; clear n0_ n1_; (try clear hb); (try clear hb2); (try clear hk); (try clear hi); have hcz13_0 : w12.cell? ⟨gb282, 0, none⟩ = some (.slice A0_0 l0_0.length c0_0) := (blk_cell BK282.out 0).trans rfl; have hfz13_0 := blk_frozen BK282.out 0) | ((with_reducible refine gate_callee (f := 62) rfl ?_); refine goesL_ (some 60) rfl rfl Try.func62 (by kernel_rfl) rfl #[.agg #[.slice A0_0 l0_0.length c0_0], .int .i64 x6_1] rfl ax25 ?_; (with_reducible refine (spec_l2Prefix.calls k1 _ _ l0_0 x6_1 t285 _ ?side1 ?side2 A10.out).mono ?_); (case side1 => exact ax26); (case side2 => exact ax27); rintro e w14 ⟨rfl, hb⟩; refine ⟨_, rfl, ?_⟩; have n0_ := Aside0.mk (blk_below (g := gb282) (o := .cells #[.slice A0_0 l0_0.length c0_0] 30 (0, 0)) ax148 hb); have n1_ := Aside0.mk (below_step ax149 hb); clear BK282; clear HB; have BK282 := n0_; have HB := n1_; clear n0_ n1_; (try clear hb); (try clear hb2); (try clear hk); (try clear hi)))
     go_ret2
     exact ⟨by first | rfl | (simp [errW_none, errW_some] <;> rfl) | (simp [*, errW_none, errW_some] <;> rfl), by repeat (first | (with_reducible first | exact HB.out | apply below_alloc | apply pw_below_drewN | apply below_drew1 | refine below_set ?_ GE282.out) | exact HB.out)⟩
    ·replace c9 := Bool.eq_false_iff.mpr c9
     subst c9
     have H1 : ((spec_l2Kids.f k1 l0_0 x6_1).bind fun t286 => (if (t286.length : Int) = 0 then ((spec_l2Prefix.f k1 l0_0 x6_1).bind fun t289 => (some (t289, true))) else (if 0 < (t286.length : Int) then (spec_BestGame.l1 k1 a1 t286 (rd t286 0) (wrap64 ((t286.length : Int) - 1)) l0_0) else (none)))) = some (r1, r2) := by rw [if_neg (show ¬ (false = true) by decide)] at H; exact H
     clear H; have H := H1; clear H1; replace H := Option.bind_eq_some_iff.mp H
     obtain ⟨t286, A150, H⟩ := H
     replace H : (if (t286.length : Int) = 0 then ((spec_l2Prefix.f k1 l0_0 x6_1).bind fun t289 => (some (t289, true))) else (if 0 < (t286.length : Int) then (spec_BestGame.l1 k1 a1 t286 (rd t286 0) (wrap64 ((t286.length : Int) - 1)) l0_0) else (none))) = some (r1, r2) := H
     have A15 := Aside0.mk A150; clear A150
     by_cases c16 : (t286.length : Int) = 0
     ·rw [if_pos c16] at H
      have c16b0 : ((t286.length : Int) == 0) = true := beq_iff_eq.mpr c16
      have c16b1 : ((t286.length : Int) != 0) = false := bne_eq_false_iff_eq.mpr c16
      clear c16; replace H := Option.bind_eq_some_iff.mp H
      obtain ⟨t289, A170, H⟩ := H
      replace H : (some (t289, true)) = some (r1, r2) := H
      have A17 := Aside0.mk A170; clear A170
      simp only [Option.some.injEq, Prod.mk.injEq] at H
      obtain ⟨rfl, rfl⟩ := H
      have hcz18_0 : wr.cell? ⟨gb282, 0, none⟩ = some (.slice A0_0 l0_0.length c0_0) := (blk_cell BK282.out 0).trans rfl
      have hfz18_0 := blk_frozen BK282.out 0
      go_wp2_with (first | ((with_reducible refine gate_callee (f := 57) rfl ?_); refine goesL_ (some 17) rfl rfl Try.func57 (by kernel_rfl) rfl #[.agg #[.slice A0_0 l0_0.length c0_0], .int .i64 x6_1, .int .i64 a1] rfl ax25 ?_; (with_reducible refine (spec_l11Fatal.calls k1 _ _ l0_0 x6_1 a1 false _ ?side1 ?side2 A8.out).mono ?_); (case side1 => exact ax26); (case side2 => exact ax27); rintro e w19 ⟨rfl, hb⟩; refine ⟨_, rfl, ?_⟩; have n0_ := Aside0.mk (blk_below (g := gb282) (o := .cells #[.slice A0_0 l0_0.length c0_0] 30 (0, 0)) ax148 hb); have n1_ := Aside0.mk (below_step ax149 hb); clear BK282; clear HB; have BK282 := n0_; have HB := n1_; clear n0_ n1_; (try clear hb); (try clear hb2); (try clear hk); (try clear hi); have hcz20_0 : w19.cell? ⟨gb282, 0, none⟩ = some (.slice A0_0 l0_0.length c0_0) := (blk_cell BK282.out 0).trans rfl; have hfz20_0 := blk_frozen BK282.out 0) | ((with_reducible refine gate_callee (f := 56) rfl ?_); refine goesL_ (some 21) rfl rfl Try.func56 (by kernel_rfl) rfl #[.agg #[.slice A0_0 l0_0.length c0_0], .int .i64 x6_1] rfl ax25 ?_; (with_reducible refine (spec_l2Kids.calls k1 _ _ l0_0 x6_1 t286 _ ?side1 ?side2 A15.out).mono ?_); (case side1 => exact ax26); (case side2 => exact ax27); rintro e w21 ⟨v287, rfl, ho0, hb⟩; refine ⟨_, rfl, ?_⟩; have n0_ := Aside0.mk (Kd.R_lower ho0 (below_size ax149)); have n1_ := Aside0.mk (blk_below (g := gb282) (o := .cells #[.slice A0_0 l0_0.length c0_0] 30 (0, 0)) ax148 hb); have n2_ := Aside0.mk (below_step ax149 hb); clear BK282; clear HB; have HO288 := n0_; have BK282 := n1_; have HB := n2_; clear n0_ n1_ n2_; (try clear hb); (try clear hb2); (try clear hk); (try clear hi); (try clear ho0); obtain ⟨Ao22, co22, eo22⟩ := Kd.R_slice HO288.out; subst eo22; have hcz23_0 : w21.cell? ⟨gb282, 0, none⟩ = some (.slice A0_0 l0_0.length c0_0) := (blk_cell BK282.out 0).trans rfl; have hfz23_0 := blk_frozen BK282.out 0) | ((with_reducible refine gate_callee (f := 62) rfl ?_); refine goesL_ (some 60) rfl rfl Try.func62 (by kernel_rfl) rfl #[.agg #[.slice A0_0 l0_0.length c0_0], .int .i64 x6_1] rfl ax25 ?_; (with_reducible refine (spec_l2Prefix.calls k1 _ _ l0_0 x6_1 t289 _ ?side1 ?side2 A17.out).mono ?_); (case side1 => exact ax26); (case side2 => exact ax27); rintro e w24 ⟨rfl, hb⟩; refine ⟨_, rfl, ?_⟩; have n0_ := Aside0.mk (Kd.R_below (by (with_reducible repeat (first | apply Kd.R_alloc | apply Kd.R_drewN | apply Kd.R_drew)); exact HO288.out) hb); have n1_ := Aside0.mk (blk_below (g := gb282) (o := .cells #[.slice A0_0 l0_0.length c0_0] 30 (0, 0)) ax148 hb); have n2_ := Aside0.mk (below_step ax149 hb); clear HO288; clear BK282; clear HB; have HO288 := n0_; have BK282 := n1_; have HB := n2_; clear n0_ n1_ n2_; (try clear hb); (try clear hb2); (try clear hk); (try clear hi)))
      go_ret2
      exact ⟨by first | rfl | (simp [errW_none, errW_some] <;> rfl) | (simp [*, errW_none, errW_some] <;> rfl), by repeat (first | (with_reducible first | exact HB.out | apply below_alloc | apply pw_below_drewN | apply below_drew1 | refine below_set ?_ GE282.out) | exact HB.out)⟩
     ·rw [if_neg c16] at H
      have c16b0 : ((t286.length : Int) == 0) = false := beq_eq_false_iff_ne.mpr c16
      have c16b1 : ((t286.length : Int) != 0) = true := bne_iff_ne.mpr c16
      have c16b2 : ¬ (t286 = []) := fun h_ => c16 (by rw [h_]; rfl)
      by_cases c25 : 0 < (t286.length : Int)
      ·rw [if_pos c25] at H
       have c25b0 : decide (0 < (t286.length : Int)) = true := decide_eq_true c25
       have c25b1 : decide (0 < t286.length) = true := decide_eq_true (by omega)
       clear c25
       have H' := Aside0.mk H
       clear H
       have hcz26_0 : wr.cell? ⟨gb282, 0, none⟩ = some (.slice A0_0 l0_0.length c0_0) := (blk_cell BK282.out 0).trans rfl
       have hfz26_0 := blk_frozen BK282.out 0
       go_wp2_with (first | ((with_reducible refine gate_callee (f := 57) rfl ?_); refine goesL_ (some 17) rfl rfl Try.func57 (by kernel_rfl) rfl #[.agg #[.slice A0_0 l0_0.length c0_0], .int .i64 x6_1, .int .i64 a1] rfl ax25 ?_; (with_reducible refine (spec_l11Fatal.calls k1 _ _ l0_0 x6_1 a1 false _ ?side1 ?side2 A8.out).mono ?_); (case side1 => exact ax26); (case side2 => exact ax27); rintro e w27 ⟨rfl, hb⟩; refine ⟨_, rfl, ?_⟩; have n0_ := Aside0.mk (blk_below (g := gb282) (o := .cells #[.slice A0_0 l0_0.length c0_0] 30 (0, 0)) ax148 hb); have n1_ := Aside0.mk (below_step ax149 hb); clear BK282; clear HB; have BK282 := n0_; have HB := n1_; clear n0_ n1_; (try clear hb); (try clear hb2); (try clear hk); (try clear hi); have hcz28_0 : w27.cell? ⟨gb282, 0, none⟩ = some (.slice A0_0 l0_0.length c0_0) := (blk_cell BK282.out 0).trans rfl; have hfz28_0 := blk_frozen BK282.out 0) | ((with_reducible refine gate_callee (f := 56) rfl ?_); refine goesL_ (some 21) rfl rfl Try.func56 (by kernel_rfl) rfl #[.agg #[.slice A0_0 l0_0.length c0_0], .int .i64 x6_1] rfl ax25 ?_; (with_reducible refine (spec_l2Kids.calls k1 _ _ l0_0 x6_1 t286 _ ?side1 ?side2 A15.out).mono ?_); (case side1 => exact ax26); (case side2 => exact ax27); rintro e w29 ⟨v287, rfl, ho0, hb⟩; refine ⟨_, rfl, ?_⟩; have n0_ := Aside0.mk (Kd.R_lower ho0 (below_size ax149)); have n1_ := Aside0.mk (blk_below (g := gb282) (o := .cells #[.slice A0_0 l0_0.length c0_0] 30 (0, 0)) ax148 hb); have n2_ := Aside0.mk (below_step ax149 hb); clear BK282; clear HB; have HO288 := n0_; have BK282 := n1_; have HB := n2_; clear n0_ n1_ n2_; (try clear hb); (try clear hb2); (try clear hk); (try clear hi); (try clear ho0); obtain ⟨Ao30, co30, eo30⟩ := Kd.R_slice HO288.out; subst eo30; have p290 : 0 ≤ (0 : Int) := (by omega); have q290 : 0 < (t286.length : Int) := of_decide_eq_true ax36; obtain ⟨ad290, e290, hx290_0⟩ := Kd.at_int (Kd.R_reads' HO288.out).2.2 0 p290 q290; cases e290; have qi290 : (0 < t286.length) = True := eq_true (by omega); (try rw [show ((0 : Int)).toNat = 0 from rfl] at hx290_0); (try rw [Addr.add_zero'] at hx290_0); replace p290 := eq_true p290; replace q290 := eq_true q290))
       go_loopg [8, 9] k1 (fun kq v8 v9 w' => ∃ (x8_2 : Int) (x9_2 : Int), v8 = .int .i64 x8_2 ∧ v9 = .int .i64 x9_2 ∧ Aside0 (spec_BestGame.l1 kq a1 t286 x8_2 x9_2 l0_0 = some (r1, r2)) ∧ Aside0 (kq ≤ k1) ∧ Aside0 (Kd.R (Kd.int .i64) 3 w' w.heap.size (fun _ => True) (.slice (some ad290) t286.length co30) t286) ∧ Aside0 (w'.heap[gb282]? = some (.cells #[(.slice A0_0 l0_0.length c0_0)] 30 (0, 0))) ∧ Aside0 (Below w.heap.size w w'))
       case atStart => exact ⟨(rd t286 0), (wrap64 ((t286.length : Int) - 1)), ax37, ax37, H', ⟨Nat.le_refl _⟩, ⟨by (with_reducible repeat (first | apply Kd.R_alloc | apply Kd.R_drewN | apply Kd.R_drew)); exact HO288.out⟩, ⟨by (with_reducible repeat (first | refine blk_drewN ?_ _ | refine blk_drew ?_ | refine blk_alloc ?_ _)); exact BK282.out⟩, ⟨by repeat (first | (with_reducible first | exact HB.out | apply below_alloc | apply pw_below_drewN | apply below_drew1 | refine below_set ?_ GE282.out) | exact HB.out)⟩⟩
       case round =>
        clear H'
        try clear c1
        try clear c2
        try clear p2
        try clear q2
        try clear hx2
        try clear qi2
        try clear c3
        try clear c4
        try clear c5
        try clear c6
        try clear p6
        try clear c9
        try clear c16
        try clear c16b0
        try clear c16b1
        try clear c16b2
        try clear c25
        try clear c25b0
        try clear c25b1
        try clear p29
        try clear q29
        try clear hx29
        try clear qi29
        try clear hcz11_0
        try clear hcz13_0
        try clear hcz18_0
        try clear hcz20_0
        try clear hcz23_0
        try clear hcz26_0
        try clear hcz28_0
        try clear hcz6_0
        try clear hfz11_0
        try clear hfz13_0
        try clear hfz18_0
        try clear hfz20_0
        try clear hfz23_0
        try clear hfz26_0
        try clear hfz28_0
        try clear hfz6_0
        try clear hx290_0
        try clear p2
        try clear p290
        try clear q290
        obtain ⟨x8_2, x9_2, rfl, rfl, HA, HK2, HO_7, BK282, HB⟩ := hrel
        cases gk with
        | zero => exact absurd HA.out (by simp [spec_BestGame.l1])
        | succ k2 =>
         have H := HA.out; clear HA
         simp only [spec_BestGame.l1] at H
         by_cases c31 : x9_2 ≥ 0
         ·rw [if_pos c31] at H
          have c31b0 : decide (0 ≤ x9_2) = true := decide_eq_true c31
          clear c31
          by_cases c32 : 0 ≤ x9_2
          ·rw [if_pos c32] at H
           have c32b0 : decide (0 ≤ x9_2) = true := decide_eq_true c32
           clear c32
           by_cases c33 : x9_2 < (t286.length : Int)
           ·rw [if_pos c33] at H
            have c33b0 : decide (x9_2 < (t286.length : Int)) = true := decide_eq_true c33
            clear c33; replace H := Option.bind_eq_some_iff.mp H
            obtain ⟨t292, A340, H⟩ := H
            replace H : (if t292 = true then (spec_BestGame.l1 k2 a1 t286 x8_2 (wrap64 (x9_2 - 1)) l0_0) else ((spec_l11Wins.f k2 l0_0 (rd t286 x9_2) a1 false).bind fun t294 => (if t294 = true then (spec_BestGame.l1 k2 a1 t286 x8_2 (wrap64 (x9_2 - 1)) l0_0) else (spec_BestGame.l1 k2 a1 t286 (rd t286 x9_2) (wrap64 (x9_2 - 1)) l0_0)))) = some (r1, r2) := H
            have A34 := Aside0.mk A340; clear A340
            by_cases c35 : t292 = true
            ·subst c35
             have H1 : (spec_BestGame.l1 k2 a1 t286 x8_2 (wrap64 (x9_2 - 1)) l0_0) = some (r1, r2) := by rw [if_pos rfl] at H; exact H
             clear H; have H := H1; clear H1
             have H' := Aside0.mk H
             clear H
             try go_wp2
             have n0_ := Aside0.mk (Kd.R_drew HO_7.out); have n1_ := Aside0.mk (blk_drew BK282.out); have n2_ := Aside0.mk (below_drew1 HB.out); clear HO_7; clear BK282; clear HB; have HO_7 := n0_; have BK282 := n1_; have HB := n2_; clear n0_ n1_ n2_
             have p291 : 0 ≤ (x9_2 : Int) := of_decide_eq_true ax36
             have q291 : x9_2 < (t286.length : Int) := of_decide_eq_true ax36
             obtain ⟨ad291, e291, hx291_0⟩ := Kd.at_int (Kd.R_reads' HO_7.out).2.2 x9_2 p291 q291
             obtain rfl : ad290 = ad291 := (by injection e291)
             replace p291 := eq_true p291; replace q291 := eq_true q291
             refine start_ (n := 18) (S := fun w' => w'.cell? ⟨gb282, 0, none⟩ = some (.slice A0_0 l0_0.length c0_0) ∧ w'.cell? (ad290.add (x9_2).toNat) = some (.int .i64 (rd t286 x9_2))) (ds := []) (ob 18 0) (by kernel_rfl) rfl rfl ⟨(blk_cell BK282.out 0).trans rfl, hx291_0⟩ (fun hHeld => ?_); refine with_tabW spec_BestGame.tab11 spec_BestGame.bits11 (fun HT_ HW_ => ?_)
             generalize wr.drew = w36 at HO_7 BK282 HB hx291_0 hHeld ⊢
             refine pure_ (i := 1) (N := some 36) (v := ?_) (a' := ?_) (ob 18 2) rfl rfl (any_of HT_.out (by kernel_rfl)) (fun _ _ _ h => h) (Or.inl ⟨by rfl, ?_⟩) ?_ ?_; rotate_left; exact ax3; rotate_left; exact ax4
             refine pure_ (i := 2) (N := some 37) (v := ?_) (a' := ?_) (ob 18 6) rfl rfl (any_of HT_.out (by kernel_rfl)) (fun _ _ _ h => h) (Or.inl ⟨by rfl, ?_⟩) ?_ ?_; rotate_left; exact ax3; rotate_left; exact ax4
             refine pure_ (i := 3) (N := some 38) (v := ?_) (a' := ?_) (ob 18 14) rfl rfl (any_of HT_.out (by kernel_rfl)) (fun _ _ _ h => h) (Or.inl ⟨by rfl, ?_⟩) ?_ ?_; rotate_left; exact ax3; rotate_left; exact ax4
             refine pure_ (i := 5) (N := some 40) (v := ?_) (a' := ?_) (ob 18 46) rfl rfl (any_of HT_.out (by kernel_rfl)) (fun _ _ _ h => h) (Or.inl ⟨by rfl, ?_⟩) ?_ ?_; rotate_left; exact ax3; rotate_left; exact ax4
             refine take_ (i := 0) (N := some 35) (v := ?_) (a' := ?_) (ob 18 47) rfl rfl (take_ofW HT_.out HW_.out (by kernel_rfl)) (fun _ _ _ h => h) (Or.inl ⟨by rfl, ?_⟩) hHeld ?_ ?_; rotate_left; exact ax14; rotate_left; exact ax4
             refine take_ (i := 4) (N := some 39) (v := ?_) (a' := ?_) (ob 18 63) rfl rfl (take_ofW HT_.out HW_.out (by kernel_rfl)) (fun _ _ _ h => h) (Or.inl ⟨by rfl, ?_⟩) hHeld ?_ ?_; rotate_left; exact ax14; rotate_left; exact ax4
             refine one_ (i := 6) (N := some 41) (ob 18 127) rfl rfl (one_of HT_.out (by kernel_rfl)) (by decide) (fun K hK => ?_)
             refine goes_ Try.func57 (by kernel_rfl) rfl #[.agg #[.slice A0_0 l0_0.length c0_0], .int .i64 (rd t286 x9_2), .int .i64 a1] (by rfl) rfl rfl ax25 ?_
             with_reducible refine (spec_l11Fatal.calls k2 _ _ l0_0 (rd t286 x9_2) a1 true _ ?side1 ?side2 A34.out).mono ?_
             (case side1 => exact ax26)
             (case side2 => exact ax27)
             rintro e w37 ⟨rfl, hb⟩
             have HS1_ := (hb.cell (World.block_lt_of_cell? _ _ (hHeld.2))).trans (hHeld.2)
             refine ⟨_, rfl, ?_⟩
             have n0_ := Aside0.mk (Kd.R_below ax150 hb)
             have n1_ := Aside0.mk (blk_below (g := gb282) (o := .cells #[.slice A0_0 l0_0.length c0_0] 30 (0, 0)) ax148 hb)
             have n2_ := Aside0.mk (below_step ax149 hb); clear HO_7; clear BK282; clear HB; have HO_7 := n0_; have BK282 := n1_; have HB := n2_; clear n0_ n1_ n2_; (try clear hb); (try clear hb2); (try clear hk); (try clear hi)
             refine hK.out _ _ ⟨(blk_cell BK282.out 0).trans rfl, HS1_⟩ (fun hHeld => ?_)
             clear hK K
             refine norm_ (a' := ?_) ?_ ?_
             rotate_left
             ·exact ax20
             refine pure_ (i := 7) (N := some 42) (v := ?_) (a' := ?_) (ob 18 255) rfl rfl (any_of HT_.out (by kernel_rfl)) (fun _ _ _ h => h) (Or.inl ⟨by rfl, ?_⟩) ?_ ?_; rotate_left; exact ax3; rotate_left; exact ax4
             refine pure_ (i := 8) (N := some 43) (v := ?_) (a' := ?_) (ob 18 511) rfl rfl (any_of HT_.out (by kernel_rfl)) (fun _ _ _ h => h) (Or.inl ⟨by rfl, ?_⟩) ?_ ?_; rotate_left; exact ax3; rotate_left; exact ax4
             refine pure_ (i := 9) (N := some 44) (v := undef) (a' := ?_) (ob 18 1023) rfl rfl (any_of HT_.out (by kernel_rfl)) (fun _ _ _ h => h) (Or.inr ⟨by rfl, rfl⟩) ?_ ?_
             rotate_left
             ·exact ax4
             refine pure_ (i := 10) (N := some 45) (v := undef) (a' := ?_) (ob 18 2047) rfl rfl (any_of HT_.out (by kernel_rfl)) (fun _ _ _ h => h) (Or.inr ⟨by rfl, rfl⟩) ?_ ?_
             rotate_left
             ·exact ax4
             refine pure_ (i := 11) (N := some 46) (v := undef) (a' := ?_) (ob 18 4095) rfl rfl (any_of HT_.out (by kernel_rfl)) (fun _ _ _ h => h) (Or.inr ⟨by rfl, rfl⟩) ?_ ?_
             rotate_left
             ·exact ax4
             refine pure_ (i := 12) (N := some 47) (v := undef) (a' := ?_) (ob 18 8191) rfl rfl (any_of HT_.out (by kernel_rfl)) (fun _ _ _ h => h) (Or.inr ⟨by rfl, rfl⟩) ?_ ?_
             rotate_left
             ·exact ax4
             refine pure_ (i := 13) (N := some 48) (v := undef) (a' := ?_) (ob 18 16383) rfl rfl (any_of HT_.out (by kernel_rfl)) (fun _ _ _ h => h) (Or.inr ⟨by rfl, rfl⟩) ?_ ?_
             rotate_left
             ·exact ax4
             refine pure_ (i := 14) (N := some 49) (v := undef) (a' := ?_) (ob 18 32767) rfl rfl (any_of HT_.out (by kernel_rfl)) (fun _ _ _ h => h) (Or.inr ⟨by rfl, rfl⟩) ?_ ?_
             rotate_left
             ·exact ax4
             refine pure_ (i := 15) (N := some 50) (v := undef) (a' := ?_) (ob 18 65535) rfl rfl (any_of HT_.out (by kernel_rfl)) (fun _ _ _ h => h) (Or.inr ⟨by rfl, rfl⟩) ?_ ?_
             rotate_left
             ·exact ax4
             refine pure_ (i := 16) (N := some 51) (v := undef) (a' := ?_) (ob 18 131071) rfl rfl (any_of HT_.out (by kernel_rfl)) (fun _ _ _ h => h) (Or.inr ⟨by rfl, rfl⟩) ?_ ?_
             rotate_left
             ·exact ax4
             refine pure_ (i := 17) (N := some 52) (v := ?_) (a' := ?_) (ob 18 262143) rfl rfl (any_of HT_.out (by kernel_rfl)) (fun _ _ _ h => h) (Or.inl ⟨by rfl, ?_⟩) ?_ ?_; rotate_left; exact ax3; rotate_left; exact ax4
             refine done_ (done_of HT_.out (by kernel_rfl)) ?_
             try go_wp2
             go_roundg k2
             case measure => have := HK1.out; have := HK2.out; omega
             case rel => exact ⟨(x8_2), (wrap64 (x9_2 - 1)), ax37, ax37, H', ⟨by have := HK1.out; have := HK2.out; omega⟩, ⟨by (with_reducible repeat (first | apply Kd.R_alloc | apply Kd.R_drewN | apply Kd.R_drew)); exact HO_7.out⟩, ⟨by (with_reducible repeat (first | refine blk_drewN ?_ _ | refine blk_drew ?_ | refine blk_alloc ?_ _)); exact BK282.out⟩, ⟨by repeat (first | (with_reducible first | exact HB.out | apply below_alloc | apply pw_below_drewN | apply below_drew1 | refine below_set ?_ GE282.out) | exact HB.out)⟩⟩
            ·replace c35 := Bool.eq_false_iff.mpr c35
             subst c35
             have H1 : ((spec_l11Wins.f k2 l0_0 (rd t286 x9_2) a1 false).bind fun t294 => (if t294 = true then (spec_BestGame.l1 k2 a1 t286 x8_2 (wrap64 (x9_2 - 1)) l0_0) else (spec_BestGame.l1 k2 a1 t286 (rd t286 x9_2) (wrap64 (x9_2 - 1)) l0_0))) = some (r1, r2) := by rw [if_neg (show ¬ (false = true) by decide)] at H; exact H
             clear H; have H := H1; clear H1; replace H := Option.bind_eq_some_iff.mp H
             obtain ⟨t294, A380, H⟩ := H
             replace H : (if t294 = true then (spec_BestGame.l1 k2 a1 t286 x8_2 (wrap64 (x9_2 - 1)) l0_0) else (spec_BestGame.l1 k2 a1 t286 (rd t286 x9_2) (wrap64 (x9_2 - 1)) l0_0)) = some (r1, r2) := H
             have A38 := Aside0.mk A380; clear A380
             by_cases c39 : t294 = true
             ·subst c39
              have H1 : (spec_BestGame.l1 k2 a1 t286 x8_2 (wrap64 (x9_2 - 1)) l0_0) = some (r1, r2) := by rw [if_pos rfl] at H; exact H
              clear H; have H := H1; clear H1
              have H' := Aside0.mk H
              clear H
              try go_wp2
              have n0_ := Aside0.mk (Kd.R_drew HO_7.out); have n1_ := Aside0.mk (blk_drew BK282.out); have n2_ := Aside0.mk (below_drew1 HB.out); clear HO_7; clear BK282; clear HB; have HO_7 := n0_; have BK282 := n1_; have HB := n2_; clear n0_ n1_ n2_
              have p291 : 0 ≤ (x9_2 : Int) := of_decide_eq_true ax36
              have q291 : x9_2 < (t286.length : Int) := of_decide_eq_true ax36
              obtain ⟨ad291, e291, hx291_0⟩ := Kd.at_int (Kd.R_reads' HO_7.out).2.2 x9_2 p291 q291
              obtain rfl : ad290 = ad291 := (by injection e291)
              replace p291 := eq_true p291; replace q291 := eq_true q291
              have p293 : 0 ≤ (x9_2 : Int) := of_decide_eq_true ax36
              have q293 : x9_2 < (t286.length : Int) := of_decide_eq_true ax36
              obtain ⟨ad293, e293, hx293_0⟩ := Kd.at_int (Kd.R_reads' HO_7.out).2.2 x9_2 p293 q293
              obtain rfl : ad290 = ad293 := (by injection e293)
              replace p293 := eq_true p293; replace q293 := eq_true q293
              refine start_ (n := 18) (S := fun w' => w'.cell? ⟨gb282, 0, none⟩ = some (.slice A0_0 l0_0.length c0_0) ∧ w'.cell? (ad290.add (x9_2).toNat) = some (.int .i64 (rd t286 x9_2)) ∧ w'.cell? (ad290.add (x9_2).toNat) = some (.int .i64 (rd t286 x9_2))) (ds := []) (ob 18 0) (by kernel_rfl) rfl rfl ⟨(blk_cell BK282.out 0).trans rfl, hx291_0, hx293_0⟩ (fun hHeld => ?_); refine with_tabW spec_BestGame.tab11 spec_BestGame.bits11 (fun HT_ HW_ => ?_)
              generalize wr.drew = w40 at HO_7 BK282 HB hx291_0 hx293_0 hHeld ⊢
              refine pure_ (i := 1) (N := some 36) (v := ?_) (a' := ?_) (ob 18 2) rfl rfl (any_of HT_.out (by kernel_rfl)) (fun _ _ _ h => h) (Or.inl ⟨by rfl, ?_⟩) ?_ ?_; rotate_left; exact ax3; rotate_left; exact ax4
              refine pure_ (i := 2) (N := some 37) (v := ?_) (a' := ?_) (ob 18 6) rfl rfl (any_of HT_.out (by kernel_rfl)) (fun _ _ _ h => h) (Or.inl ⟨by rfl, ?_⟩) ?_ ?_; rotate_left; exact ax3; rotate_left; exact ax4
              refine pure_ (i := 3) (N := some 38) (v := ?_) (a' := ?_) (ob 18 14) rfl rfl (any_of HT_.out (by kernel_rfl)) (fun _ _ _ h => h) (Or.inl ⟨by rfl, ?_⟩) ?_ ?_; rotate_left; exact ax3; rotate_left; exact ax4
              refine pure_ (i := 5) (N := some 40) (v := ?_) (a' := ?_) (ob 18 46) rfl rfl (any_of HT_.out (by kernel_rfl)) (fun _ _ _ h => h) (Or.inl ⟨by rfl, ?_⟩) ?_ ?_; rotate_left; exact ax3; rotate_left; exact ax4
              refine take_ (i := 0) (N := some 35) (v := ?_) (a' := ?_) (ob 18 47) rfl rfl (take_ofW HT_.out HW_.out (by kernel_rfl)) (fun _ _ _ h => h) (Or.inl ⟨by rfl, ?_⟩) hHeld ?_ ?_; rotate_left; exact ax16; rotate_left; exact ax4
              refine take_ (i := 4) (N := some 39) (v := ?_) (a' := ?_) (ob 18 63) rfl rfl (take_ofW HT_.out HW_.out (by kernel_rfl)) (fun _ _ _ h => h) (Or.inl ⟨by rfl, ?_⟩) hHeld ?_ ?_; rotate_left; exact ax16; rotate_left; exact ax4
              refine one_ (i := 6) (N := some 41) (ob 18 127) rfl rfl (one_of HT_.out (by kernel_rfl)) (by decide) (fun K hK => ?_)
              refine goes_ Try.func57 (by kernel_rfl) rfl #[.agg #[.slice A0_0 l0_0.length c0_0], .int .i64 (rd t286 x9_2), .int .i64 a1] (by rfl) rfl rfl ax25 ?_
              with_reducible refine (spec_l11Fatal.calls k2 _ _ l0_0 (rd t286 x9_2) a1 false _ ?side1 ?side2 A34.out).mono ?_
              (case side1 => exact ax26)
              (case side2 => exact ax27)
              rintro e w41 ⟨rfl, hb⟩
              have HS1_ := (hb.cell (World.block_lt_of_cell? _ _ (hHeld.2.1))).trans (hHeld.2.1); have HS2_ := (hb.cell (World.block_lt_of_cell? _ _ (hHeld.2.2))).trans (hHeld.2.2)
              refine ⟨_, rfl, ?_⟩
              have n0_ := Aside0.mk (Kd.R_below ax150 hb)
              have n1_ := Aside0.mk (blk_below (g := gb282) (o := .cells #[.slice A0_0 l0_0.length c0_0] 30 (0, 0)) ax148 hb)
              have n2_ := Aside0.mk (below_step ax149 hb); clear HO_7; clear BK282; clear HB; have HO_7 := n0_; have BK282 := n1_; have HB := n2_; clear n0_ n1_ n2_; (try clear hb); (try clear hb2); (try clear hk); (try clear hi)
              refine hK.out _ _ ⟨(blk_cell BK282.out 0).trans rfl, HS1_, HS2_⟩ (fun hHeld => ?_)
              clear hK K
              refine norm_ (a' := ?_) ?_ ?_
              rotate_left
              ·exact ax20
              refine pure_ (i := 7) (N := some 42) (v := ?_) (a' := ?_) (ob 18 255) rfl rfl (any_of HT_.out (by kernel_rfl)) (fun _ _ _ h => h) (Or.inl ⟨by rfl, ?_⟩) ?_ ?_; rotate_left; exact ax3; rotate_left; exact ax4
              refine pure_ (i := 8) (N := some 43) (v := ?_) (a' := ?_) (ob 18 511) rfl rfl (any_of HT_.out (by kernel_rfl)) (fun _ _ _ h => h) (Or.inl ⟨by rfl, ?_⟩) ?_ ?_; rotate_left; exact ax3; rotate_left; exact ax4
              refine pure_ (i := 10) (N := some 45) (v := ?_) (a' := ?_) (ob 18 1535) rfl rfl (any_of HT_.out (by kernel_rfl)) (fun _ _ _ h => h) (Or.inl ⟨by rfl, ?_⟩) ?_ ?_; rotate_left; exact ax3; rotate_left; exact ax4
              refine pure_ (i := 11) (N := some 46) (v := ?_) (a' := ?_) (ob 18 3583) rfl rfl (any_of HT_.out (by kernel_rfl)) (fun _ _ _ h => h) (Or.inl ⟨by rfl, ?_⟩) ?_ ?_; rotate_left; exact ax3; rotate_left; exact ax4
              refine pure_ (i := 12) (N := some 47) (v := ?_) (a' := ?_) (ob 18 7679) rfl rfl (any_of HT_.out (by kernel_rfl)) (fun _ _ _ h => h) (Or.inl ⟨by rfl, ?_⟩) ?_ ?_; rotate_left; exact ax3; rotate_left; exact ax4
              refine pure_ (i := 14) (N := some 49) (v := ?_) (a' := ?_) (ob 18 24063) rfl rfl (any_of HT_.out (by kernel_rfl)) (fun _ _ _ h => h) (Or.inl ⟨by rfl, ?_⟩) ?_ ?_; rotate_left; exact ax3; rotate_left; exact ax4
              refine take_ (i := 9) (N := some 44) (v := ?_) (a' := ?_) (ob 18 24575) rfl rfl (take_ofW HT_.out HW_.out (by kernel_rfl)) (fun _ _ _ h => h) (Or.inl ⟨by rfl, ?_⟩) hHeld ?_ ?_; rotate_left; exact ax16; rotate_left; exact ax4
              refine take_ (i := 13) (N := some 48) (v := ?_) (a' := ?_) (ob 18 32767) rfl rfl (take_ofW HT_.out HW_.out (by kernel_rfl)) (fun _ _ _ h => h) (Or.inl ⟨by rfl, ?_⟩) hHeld ?_ ?_; rotate_left; exact ax16; rotate_left; exact ax4
              refine one_ (i := 15) (N := some 50) (ob 18 65535) rfl rfl (one_of HT_.out (by kernel_rfl)) (by decide) (fun K hK => ?_)
              refine goes_ Try.func50 (by kernel_rfl) rfl #[.agg #[.slice A0_0 l0_0.length c0_0], .int .i64 (rd t286 x9_2), .int .i64 a1, .bool false] (by rfl) rfl rfl ax25 ?_
              with_reducible refine (spec_l11Wins.calls k2 _ _ l0_0 (rd t286 x9_2) a1 false true _ ?side1 ?side2 A38.out).mono ?_
              (case side1 => exact ax26)
              (case side2 => exact ax27)
              rintro e w42 ⟨rfl, hb⟩
              have HS1_ := (hb.cell (World.block_lt_of_cell? _ _ (hHeld.2.1))).trans (hHeld.2.1); have HS2_ := (hb.cell (World.block_lt_of_cell? _ _ (hHeld.2.2))).trans (hHeld.2.2)
              refine ⟨_, rfl, ?_⟩
              have n0_ := Aside0.mk (Kd.R_below ax150 hb)
              have n1_ := Aside0.mk (blk_below (g := gb282) (o := .cells #[.slice A0_0 l0_0.length c0_0] 30 (0, 0)) ax148 hb)
              have n2_ := Aside0.mk (below_step ax149 hb); clear HO_7; clear BK282; clear HB; have HO_7 := n0_; have BK282 := n1_; have HB := n2_; clear n0_ n1_ n2_; (try clear hb); (try clear hb2); (try clear hk); (try clear hi)
              refine hK.out _ _ ⟨(blk_cell BK282.out 0).trans rfl, HS1_, HS2_⟩ (fun hHeld => ?_)
              clear hK K
              refine norm_ (a' := ?_) ?_ ?_
              rotate_left
              ·show Act.put _ (some 50) _ = _
               simp only [Act.put, List.setIfInBounds_toArray, List.set_cons_zero, List.set_cons_succ, i64_w, i32_w]
               rfl
              refine pure_ (i := 16) (N := some 51) (v := ?_) (a' := ?_) (ob 18 131071) rfl rfl (any_of HT_.out (by kernel_rfl)) (fun _ _ _ h => h) (Or.inl ⟨by rfl, ?_⟩) ?_ ?_; rotate_left; exact ax3; rotate_left; exact ax4
              refine pure_ (i := 17) (N := some 52) (v := ?_) (a' := ?_) (ob 18 262143) rfl rfl (any_of HT_.out (by kernel_rfl)) (fun _ _ _ h => h) (Or.inl ⟨by rfl, ?_⟩) ?_ ?_; rotate_left; exact ax3; rotate_left; exact ax4
              refine done_ (done_of HT_.out (by kernel_rfl)) ?_
              try go_wp2
              go_roundg k2
              case measure => have := HK1.out; have := HK2.out; omega
              case rel => exact ⟨(x8_2), (wrap64 (x9_2 - 1)), ax37, ax37, H', ⟨by have := HK1.out; have := HK2.out; omega⟩, ⟨by (with_reducible repeat (first | apply Kd.R_alloc | apply Kd.R_drewN | apply Kd.R_drew)); exact HO_7.out⟩, ⟨by (with_reducible repeat (first | refine blk_drewN ?_ _ | refine blk_drew ?_ | refine blk_alloc ?_ _)); exact BK282.out⟩, ⟨by repeat (first | (with_reducible first | exact HB.out | apply below_alloc | apply pw_below_drewN | apply below_drew1 | refine below_set ?_ GE282.out) | exact HB.out)⟩⟩
             ·replace c39 := Bool.eq_false_iff.mpr c39
              subst c39
              have H1 : (spec_BestGame.l1 k2 a1 t286 (rd t286 x9_2) (wrap64 (x9_2 - 1)) l0_0) = some (r1, r2) := by rw [if_neg (show ¬ (false = true) by decide)] at H; exact H
              clear H; have H := H1; clear H1
              have H' := Aside0.mk H
              clear H
              try go_wp2
              have n0_ := Aside0.mk (Kd.R_drew HO_7.out); have n1_ := Aside0.mk (blk_drew BK282.out); have n2_ := Aside0.mk (below_drew1 HB.out); clear HO_7; clear BK282; clear HB; have HO_7 := n0_; have BK282 := n1_; have HB := n2_; clear n0_ n1_ n2_
              have p291 : 0 ≤ (x9_2 : Int) := of_decide_eq_true ax36
              have q291 : x9_2 < (t286.length : Int) := of_decide_eq_true ax36
              obtain ⟨ad291, e291, hx291_0⟩ := Kd.at_int (Kd.R_reads' HO_7.out).2.2 x9_2 p291 q291
              obtain rfl : ad290 = ad291 := (by injection e291)
              replace p291 := eq_true p291; replace q291 := eq_true q291
              have p293 : 0 ≤ (x9_2 : Int) := of_decide_eq_true ax36
              have q293 : x9_2 < (t286.length : Int) := of_decide_eq_true ax36
              obtain ⟨ad293, e293, hx293_0⟩ := Kd.at_int (Kd.R_reads' HO_7.out).2.2 x9_2 p293 q293
              obtain rfl : ad290 = ad293 := (by injection e293)
              replace p293 := eq_true p293; replace q293 := eq_true q293
              refine start_ (n := 18) (S := fun w' => w'.cell? ⟨gb282, 0, none⟩ = some (.slice A0_0 l0_0.length c0_0) ∧ w'.cell? (ad290.add (x9_2).toNat) = some (.int .i64 (rd t286 x9_2)) ∧ w'.cell? (ad290.add (x9_2).toNat) = some (.int .i64 (rd t286 x9_2))) (ds := []) (ob 18 0) (by kernel_rfl) rfl rfl ⟨(blk_cell BK282.out 0).trans rfl, hx291_0, hx293_0⟩ (fun hHeld => ?_); refine with_tabW spec_BestGame.tab11 spec_BestGame.bits11 (fun HT_ HW_ => ?_)
              generalize wr.drew = w43 at HO_7 BK282 HB hx291_0 hx293_0 hHeld ⊢
              refine pure_ (i := 1) (N := some 36) (v := ?_) (a' := ?_) (ob 18 2) rfl rfl (any_of HT_.out (by kernel_rfl)) (fun _ _ _ h => h) (Or.inl ⟨by rfl, ?_⟩) ?_ ?_; rotate_left; exact ax3; rotate_left; exact ax4
              refine pure_ (i := 2) (N := some 37) (v := ?_) (a' := ?_) (ob 18 6) rfl rfl (any_of HT_.out (by kernel_rfl)) (fun _ _ _ h => h) (Or.inl ⟨by rfl, ?_⟩) ?_ ?_; rotate_left; exact ax3; rotate_left; exact ax4
              refine pure_ (i := 3) (N := some 38) (v := ?_) (a' := ?_) (ob 18 14) rfl rfl (any_of HT_.out (by kernel_rfl)) (fun _ _ _ h => h) (Or.inl ⟨by rfl, ?_⟩) ?_ ?_; rotate_left; exact ax3; rotate_left; exact ax4
              refine pure_ (i := 5) (N := some 40) (v := ?_) (a' := ?_) (ob 18 46) rfl rfl (any_of HT_.out (by kernel_rfl)) (fun _ _ _ h => h) (Or.inl ⟨by rfl, ?_⟩) ?_ ?_; rotate_left; exact ax3; rotate_left; exact ax4
              refine take_ (i := 0) (N := some 35) (v := ?_) (a' := ?_) (ob 18 47) rfl rfl (take_ofW HT_.out HW_.out (by kernel_rfl)) (fun _ _ _ h => h) (Or.inl ⟨by rfl, ?_⟩) hHeld ?_ ?_; rotate_left; exact ax16; rotate_left; exact ax4
              refine take_ (i := 4) (N := some 39) (v := ?_) (a' := ?_) (ob 18 63) rfl rfl (take_ofW HT_.out HW_.out (by kernel_rfl)) (fun _ _ _ h => h) (Or.inl ⟨by rfl, ?_⟩) hHeld ?_ ?_; rotate_left; exact ax16; rotate_left; exact ax4
              refine one_ (i := 6) (N := some 41) (ob 18 127) rfl rfl (one_of HT_.out (by kernel_rfl)) (by decide) (fun K hK => ?_)
              refine goes_ Try.func57 (by kernel_rfl) rfl #[.agg #[.slice A0_0 l0_0.length c0_0], .int .i64 (rd t286 x9_2), .int .i64 a1] (by rfl) rfl rfl ax25 ?_
              with_reducible refine (spec_l11Fatal.calls k2 _ _ l0_0 (rd t286 x9_2) a1 false _ ?side1 ?side2 A34.out).mono ?_
              (case side1 => exact ax26)
              (case side2 => exact ax27)
              rintro e w44 ⟨rfl, hb⟩
              have HS1_ := (hb.cell (World.block_lt_of_cell? _ _ (hHeld.2.1))).trans (hHeld.2.1); have HS2_ := (hb.cell (World.block_lt_of_cell? _ _ (hHeld.2.2))).trans (hHeld.2.2)
              refine ⟨_, rfl, ?_⟩
              have n0_ := Aside0.mk (Kd.R_below ax150 hb)
              have n1_ := Aside0.mk (blk_below (g := gb282) (o := .cells #[.slice A0_0 l0_0.length c0_0] 30 (0, 0)) ax148 hb)
              have n2_ := Aside0.mk (below_step ax149 hb); clear HO_7; clear BK282; clear HB; have HO_7 := n0_; have BK282 := n1_; have HB := n2_; clear n0_ n1_ n2_; (try clear hb); (try clear hb2); (try clear hk); (try clear hi)
              refine hK.out _ _ ⟨(blk_cell BK282.out 0).trans rfl, HS1_, HS2_⟩ (fun hHeld => ?_)
              clear hK K
              refine norm_ (a' := ?_) ?_ ?_
              rotate_left
              ·exact ax20
              refine pure_ (i := 7) (N := some 42) (v := ?_) (a' := ?_) (ob 18 255) rfl rfl (any_of HT_.out (by kernel_rfl)) (fun _ _ _ h => h) (Or.inl ⟨by rfl, ?_⟩) ?_ ?_; rotate_left; exact ax3; rotate_left; exact ax4
              refine pure_ (i := 8) (N := some 43) (v := ?_) (a' := ?_) (ob 18 511) rfl rfl (any_of HT_.out (by kernel_rfl)) (fun _ _ _ h => h) (Or.inl ⟨by rfl, ?_⟩) ?_ ?_; rotate_left; exact ax3; rotate_left; exact ax4
              refine pure_ (i := 10) (N := some 45) (v := ?_) (a' := ?_) (ob 18 1535) rfl rfl (any_of HT_.out (by kernel_rfl)) (fun _ _ _ h => h) (Or.inl ⟨by rfl, ?_⟩) ?_ ?_; rotate_left; exact ax3; rotate_left; exact ax4
              refine pure_ (i := 11) (N := some 46) (v := ?_) (a' := ?_) (ob 18 3583) rfl rfl (any_of HT_.out (by kernel_rfl)) (fun _ _ _ h => h) (Or.inl ⟨by rfl, ?_⟩) ?_ ?_; rotate_left; exact ax3; rotate_left; exact ax4
              refine pure_ (i := 12) (N := some 47) (v := ?_) (a' := ?_) (ob 18 7679) rfl rfl (any_of HT_.out (by kernel_rfl)) (fun _ _ _ h => h) (Or.inl ⟨by rfl, ?_⟩) ?_ ?_; rotate_left; exact ax3; rotate_left; exact ax4
              refine pure_ (i := 14) (N := some 49) (v := ?_) (a' := ?_) (ob 18 24063) rfl rfl (any_of HT_.out (by kernel_rfl)) (fun _ _ _ h => h) (Or.inl ⟨by rfl, ?_⟩) ?_ ?_; rotate_left; exact ax3; rotate_left; exact ax4
              refine take_ (i := 9) (N := some 44) (v := ?_) (a' := ?_) (ob 18 24575) rfl rfl (take_ofW HT_.out HW_.out (by kernel_rfl)) (fun _ _ _ h => h) (Or.inl ⟨by rfl, ?_⟩) hHeld ?_ ?_; rotate_left; exact ax16; rotate_left; exact ax4
              refine take_ (i := 13) (N := some 48) (v := ?_) (a' := ?_) (ob 18 32767) rfl rfl (take_ofW HT_.out HW_.out (by kernel_rfl)) (fun _ _ _ h => h) (Or.inl ⟨by rfl, ?_⟩) hHeld ?_ ?_; rotate_left; exact ax16; rotate_left; exact ax4
              refine one_ (i := 15) (N := some 50) (ob 18 65535) rfl rfl (one_of HT_.out (by kernel_rfl)) (by decide) (fun K hK => ?_)
              refine goes_ Try.func50 (by kernel_rfl) rfl #[.agg #[.slice A0_0 l0_0.length c0_0], .int .i64 (rd t286 x9_2), .int .i64 a1, .bool false] (by rfl) rfl rfl ax25 ?_
              with_reducible refine (spec_l11Wins.calls k2 _ _ l0_0 (rd t286 x9_2) a1 false false _ ?side1 ?side2 A38.out).mono ?_
              (case side1 => exact ax26)
              (case side2 => exact ax27)
              rintro e w45 ⟨rfl, hb⟩
              have HS1_ := (hb.cell (World.block_lt_of_cell? _ _ (hHeld.2.1))).trans (hHeld.2.1); have HS2_ := (hb.cell (World.block_lt_of_cell? _ _ (hHeld.2.2))).trans (hHeld.2.2)
              refine ⟨_, rfl, ?_⟩
              have n0_ := Aside0.mk (Kd.R_below ax150 hb)
              have n1_ := Aside0.mk (blk_below (g := gb282) (o := .cells #[.slice A0_0 l0_0.length c0_0] 30 (0, 0)) ax148 hb)
              have n2_ := Aside0.mk (below_step ax149 hb); clear HO_7; clear BK282; clear HB; have HO_7 := n0_; have BK282 := n1_; have HB := n2_; clear n0_ n1_ n2_; (try clear hb); (try clear hb2); (try clear hk); (try clear hi)
              refine hK.out _ _ ⟨(blk_cell BK282.out 0).trans rfl, HS1_, HS2_⟩ (fun hHeld => ?_)
              clear hK K
              refine norm_ (a' := ?_) ?_ ?_
              rotate_left
              ·show Act.put _ (some 50) _ = _
               simp only [Act.put, List.setIfInBounds_toArray, List.set_cons_zero, List.set_cons_succ, i64_w, i32_w]
               rfl
              refine pure_ (i := 16) (N := some 51) (v := ?_) (a' := ?_) (ob 18 131071) rfl rfl (any_of HT_.out (by kernel_rfl)) (fun _ _ _ h => h) (Or.inl ⟨by rfl, ?_⟩) ?_ ?_; rotate_left; exact ax3; rotate_left; exact ax4
              refine pure_ (i := 17) (N := some 52) (v := ?_) (a' := ?_) (ob 18 262143) rfl rfl (any_of HT_.out (by kernel_rfl)) (fun _ _ _ h => h) (Or.inl ⟨by rfl, ?_⟩) ?_ ?_; rotate_left; exact ax3; rotate_left; exact ax4
              refine done_ (done_of HT_.out (by kernel_rfl)) ?_
              have p295 : 0 ≤ (x9_2 : Int) := of_decide_eq_true ax36
              have q295 : x9_2 < (t286.length : Int) := of_decide_eq_true ax36
              obtain ⟨ad295, e295, hx295_0⟩ := Kd.at_int (Kd.R_reads' HO_7.out).2.2 x9_2 p295 q295
              obtain rfl : ad290 = ad295 := (by injection e295)
              replace p295 := eq_true p295; replace q295 := eq_true q295
              try go_wp2
              go_roundg k2
              case measure => have := HK1.out; have := HK2.out; omega
              case rel => exact ⟨(rd t286 x9_2), (wrap64 (x9_2 - 1)), ax37, ax37, H', ⟨by have := HK1.out; have := HK2.out; omega⟩, ⟨by (with_reducible repeat (first | apply Kd.R_alloc | apply Kd.R_drewN | apply Kd.R_drew)); exact HO_7.out⟩, ⟨by (with_reducible repeat (first | refine blk_drewN ?_ _ | refine blk_drew ?_ | refine blk_alloc ?_ _)); exact BK282.out⟩, ⟨by repeat (first | (with_reducible first | exact HB.out | apply below_alloc | apply pw_below_drewN | apply below_drew1 | refine below_set ?_ GE282.out) | exact HB.out)⟩⟩
           ·rw [if_neg c33] at H
            exact absurd H (by simp)
          ·rw [if_neg c32] at H
           exact absurd H (by simp)
         ·rw [if_neg c31] at H
          have c31b0 : decide (0 ≤ x9_2) = false := decide_eq_false c31
          clear c31
          have H' := Aside0.mk H
          clear H
          go_wp2
          go_roundg k2
          case measure => have := HK1.out; have := HK2.out; omega
          case rel => exact ⟨(x8_2), ax37, H', ⟨by have := HK1.out; have := HK2.out; omega⟩, ⟨by (with_reducible repeat (first | refine blk_drewN ?_ _ | refine blk_drew ?_ | refine blk_alloc ?_ _)); exact BK282.out⟩, ⟨by repeat (first | (with_reducible first | exact HB.out | apply below_alloc | apply pw_below_drewN | apply below_drew1 | refine below_set ?_ GE282.out) | exact HB.out)⟩⟩
      ·rw [if_neg c25] at H
       exact absurd H (by simp)
 ·replace c4 := Bool.eq_false_iff.mpr c4
  subst c4
  have H1 : (some ((⟨#[]⟩ : ByteArray), false)) = some (r1, r2) := by rw [if_neg (show ¬ (false = true) by decide)] at H; exact H
  clear H; have H := H1; clear H1
  simp only [Option.some.injEq, Prod.mk.injEq] at H
  obtain ⟨rfl, rfl⟩ := H
  go_enter Try.func38, Try.ntmps38
  go_wp2_with (first | ((with_reducible refine gate_dst (N := 2) rfl ?_); refine box_event ?hg (N := 2) ?hd (cs := #[.slice A0_0 l0_0.length c0_0]) (t := 30) ?hr ?_; (case hd => rfl); (case hg => rfl); (case hr => exact ax22); intro gb282 hg w46 hbox hb; have n0_ := Aside0.mk (below_step ax23 hb); have n1_ := Aside0.mk (hbox); have n2_ := Aside0.mk ((ax24 : w.heap.size ≤ gb282)); have n3_ := Aside0.mk ((ax24 : w.heap.size ≤ gb282)); clear HB; have HB := n0_; have BK282 := n1_; have GW282 := n2_; have GE282 := n3_; clear n0_ n1_ n2_ n3_; clear hb hbox hg; have hcz47_0 : w46.cell? ⟨gb282, 0, none⟩ = some (.slice A0_0 l0_0.length c0_0) := (blk_cell BK282.out 0).trans rfl; have hfz47_0 := blk_frozen BK282.out 0) | ((with_reducible refine gate_callee (f := 41) rfl ?_); refine goesL_ (some 12) rfl rfl Try.func41 (by kernel_rfl) rfl #[.agg #[.slice A0_0 l0_0.length c0_0], .int .i64 0, .int .i64 a1] rfl ax25 ?_; (with_reducible refine (spec_l11Good.calls k _ _ l0_0 0 a1 false _ ?side1 ?side2 A3.out).mono ?_); (case side1 => exact ax26); (case side2 => exact ax27); rintro e w48 ⟨rfl, hb⟩; refine ⟨_, rfl, ?_⟩; have n0_ := Aside0.mk (blk_below (g := gb282) (o := .cells #[.slice A0_0 l0_0.length c0_0] 30 (0, 0)) ax148 hb); have n1_ := Aside0.mk (below_step ax149 hb); clear BK282; clear HB; have BK282 := n0_; have HB := n1_; clear n0_ n1_; (try clear hb); (try clear hb2); (try clear hk); (try clear hi)))
  go_ret2
  exact ⟨by first | rfl | (simp [errW_none, errW_some] <;> rfl) | (simp [*, errW_none, errW_some] <;> rfl), by repeat (first | (with_reducible first | exact HB.out | apply below_alloc | apply pw_below_drewN | apply below_drew1 | refine below_set ?_ GE282.out) | exact HB.out)⟩

end Go.Proofs.Ytcbjfflaamlpcaa.X

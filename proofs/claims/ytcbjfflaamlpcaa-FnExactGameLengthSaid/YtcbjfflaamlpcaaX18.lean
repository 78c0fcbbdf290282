-- By gen.py (the session's own program over the kit's printer): functions of the program, each with its contract. Lean checks it.
import Derived.Test.YtcbjfflaamlpcaaX0
import Derived.Test.YtcbjfflaamlpcaaX17
namespace Go.Proofs.Ytcbjfflaamlpcaa.X
open Go.RowKit Go.Proofs.YtcbjfflaamlpcaaW.PrintWords Go.Proofs.YtcbjfflaamlpcaaW.PrintLast Go.Proofs.YtcbjfflaamlpcaaW.PrintMore
attribute [local go_sem] max2_int min2_int max_two min_two max_three min_three max_four min_four   -- for this text's walks alone
set_option linter.unusedVariables false
set_option linter.unusedSimpArgs false

/-! ### impl_game_length: function 67 -/
mutual
def impl_game_length.l0 : Nat → Int → Bool → List Int → Int → Int → List (S67) → Int → List ByteArray → Option (Int)
 | 0, _, _, _, _, _, _, _, _ => none
 | k + 1, x5, x6, x21, x22, x23, x422000, x422001, x422002 => if x23 < x22 then (if 0 ≤ x23 then (if x23 < (x21.length : Int) then ((impl_game_length.f k x422000 x422001 x422002 (rd x21 x23)).bind fun t428 => (if x6 = true then ((impl_game_isGood.f k x422000 x422001 x422002 (rd x21 x23)).bind fun t429 => (impl_game_length.j1 k x5 x6 (wrap64 (t428 + 1)) x21 x22 x23 (!t429) x422000 x422001 x422002)) else (impl_game_length.j1 k x5 x6 (wrap64 (t428 + 1)) x21 x22 x23 false x422000 x422001 x422002))) else (none)) else (none)) else (some (mx x5 0))
def impl_game_length.j1 : Nat → Int → Bool → Int → List Int → Int → Int → Bool → List (S67) → Int → List ByteArray → Option (Int)
 | 0, _, _, _, _, _, _, _, _, _, _ => none
 | k + 1, x5, x6, x9, x21, x22, x23, x31, x422000, x422001, x422002 => if x31 = true then (impl_game_length.l0 k x5 x6 x21 x22 (wrap64 (x23 + 1)) x422000 x422001 x422002) else (if x5 < 0 then (impl_game_length.l0 k x9 x6 x21 x22 (wrap64 (x23 + 1)) x422000 x422001 x422002) else (if x6 = true then (if x9 < x5 then (impl_game_length.l0 k x9 x6 x21 x22 (wrap64 (x23 + 1)) x422000 x422001 x422002) else (impl_game_length.l0 k x5 x6 x21 x22 (wrap64 (x23 + 1)) x422000 x422001 x422002)) else (if x9 > x5 then (impl_game_length.l0 k x9 x6 x21 x22 (wrap64 (x23 + 1)) x422000 x422001 x422002) else (impl_game_length.l0 k x5 x6 x21 x22 (wrap64 (x23 + 1)) x422000 x422001 x422002))))
def impl_game_length.f : Nat → List (S67) → Int → List ByteArray → Int → Option (Int)
 | 0, _, _, _, _ => none
 | k + 1, l0_0, a0_1, l0_2, a1 => (impl_game_wins.f k l0_0 a0_1 l0_2 a1).bind fun t422 => ((impl_game_isFatal.f l0_0 a0_1 l0_2 a1).bind fun t423 => (if t423 = true then (some 0) else ((impl_Trie_kids.f k l0_0 a1).bind fun t424 => (impl_game_length.l0 k (-1) t422 t424 (t424.length : Int) 0 l0_0 a0_1 l0_2))))
end
theorem impl_game_length.mono_l : ∀ k, (∀ y0 y1 y2 y3, LeO (impl_game_length.f k y0 y1 y2 y3) (impl_game_length.f (k + 1) y0 y1 y2 y3)) ∧ (∀ y0 y1 y2 y3 y4 y5 y6 y7, LeO (impl_game_length.l0 k y0 y1 y2 y3 y4 y5 y6 y7) (impl_game_length.l0 (k + 1) y0 y1 y2 y3 y4 y5 y6 y7)) ∧ (∀ y0 y1 y2 y3 y4 y5 y6 y7 y8 y9, LeO (impl_game_length.j1 k y0 y1 y2 y3 y4 y5 y6 y7 y8 y9) (impl_game_length.j1 (k + 1) y0 y1 y2 y3 y4 y5 y6 y7 y8 y9))
 | 0 => ⟨fun _ _ _ _ r h => by simp [impl_game_length.f] at h, fun _ _ _ _ _ _ _ _ r h => by simp [impl_game_length.l0] at h, fun _ _ _ _ _ _ _ _ _ _ r h => by simp [impl_game_length.j1] at h⟩
 | k + 1 => by
  obtain ⟨ih0, ih1, ih2⟩ := impl_game_length.mono_l k
  refine ⟨?_, ?_, ?_⟩
  ·intro y0 y1 y2 y3
   unfold impl_game_length.f
   repeat' first
   | (with_reducible exact ih0 _ _ _ _)
   | (with_reducible exact ih1 _ _ _ _ _ _ _ _)
   | (with_reducible exact ih2 _ _ _ _ _ _ _ _ _ _)
   | (with_reducible exact impl_Trie_kids.mono _ _ _)
   | (with_reducible exact impl_game_isGood.mono _ _ _ _ _)
   | (with_reducible exact impl_game_wins.mono _ _ _ _ _)
   | (with_reducible exact LeO.refl _)
   | (with_reducible exact LeO.none _)
   | (with_reducible refine LeO.ite ?_ ?_)
   | (with_reducible refine LeO.bind ?_ (fun _ => ?_))
   | exact ih0 _ _ _ _
   | exact ih1 _ _ _ _ _ _ _ _
   | exact ih2 _ _ _ _ _ _ _ _ _ _
   | exact impl_Trie_kids.mono _ _ _
   | exact impl_game_isGood.mono _ _ _ _ _
   | exact impl_game_wins.mono _ _ _ _ _
   | exact LeO.none _
   | refine LeO.ite ?_ ?_
   | refine LeO.bind ?_ (fun _ => ?_)
  ·intro y0 y1 y2 y3 y4 y5 y6 y7
   unfold impl_game_length.l0
   repeat' first
   | (with_reducible exact ih0 _ _ _ _)
   | (with_reducible exact ih1 _ _ _ _ _ _ _ _)
   | (with_reducible exact ih2 _ _ _ _ _ _ _ _ _ _)
   | (with_reducible exact impl_Trie_kids.mono _ _ _)
   | (with_reducible exact impl_game_isGood.mono _ _ _ _ _)
   | (with_reducible exact impl_game_wins.mono _ _ _ _ _)
   | (with_reducible exact LeO.refl _)
   | (with_reducible exact LeO.none _)
   | (with_reducible refine LeO.ite ?_ ?_)
   | (with_reducible refine LeO.bind ?_ (fun _ => ?_))
   | exact ih0 _ _ _ _
   | exact ih1 _ _ _ _ _ _ _ _
   | exact ih2 _ _ _ _ _ _ _ _ _ _
   | exact impl_Trie_kids.mono _ _ _
   | exact impl_game_isGood.mono _ _ _ _ _
   | exact impl_game_wins.mono _ _ _ _ _
   | exact LeO.none _
   | refine LeO.ite ?_ ?_
   | refine LeO.bind ?_ (fun _ => ?_)
  ·intro y0 y1 y2 y3 y4 y5 y6 y7 y8 y9
   unfold impl_game_length.j1
   repeat' first
   | (with_reducible exact ih0 _ _ _ _)
   | (with_reducible exact ih1 _ _ _ _ _ _ _ _)
   | (with_reducible exact ih2 _ _ _ _ _ _ _ _ _ _)
   | (with_reducible exact impl_Trie_kids.mono _ _ _)
   | (with_reducible exact impl_game_isGood.mono _ _ _ _ _)
   | (with_reducible exact impl_game_wins.mono _ _ _ _ _)
   | (with_reducible exact LeO.refl _)
   | (with_reducible exact LeO.none _)
   | (with_reducible refine LeO.ite ?_ ?_)
   | (with_reducible refine LeO.bind ?_ (fun _ => ?_))
   | exact ih0 _ _ _ _
   | exact ih1 _ _ _ _ _ _ _ _
   | exact ih2 _ _ _ _ _ _ _ _ _ _
   | exact impl_Trie_kids.mono _ _ _
   | exact impl_game_isGood.mono _ _ _ _ _
   | exact impl_game_wins.mono _ _ _ _ _
   | exact LeO.none _
   | refine LeO.ite ?_ ?_
   | refine LeO.bind ?_ (fun _ => ?_)
theorem impl_game_length.mono : ∀ a0 a1 a2 a3 k, LeO (impl_game_length.f k a0 a1 a2 a3) (impl_game_length.f (k + 1) a0 a1 a2 a3) := by
 intro a0 a1 a2 a3 k
 obtain ⟨ih0, ih1, ih2⟩ := impl_game_length.mono_l k
 exact ih0 a0 a1 a2 a3
set_option maxHeartbeats 8000000 in
set_option maxRecDepth 100000 in
theorem impl_game_length.calls (k : Nat) : ∀ (G0 : Nat) (A0_0 : Option Addr) (c0_0 : Nat) (l0_0 : List (S67)) (a0_1 : Int) (A0_2 : Option Addr) (c0_2 : Nat) (l0_2 : List ByteArray) (a1 : Int) (r : Int) (w : World) (hr0_0 : Kd.C k67 w A0_0 l0_0.length l0_0) (hc0_0 : l0_0.length ≤ c0_0) (hr0_2 : Kd.C Kd.string w A0_2 l0_2.length l0_2) (hc0_2 : l0_2.length ≤ c0_2) (hb0 : w.heap[G0]? = some (.cells #[.slice A0_0 l0_0.length c0_0, .int .i64 a0_1, .slice A0_2 l0_2.length c0_2] 69 (0, 0))) (h : impl_game_length.f k l0_0 a0_1 l0_2 a1 = some r),
  Calls Try.prog 67 #[.pointer (some ⟨G0, 0, none⟩), .int .i64 a1] w fun e w' => e = .returned (.int .i64 r) ∧ Below w.heap.size w w' := by
 induction k using Nat.strongRecOn with
 | _ k ih =>
 intro G0 A0_0 c0_0 l0_0 a0_1 A0_2 c0_2 l0_2 a1 r w hr0_0 hc0_0 hr0_2 hc0_2 hb0 h
 cases k with
 | zero => exact absurd h (by simp [impl_game_length.f])
 | succ k =>
 simp only [impl_game_length.f] at h
 have hu30 := Try.underlying30; have HR0_0 := Aside0.mk hr0_0; have HC0_0 := Aside0.mk hc0_0; clear hr0_0 hc0_0; have HR0_2 := Aside0.mk hr0_2; have HC0_2 := Aside0.mk hc0_2; clear hr0_2 hc0_2; have BK421 := Aside0.mk hb0; clear hb0; have HB := Aside0.mk (Below.refl w.heap.size w)
 have H : ((impl_game_wins.f k l0_0 a0_1 l0_2 a1).bind fun t422 => ((impl_game_isFatal.f l0_0 a0_1 l0_2 a1).bind fun t423 => (if t423 = true then (some 0) else ((impl_Trie_kids.f k l0_0 a1).bind fun t424 => (impl_game_length.l0 k (-1) t422 t424 (t424.length : Int) 0 l0_0 a0_1 l0_2))))) = some r := h
 clear h; replace H := Option.bind_eq_some_iff.mp H
 obtain ⟨t422, A30, H⟩ := H
 replace H : ((impl_game_isFatal.f l0_0 a0_1 l0_2 a1).bind fun t423 => (if t423 = true then (some 0) else ((impl_Trie_kids.f k l0_0 a1).bind fun t424 => (impl_game_length.l0 k (-1) t422 t424 (t424.length : Int) 0 l0_0 a0_1 l0_2)))) = some r := H
 have A3 := Aside0.mk A30; clear A30; replace H := Option.bind_eq_some_iff.mp H
 obtain ⟨t423, A40, H⟩ := H
 replace H : (if t423 = true then (some 0) else ((impl_Trie_kids.f k l0_0 a1).bind fun t424 => (impl_game_length.l0 k (-1) t422 t424 (t424.length : Int) 0 l0_0 a0_1 l0_2))) = some r := H
 have A4 := Aside0.mk A40; clear A40
 by_cases c5 : t423 = true
 ·subst c5
  have H1 : (some 0) = some r := by rw [if_pos rfl] at H; exact H
  clear H; have H := H1; clear H1
  obtain rfl := Option.some.inj H
  go_enter Try.func67, Try.ntmps67
  go_wp2_with (first | ((with_reducible refine gate_callee (f := 53) rfl ?_); refine goesL_ (some 12) rfl rfl Try.func53 (by kernel_rfl) rfl #[.pointer (some ⟨G0, 0, none⟩), .int .i64 a1] rfl ax27 ?_; (with_reducible refine (impl_game_wins.calls k G0 A0_0 c0_0 l0_0 a0_1 A0_2 c0_2 l0_2 a1 t422 _ ?side1 ?side2 ?side3 ?side4 ?side5 A3.out).mono ?_); (case side1 => exact ax224); (case side2 => exact ax29); (case side3 => exact ax225); (case side4 => exact HC0_2.out); (case side5 => exact ax226); rintro e w6 ⟨rfl, hb⟩; refine ⟨_, rfl, ?_⟩; have n0_ := Aside0.mk (blk_below (g := G0) (o := .cells #[.slice A0_0 l0_0.length c0_0, .int .i64 a0_1, .slice A0_2 l0_2.length c0_2] 69 (0, 0)) ax226 hb); have n1_ := Aside0.mk (below_step ax227 hb); clear BK421; clear HB; have BK421 := n0_; have HB := n1_; clear n0_ n1_; (try clear hb); (try clear hb2); (try clear hk); (try clear hi)) | ((with_reducible refine gate_callee (f := 63) rfl ?_); refine goesL_ (some 15) rfl rfl Try.func63 (by kernel_rfl) rfl #[.pointer (some ⟨G0, 0, none⟩), .int .i64 a1] rfl ax27 ?_; (with_reducible refine (impl_game_isFatal.calls G0 A0_0 c0_0 l0_0 a0_1 A0_2 c0_2 l0_2 a1 true _ ?side1 ?side2 ?side3 ?side4 ?side5 A4.out).mono ?_); (case side1 => exact ax28); (case side2 => exact ax29); (case side3 => exact ax208); (case side4 => exact HC0_2.out); (case side5 => exact ax226); rintro e w7 ⟨rfl, hb⟩; refine ⟨_, rfl, ?_⟩; have n0_ := Aside0.mk (blk_below (g := G0) (o := .cells #[.slice A0_0 l0_0.length c0_0, .int .i64 a0_1, .slice A0_2 l0_2.length c0_2] 69 (0, 0)) ax226 hb); have n1_ := Aside0.mk (below_step ax227 hb); clear BK421; clear HB; have BK421 := n0_; have HB := n1_; clear n0_ n1_; (try clear hb); (try clear hb2); (try clear hk); (try clear hi)))
  go_ret
  exact ⟨by first | rfl | (simp [errW_none, errW_some] <;> rfl) | (simp [*, errW_none, errW_some] <;> rfl), by repeat (first | (with_reducible first | exact HB.out | apply below_alloc | apply pw_below_drewN | apply below_drew1 | refine below_set ?_ GE421.out) | exact HB.out)⟩
 ·replace c5 := Bool.eq_false_iff.mpr c5
  subst c5
  have H1 : ((impl_Trie_kids.f k l0_0 a1).bind fun t424 => (impl_game_length.l0 k (-1) t422 t424 (t424.length : Int) 0 l0_0 a0_1 l0_2)) = some r := by rw [if_neg (show ¬ (false = true) by decide)] at H; exact H
  clear H; have H := H1; clear H1; replace H := Option.bind_eq_some_iff.mp H
  obtain ⟨t424, A80, H⟩ := H
  replace H : (impl_game_length.l0 k (-1) t422 t424 (t424.length : Int) 0 l0_0 a0_1 l0_2) = some r := H
  have A8 := Aside0.mk A80; clear A80
  have H' := Aside0.mk H
  clear H
  go_enter Try.func67, Try.ntmps67
  go_wp2_with (first | ((with_reducible refine gate_callee (f := 53) rfl ?_); refine goesL_ (some 12) rfl rfl Try.func53 (by kernel_rfl) rfl #[.pointer (some ⟨G0, 0, none⟩), .int .i64 a1] rfl ax27 ?_; (with_reducible refine (impl_game_wins.calls k G0 A0_0 c0_0 l0_0 a0_1 A0_2 c0_2 l0_2 a1 t422 _ ?side1 ?side2 ?side3 ?side4 ?side5 A3.out).mono ?_); (case side1 => exact ax224); (case side2 => exact ax29); (case side3 => exact ax225); (case side4 => exact HC0_2.out); (case side5 => exact ax226); rintro e w9 ⟨rfl, hb⟩; refine ⟨_, rfl, ?_⟩; have n0_ := Aside0.mk (blk_below (g := G0) (o := .cells #[.slice A0_0 l0_0.length c0_0, .int .i64 a0_1, .slice A0_2 l0_2.length c0_2] 69 (0, 0)) ax226 hb); have n1_ := Aside0.mk (below_step ax227 hb); clear BK421; clear HB; have BK421 := n0_; have HB := n1_; clear n0_ n1_; (try clear hb); (try clear hb2); (try clear hk); (try clear hi)) | ((with_reducible refine gate_callee (f := 63) rfl ?_); refine goesL_ (some 15) rfl rfl Try.func63 (by kernel_rfl) rfl #[.pointer (some ⟨G0, 0, none⟩), .int .i64 a1] rfl ax27 ?_; (with_reducible refine (impl_game_isFatal.calls G0 A0_0 c0_0 l0_0 a0_1 A0_2 c0_2 l0_2 a1 false _ ?side1 ?side2 ?side3 ?side4 ?side5 A4.out).mono ?_); (case side1 => exact ax28); (case side2 => exact ax29); (case side3 => exact ax208); (case side4 => exact HC0_2.out); (case side5 => exact ax226); rintro e w10 ⟨rfl, hb⟩; refine ⟨_, rfl, ?_⟩; have n0_ := Aside0.mk (blk_below (g := G0) (o := .cells #[.slice A0_0 l0_0.length c0_0, .int .i64 a0_1, .slice A0_2 l0_2.length c0_2] 69 (0, 0)) ax226 hb); have n1_ := Aside0.mk (below_step ax227 hb); clear BK421; clear HB; have BK421 := n0_; have HB := n1_; clear n0_ n1_; (try clear hb); (try clear hb2); (try clear hk); (try clear hi); have hcz11_0 : w10.cell? ⟨G0, 0, none⟩ = some (.slice A0_0 l0_0.length c0_0) := (blk_cell BK421.out 0).trans rfl; have hcz11_1 : w10.cell? ⟨G0, 1, none⟩ = some (.int .i64 a0_1) := (blk_cell BK421.out 1).trans rfl; have hcz11_2 : w10.cell? ⟨G0, 2, none⟩ = some (.slice A0_2 l0_2.length c0_2) := (blk_cell BK421.out 2).trans rfl; have hfz11_0 := blk_frozen BK421.out 0; have hfz11_1 := blk_frozen BK421.out 1; have hfz11_2 := blk_frozen BK421.out 2) | ((with_reducible refine gate_callee (f := 59) rfl ?_); refine goesL_ (some 21) rfl rfl Try.func59 (by kernel_rfl) rfl #[.agg #[.slice A0_0 l0_0.length c0_0], .int .i64 a1] rfl ax27 ?_; (with_reducible refine (impl_Trie_kids.calls k _ _ l0_0 a1 t424 _ ?side1 ?side2 A8.out).mono ?_); (case side1 => exact ax28); (case side2 => exact ax29); rintro e w12 ⟨v425, rfl, ho0, hb⟩; refine ⟨_, rfl, ?_⟩; have n0_ := Aside0.mk (Kd.R_lower ho0 (below_size ax227)); have n1_ := Aside0.mk (blk_below (g := G0) (o := .cells #[.slice A0_0 l0_0.length c0_0, .int .i64 a0_1, .slice A0_2 l0_2.length c0_2] 69 (0, 0)) ax226 hb); have n2_ := Aside0.mk (below_step ax227 hb); clear BK421; clear HB; have HO426 := n0_; have BK421 := n1_; have HB := n2_; clear n0_ n1_ n2_; (try clear hb); (try clear hb2); (try clear hk); (try clear hi); (try clear ho0); obtain ⟨Ao13, co13, eo13⟩ := Kd.R_slice HO426.out; subst eo13))
  go_loopg [5, 23] k (fun kq v5 v23 w' => ∃ (x5_1 : Int) (x23_1 : Int), v5 = .int .i64 x5_1 ∧ v23 = .int .i64 x23_1 ∧ Aside0 (impl_game_length.l0 kq x5_1 t422 t424 (t424.length : Int) x23_1 l0_0 a0_1 l0_2 = some r) ∧ Aside0 (kq ≤ k) ∧ Aside0 (Kd.R (Kd.int .i64) 3 w' w.heap.size (fun _ => True) (.slice Ao13 t424.length co13) t424) ∧ Aside0 (w'.heap[G0]? = some (.cells #[(.slice A0_0 l0_0.length c0_0), .int .i64 a0_1, (.slice A0_2 l0_2.length c0_2)] 69 (0, 0))) ∧ Aside0 (Below w.heap.size w w'))
  case atStart => exact ⟨((-1)), (0), ax39, ax39, H', ⟨Nat.le_refl _⟩, ⟨by (with_reducible repeat (first | apply Kd.R_alloc | apply Kd.R_drewN | apply Kd.R_drew)); exact HO426.out⟩, ⟨by (with_reducible repeat (first | refine blk_drewN ?_ _ | refine blk_drew ?_ | refine blk_alloc ?_ _)); exact BK421.out⟩, ⟨by repeat (first | (with_reducible first | exact HB.out | apply below_alloc | apply pw_below_drewN | apply below_drew1 | refine below_set ?_ GE421.out) | exact HB.out)⟩⟩
  case round =>
   clear H'
   try clear p2
   try clear c5
   try clear c6
   try clear hcz11_0
   try clear hcz11_1
   try clear hcz11_2
   try clear hfz11_0
   try clear hfz11_1
   try clear hfz11_2
   obtain ⟨x5_1, x23_1, rfl, rfl, HA, HK1, HO_21, BK421, HB⟩ := hrel
   cases gk with
   | zero => exact absurd HA.out (by simp [impl_game_length.l0])
   | succ k1 =>
    have H := HA.out; clear HA
    simp only [impl_game_length.l0] at H
    by_cases c14 : x23_1 < (t424.length : Int)
    ·rw [if_pos c14] at H
     have c14b0 : decide (x23_1 < (t424.length : Int)) = true := decide_eq_true c14
     clear c14
     by_cases c15 : 0 ≤ x23_1
     ·rw [if_pos c15] at H
      have c15b0 : decide (0 ≤ x23_1) = true := decide_eq_true c15
      clear c15
      by_cases c16 : x23_1 < (t424.length : Int)
      ·rw [if_pos c16] at H
       have c16b0 : decide (x23_1 < (t424.length : Int)) = true := decide_eq_true c16
       clear c16; replace H := Option.bind_eq_some_iff.mp H
       obtain ⟨t428, A170, H⟩ := H
       replace H : (if t422 = true then ((impl_game_isGood.f k1 l0_0 a0_1 l0_2 (rd t424 x23_1)).bind fun t429 => (impl_game_length.j1 k1 x5_1 t422 (wrap64 (t428 + 1)) t424 (t424.length : Int) x23_1 (!t429) l0_0 a0_1 l0_2)) else (impl_game_length.j1 k1 x5_1 t422 (wrap64 (t428 + 1)) t424 (t424.length : Int) x23_1 false l0_0 a0_1 l0_2)) = some r := H
       have A17 := Aside0.mk A170; clear A170; have HC18 := Aside0.mk H; clear H
       have p427 : 0 ≤ (x23_1 : Int) := of_decide_eq_true ax38
       have q427 : x23_1 < (t424.length : Int) := of_decide_eq_true ax38
       obtain ⟨ad427, e427, hx427_0⟩ := Kd.at_int (Kd.R_reads' HO_21.out).2.2 x23_1 p427 q427
       cases e427; replace p427 := eq_true p427; replace q427 := eq_true q427
       go_upto_region 8 with (first | ((with_reducible refine gate_callee (f := 67) rfl ?_); refine goesL_ (some 29) rfl rfl Try.func67 (by kernel_rfl) rfl #[.pointer (some ⟨G0, 0, none⟩), .int .i64 (rd t424 x23_1)] rfl ax27 ?_; (with_reducible refine (ih k1 ax151 G0 A0_0 c0_0 l0_0 a0_1 A0_2 c0_2 l0_2 (rd t424 x23_1) t428 _ ?side1 ?side2 ?side3 ?side4 ?side5 A17.out).mono ?_); (case side1 => exact ax28); (case side2 => exact ax29); (case side3 => exact ax208); (case side4 => exact HC0_2.out); (case side5 => exact ax226); rintro e w19 ⟨rfl, hb⟩; refine ⟨_, rfl, ?_⟩; have n0_ := Aside0.mk (Kd.R_below ax228 hb); have n1_ := Aside0.mk (blk_below (g := G0) (o := .cells #[.slice A0_0 l0_0.length c0_0, .int .i64 a0_1, .slice A0_2 l0_2.length c0_2] 69 (0, 0)) ax226 hb); have n2_ := Aside0.mk (below_step ax227 hb); clear HO_21; clear BK421; clear HB; have HO_21 := n0_; have BK421 := n1_; have HB := n2_; clear n0_ n1_ n2_; (try clear hb); (try clear hb2); (try clear hk); (try clear hi)))
       (try simp only [Act.put, List.setIfInBounds_toArray, List.set_cons_zero, List.set_cons_succ])
       go_cut [31] (fun v31 wc => ∃ (kq : Nat) (x31_17 : Bool), v31 = .bool x31_17 ∧ Aside0 (impl_game_length.j1 kq x5_1 t422 (wrap64 (t428 + 1)) t424 (t424.length : Int) x23_1 x31_17 l0_0 a0_1 l0_2 = some r) ∧ Aside0 (kq ≤ k1) ∧ Aside0 (Kd.R (Kd.int .i64) 3 wc w.heap.size (fun _ => True) (.slice (some ad427) t424.length co13) t424) ∧ Aside0 (wc.heap[G0]? = some (.cells #[(.slice A0_0 l0_0.length c0_0), .int .i64 a0_1, (.slice A0_2 l0_2.length c0_2)] 69 (0, 0))) ∧ Aside0 (Below w.heap.size w wc))
       case first =>
        have H := HC18.out; clear HC18
        by_cases c20 : t422 = true
        ·subst c20
         have H1 : ((impl_game_isGood.f k1 l0_0 a0_1 l0_2 (rd t424 x23_1)).bind fun t429 => (impl_game_length.j1 k1 x5_1 true (wrap64 (t428 + 1)) t424 (t424.length : Int) x23_1 (!t429) l0_0 a0_1 l0_2)) = some r := by rw [if_pos rfl] at H; exact H
         clear H; have H := H1; clear H1; replace H := Option.bind_eq_some_iff.mp H
         obtain ⟨t429, A210, H⟩ := H
         replace H : (impl_game_length.j1 k1 x5_1 true (wrap64 (t428 + 1)) t424 (t424.length : Int) x23_1 (!t429) l0_0 a0_1 l0_2) = some r := H
         have A21 := Aside0.mk A210; clear A210
         have H' := Aside0.mk H
         clear H
         go_wp2_with (first | (go_at_call 60; (with_reducible refine (impl_game_isGood.calls k1 G0 A0_0 c0_0 l0_0 a0_1 A0_2 c0_2 l0_2 (rd t424 x23_1) t429 _ ?side1 ?side2 ?side3 ?side4 ?side5 A21.out).mono ?_); (case side1 => exact ax28); (case side2 => exact ax29); (case side3 => exact ax208); (case side4 => exact HC0_2.out); (case side5 => exact ax226); rintro e w22 ⟨rfl, hb⟩; have n0_ := Aside0.mk (Kd.R_below ax228 hb); have n1_ := Aside0.mk (blk_below (g := G0) (o := .cells #[.slice A0_0 l0_0.length c0_0, .int .i64 a0_1, .slice A0_2 l0_2.length c0_2] 69 (0, 0)) ax226 hb); have n2_ := Aside0.mk (below_step ax227 hb); clear HO_21; clear BK421; clear HB; have HO_21 := n0_; have BK421 := n1_; have HB := n2_; clear n0_ n1_ n2_; (try clear hb); (try clear hb2); (try clear hk); (try clear hi)))
         go_meet
         case rel => exact ⟨_, (!t429), ax39, H', ⟨by have := HK1.out; first | omega | exact Nat.le_refl _⟩, ⟨by (with_reducible repeat (first | apply Kd.R_alloc | apply Kd.R_drewN | apply Kd.R_drew)); exact HO_21.out⟩, ⟨by (with_reducible repeat (first | refine blk_drewN ?_ _ | refine blk_drew ?_ | refine blk_alloc ?_ _)); exact BK421.out⟩, ⟨by repeat (first | (with_reducible first | exact HB.out | apply below_alloc | apply pw_below_drewN | apply below_drew1 | refine below_set ?_ GE421.out) | exact HB.out)⟩⟩
        ·replace c20 := Bool.eq_false_iff.mpr c20
         subst c20
         have H1 : (impl_game_length.j1 k1 x5_1 false (wrap64 (t428 + 1)) t424 (t424.length : Int) x23_1 false l0_0 a0_1 l0_2) = some r := by rw [if_neg (show ¬ (false = true) by decide)] at H; exact H
         clear H; have H := H1; clear H1
         have H' := Aside0.mk H
         clear H
         go_wp2
         go_meet
         case rel => exact ⟨_, (false), ax39, H', ⟨by have := HK1.out; first | omega | exact Nat.le_refl _⟩, ⟨by (with_reducible repeat (first | apply Kd.R_alloc | apply Kd.R_drewN | apply Kd.R_drew)); exact HO_21.out⟩, ⟨by (with_reducible repeat (first | refine blk_drewN ?_ _ | refine blk_drew ?_ | refine blk_alloc ?_ _)); exact BK421.out⟩, ⟨by repeat (first | (with_reducible first | exact HB.out | apply below_alloc | apply pw_below_drewN | apply below_drew1 | refine below_set ?_ GE421.out) | exact HB.out)⟩⟩
       case rest =>
        clear HC18
        try clear c1
        try clear c2
        try clear p2
        try clear p4
        try clear q4
        try clear hx4
        try clear c5
        try clear c6
        try clear p6
        try clear c14
        try clear c14b0
        try clear c15
        try clear c15b0
        try clear c16
        try clear c16b0
        try clear c20
        try clear hcz11_0
        try clear hcz11_1
        try clear hcz11_2
        try clear hfz11_0
        try clear hfz11_1
        try clear hfz11_2
        try clear hx427_0
        try clear p2
        try clear p427
        try clear q427
        obtain ⟨kq, x31_17, rfl, HA, HJ17, HO_21, BK421, HB⟩ := hcut
        cases kq with
        | zero => exact absurd HA.out (by simp [impl_game_length.j1])
        | succ kj17 =>
         have H := HA.out; clear HA
         simp only [impl_game_length.j1] at H
         by_cases c23 : x31_17 = true
         ·subst c23
          have H1 : (impl_game_length.l0 kj17 x5_1 t422 t424 (t424.length : Int) (wrap64 (x23_1 + 1)) l0_0 a0_1 l0_2) = some r := by rw [if_pos rfl] at H; exact H
          clear H; have H := H1; clear H1
          have H' := Aside0.mk H
          clear H
          go_wp2
          go_roundg kj17
          case measure => have := HK1.out; have := HJ17.out; omega
          case rel => exact ⟨(x5_1), (wrap64 (x23_1 + 1)), ax39, ax39, H', ⟨by have := HK1.out; have := HJ17.out; omega⟩, ⟨by (with_reducible repeat (first | apply Kd.R_alloc | apply Kd.R_drewN | apply Kd.R_drew)); exact HO_21.out⟩, ⟨by (with_reducible repeat (first | refine blk_drewN ?_ _ | refine blk_drew ?_ | refine blk_alloc ?_ _)); exact BK421.out⟩, ⟨by repeat (first | (with_reducible first | exact HB.out | apply below_alloc | apply pw_below_drewN | apply below_drew1 | refine below_set ?_ GE421.out) | exact HB.out)⟩⟩
         ·replace c23 := Bool.eq_false_iff.mpr c23
          subst c23
          have H1 : (if x5_1 < 0 then (impl_game_length.l0 kj17 (wrap64 (t428 + 1)) t422 t424 (t424.length : Int) (wrap64 (x23_1 + 1)) l0_0 a0_1 l0_2) else (if t422 = true then (if (wrap64 (t428 + 1)) < x5_1 then (impl_game_length.l0 kj17 (wrap64 (t428 + 1)) t422 t424 (t424.length : Int) (wrap64 (x23_1 + 1)) l0_0 a0_1 l0_2) else (impl_game_length.l0 kj17 x5_1 t422 t424 (t424.length : Int) (wrap64 (x23_1 + 1)) l0_0 a0_1 l0_2)) else (if (wrap64 (t428 + 1)) > x5_1 then (impl_game_length.l0 kj17 (wrap64 (t428 + 1)) t422 t424 (t424.length : Int) (wrap64 (x23_1 + 1)) l0_0 a0_1 l0_2) else (impl_game_length.l0 kj17 x5_1 t422 t424 (t424.length : Int) (wrap64 (x23_1 + 1)) l0_0 a0_1 l0_2)))) = some r := by rw [if_neg (show ¬ (false = true) by decide)] at H; exact H
          clear H; have H := H1; clear H1
          by_cases c24 : x5_1 < 0
          ·rw [if_pos c24] at H
           have c24b0 : decide (x5_1 < 0) = true := decide_eq_true c24
           clear c24
           have H' := Aside0.mk H
           clear H
           go_wp2
           go_roundg kj17
           case measure => have := HK1.out; have := HJ17.out; omega
           case rel => exact ⟨((wrap64 (t428 + 1))), (wrap64 (x23_1 + 1)), ax39, ax39, H', ⟨by have := HK1.out; have := HJ17.out; omega⟩, ⟨by (with_reducible repeat (first | apply Kd.R_alloc | apply Kd.R_drewN | apply Kd.R_drew)); exact HO_21.out⟩, ⟨by (with_reducible repeat (first | refine blk_drewN ?_ _ | refine blk_drew ?_ | refine blk_alloc ?_ _)); exact BK421.out⟩, ⟨by repeat (first | (with_reducible first | exact HB.out | apply below_alloc | apply pw_below_drewN | apply below_drew1 | refine below_set ?_ GE421.out) | exact HB.out)⟩⟩
          ·rw [if_neg c24] at H
           have c24b0 : decide (x5_1 < 0) = false := decide_eq_false c24
           clear c24
           by_cases c25 : t422 = true
           ·subst c25
            have H1 : (if (wrap64 (t428 + 1)) < x5_1 then (impl_game_length.l0 kj17 (wrap64 (t428 + 1)) true t424 (t424.length : Int) (wrap64 (x23_1 + 1)) l0_0 a0_1 l0_2) else (impl_game_length.l0 kj17 x5_1 true t424 (t424.length : Int) (wrap64 (x23_1 + 1)) l0_0 a0_1 l0_2)) = some r := by rw [if_pos rfl] at H; exact H
            clear H; have H := H1; clear H1
            by_cases c26 : (wrap64 (t428 + 1)) < x5_1
            ·rw [if_pos c26] at H
             have c26b0 : decide ((wrap64 (t428 + 1)) < x5_1) = true := decide_eq_true c26
             clear c26
             have H' := Aside0.mk H
             clear H
             go_wp2
             go_roundg kj17
             case measure => have := HK1.out; have := HJ17.out; omega
             case rel => exact ⟨((wrap64 (t428 + 1))), (wrap64 (x23_1 + 1)), ax39, ax39, H', ⟨by have := HK1.out; have := HJ17.out; omega⟩, ⟨by (with_reducible repeat (first | apply Kd.R_alloc | apply Kd.R_drewN | apply Kd.R_drew)); exact HO_21.out⟩, ⟨by (with_reducible repeat (first | refine blk_drewN ?_ _ | refine blk_drew ?_ | refine blk_alloc ?_ _)); exact BK421.out⟩, ⟨by repeat (first | (with_reducible first | exact HB.out | apply below_alloc | apply pw_below_drewN | apply below_drew1 | refine below_set ?_ GE421.out) | exact HB.out)⟩⟩
            ·rw [if_neg c26] at H
             have c26b0 : decide ((wrap64 (t428 + 1)) < x5_1) = false := decide_eq_false c26
             clear c26
             have H' := Aside0.mk H
             clear H
             go_wp2
             go_roundg kj17
             case measure => have := HK1.out; have := HJ17.out; omega
             case rel => exact ⟨(x5_1), (wrap64 (x23_1 + 1)), ax39, ax39, H', ⟨by have := HK1.out; have := HJ17.out; omega⟩, ⟨by (with_reducible repeat (first | apply Kd.R_alloc | apply Kd.R_drewN | apply Kd.R_drew)); exact HO_21.out⟩, ⟨by (with_reducible repeat (first | refine blk_drewN ?_ _ | refine blk_drew ?_ | refine blk_alloc ?_ _)); exact BK421.out⟩, ⟨by repeat (first | (with_reducible first | exact HB.out | apply below_alloc | apply pw_below_drewN | apply below_drew1 | refine below_set ?_ GE421.out) | exact HB.out)⟩⟩
           ·replace c25 := Bool.eq_false_iff.mpr c25
            subst c25
            have H1 : (if (wrap64 (t428 + 1)) > x5_1 then (impl_game_length.l0 kj17 (wrap64 (t428 + 1)) false t424 (t424.length : Int) (wrap64 (x23_1 + 1)) l0_0 a0_1 l0_2) else (impl_game_length.l0 kj17 x5_1 false t424 (t424.length : Int) (wrap64 (x23_1 + 1)) l0_0 a0_1 l0_2)) = some r := by rw [if_neg (show ¬ (false = true) by decide)] at H; exact H
            clear H; have H := H1; clear H1
            by_cases c27 : (wrap64 (t428 + 1)) > x5_1
            ·rw [if_pos c27] at H
             have c27b0 : decide (x5_1 < (wrap64 (t428 + 1))) = true := decide_eq_true c27
             clear c27
             have H' := Aside0.mk H
             clear H
             go_wp2
             go_roundg kj17
             case measure => have := HK1.out; have := HJ17.out; omega
             case rel => exact ⟨((wrap64 (t428 + 1))), (wrap64 (x23_1 + 1)), ax39, ax39, H', ⟨by have := HK1.out; have := HJ17.out; omega⟩, ⟨by (with_reducible repeat (first | apply Kd.R_alloc | apply Kd.R_drewN | apply Kd.R_drew)); exact HO_21.out⟩, ⟨by (with_reducible repeat (first | refine blk_drewN ?_ _ | refine blk_drew ?_ | refine blk_alloc ?_ _)); exact BK421.out⟩, ⟨by repeat (first | (with_reducible first | exact HB.out | apply below_alloc | apply pw_below_drewN | apply below_drew1 | refine below_set ?_ GE421.out) | exact HB.out)⟩⟩
            ·rw [if_neg c27] at H
             have c27b0 : decide (x5_1 < (wrap64 (t428 + 1))) = false := decide_eq_false c27
             clear c27
             have H' := Aside0.mk H
             clear H
             go_wp2
             go_roundg kj17
             case measure => have := HK1.out; have := HJ17.out; omega
             case rel => exact ⟨(x5_1), (wrap64 (x23_1 + 1)), ax39, ax39, H', ⟨by have := HK1.out; have := HJ17.out; omega⟩, ⟨by (with_reducible repeat (first | apply Kd.R_alloc | apply Kd.R_drewN | apply Kd.R_drew)); exact HO_21.out⟩, ⟨by (with_reducible repeat (first | refine blk_drewN ?_ _ | refine blk_drew ?_ | refine blk_alloc ?_ _)); exact BK421.out⟩, ⟨by repeat (first | (with_reducible first | exact HB.out | apply below_alloc | apply pw_below_drewN | apply below_drew1 | refine below_set ?_ GE421.out) | exact HB.out)⟩⟩
      ·rw [if_neg c16] at H
       exact absurd H (by simp)
     ·rw [if_neg c15] at H
      exact absurd H (by simp)
    ·rw [if_neg c14] at H
     have c14b0 : decide (x23_1 < (t424.length : Int)) = false := decide_eq_false c14
     clear c14
     obtain ⟨ji28, hji28⟩ : ∃ j_ : Int, (mx x5_1 0) = j_ := ⟨_, rfl⟩
     replace H : (some ji28) = some r := by first | (rw [hji28] at H; exact H) | (simp only [hji28] at H ⊢; exact H)
     have hji28_ : (if x5_1 < 0 then 0 else x5_1) = ji28 := hji28
     obtain rfl := Option.some.inj H
     go_wp2
     go_ret
     exact ⟨by first | rfl | (simp [errW_none, errW_some] <;> rfl) | (simp only [← hji28]; first | rfl | (simp [errW_none, errW_some] <;> rfl)) | (simp [*, errW_none, errW_some] <;> rfl), by repeat (first | (with_reducible first | exact HB.out | apply below_alloc | apply pw_below_drewN | apply below_drew1 | refine below_set ?_ GE421.out) | exact HB.out)⟩

/-! ### impl_GameLength: function 35 -/
def impl_GameLength.f (k : Nat) (l0_0 : List (S67)) (a1 : Int) (a2 : Int) : Option (Int × Bool) := (impl_gameAt.f k l0_0 a1 a2).bind fun bt431 => (if bt431.1 = true then ((impl_game_length.f k l0_0 bt431.2.1 bt431.2.2 a1).bind fun t437 => (some (t437, true))) else (some (0, false)))
theorem impl_GameLength.mono : ∀ a0 a1 a2 k, LeO (impl_GameLength.f k a0 a1 a2) (impl_GameLength.f (k + 1) a0 a1 a2) := by
 intro a0 a1 a2 k
 unfold impl_GameLength.f
 repeat' first
   | (with_reducible exact impl_gameAt.mono _ _ _ _)
   | (with_reducible exact impl_game_length.mono _ _ _ _ _)
   | (with_reducible exact LeO.refl _)
   | (with_reducible exact LeO.none _)
   | (with_reducible refine LeO.ite ?_ ?_)
   | (with_reducible refine LeO.bind ?_ (fun _ => ?_))
   | exact impl_gameAt.mono _ _ _ _
   | exact impl_game_length.mono _ _ _ _ _
   | exact LeO.none _
   | refine LeO.ite ?_ ?_
   | refine LeO.bind ?_ (fun _ => ?_)
set_option maxHeartbeats 8000000 in
set_option maxRecDepth 100000 in
theorem impl_GameLength.calls (k : Nat) (A0_0 : Option Addr) (c0_0 : Nat) (l0_0 : List (S67)) (a1 : Int) (a2 : Int) (r1 : Int) (r2 : Bool) (w : World) (hr0_0 : Kd.C k67 w A0_0 l0_0.length l0_0) (hc0_0 : l0_0.length ≤ c0_0) (h : impl_GameLength.f k l0_0 a1 a2 = some (r1, r2)) :
  Calls Try.prog 35 #[.agg #[.slice A0_0 l0_0.length c0_0], .int .i64 a1, .int .i64 a2] w fun e w' => e = .returned (.tuple #[.int .i64 r1, .bool r2]) ∧ Below w.heap.size w w' := by
 have hu30 := Try.underlying30; have HR0_0 := Aside0.mk hr0_0; have HC0_0 := Aside0.mk hc0_0; clear hr0_0 hc0_0; have HB := Aside0.mk (Below.refl w.heap.size w)
 have H : ((impl_gameAt.f k l0_0 a1 a2).bind fun bt431 => (if bt431.1 = true then ((impl_game_length.f k l0_0 bt431.2.1 bt431.2.2 a1).bind fun t437 => (some (t437, true))) else (some (0, false)))) = some (r1, r2) := h
 clear h; replace H := Option.bind_eq_some_iff.mp H
 obtain ⟨⟨t431, t433, t434⟩, A40, H⟩ := H
 replace H : (if t431 = true then ((impl_game_length.f k l0_0 t433 t434 a1).bind fun t437 => (some (t437, true))) else (some (0, false))) = some (r1, r2) := H
 have A4 := Aside0.mk A40; clear A40
 by_cases c5 : t431 = true
 ·subst c5
  have H1 : ((impl_game_length.f k l0_0 t433 t434 a1).bind fun t437 => (some (t437, true))) = some (r1, r2) := by rw [if_pos rfl] at H; exact H
  clear H; have H := H1; clear H1; replace H := Option.bind_eq_some_iff.mp H
  obtain ⟨t437, A60, H⟩ := H
  replace H : (some (t437, true)) = some (r1, r2) := H
  have A6 := Aside0.mk A60; clear A60
  simp only [Option.some.injEq, Prod.mk.injEq] at H
  obtain ⟨rfl, rfl⟩ := H
  go_enter Try.func35, Try.ntmps35
  go_wp2_with (first | ((with_reducible refine gate_dst (N := 3) rfl ?_); refine box_event ?hg (N := 3) ?hd (cs := #[.slice A0_0 l0_0.length c0_0]) (t := 30) ?hr ?_; (case hd => rfl); (case hg => rfl); (case hr => exact ax24); intro gb430 hg w7 hbox hb; have n0_ := Aside0.mk (below_step ax25 hb); have n1_ := Aside0.mk (hbox); have n2_ := Aside0.mk ((ax26 : w.heap.size ≤ gb430)); have n3_ := Aside0.mk ((ax26 : w.heap.size ≤ gb430)); clear HB; have HB := n0_; have BK430 := n1_; have GW430 := n2_; have GE430 := n3_; clear n0_ n1_ n2_ n3_; clear hb hbox hg; have hcz8_0 : w7.cell? ⟨gb430, 0, none⟩ = some (.slice A0_0 l0_0.length c0_0) := (blk_cell BK430.out 0).trans rfl; have hfz8_0 := blk_frozen BK430.out 0) | ((with_reducible refine gate_callee (f := 51) rfl ?_); refine goesL_ (some 14) rfl rfl Try.func51 (by kernel_rfl) rfl #[.agg #[.slice A0_0 l0_0.length c0_0], .int .i64 a1, .int .i64 a2] rfl ax27 ?_; (with_reducible refine (impl_gameAt.calls k _ _ l0_0 a1 a2 true t433 t434 _ ?side1 ?side2 A4.out).mono ?_); (case side1 => exact ax28); (case side2 => exact ax29); (rintro e w9 ⟨hb, hno_, hyes_⟩; obtain ⟨gb432, v435, rfl, hbox, hgb, ho0⟩ := hyes_ rfl; clear hno_); refine ⟨_, rfl, ?_⟩; have n0_ := Aside0.mk (Kd.R_lower ho0 (below_size ax229)); have n1_ := Aside0.mk (blk_below (g := gb430) (o := .cells #[.slice A0_0 l0_0.length c0_0] 30 (0, 0)) ax230 hb); have n2_ := Aside0.mk (below_step ax229 hb); have n3_ := Aside0.mk (hbox); have n4_ := Aside0.mk ((Nat.le_trans (below_size ax229) hgb : w.heap.size ≤ gb432)); have n5_ := Aside0.mk ((Nat.le_trans (below_size ax229) hgb : w.heap.size ≤ gb432)); have n6_ := Aside0.mk ((Nat.ne_of_lt (Nat.lt_of_lt_of_le (blk_lt (g := gb430) (o := .cells #[.slice A0_0 l0_0.length c0_0] 30 (0, 0)) ax230) hgb) : gb430 ≠ gb432)); have n7_ := Aside0.mk ((Nat.ne_of_gt (Nat.lt_of_lt_of_le (blk_lt (g := gb430) (o := .cells #[.slice A0_0 l0_0.length c0_0] 30 (0, 0)) ax230) hgb) : gb432 ≠ gb430)); clear BK430; clear HB; have HO436 := n0_; have BK430 := n1_; have HB := n2_; have BK432 := n3_; have GW432 := n4_; have GE432 := n5_; have NB430_432 := n6_; have NB432_430 := n7_; clear n0_ n1_ n2_ n3_ n4_ n5_ n6_ n7_; (try clear hb); (try clear hbox); (try clear hgb); (try clear ho0); obtain ⟨Ao10, co10, eo10⟩ := Kd.R_slice HO436.out; subst eo10) | ((with_reducible refine gate_callee (f := 67) rfl ?_); refine goesL_ (some 21) rfl rfl Try.func67 (by kernel_rfl) rfl #[.pointer (some ⟨gb432, 0, none⟩), .int .i64 a1] rfl ax27 ?_; (with_reducible refine (impl_game_length.calls k gb432 A0_0 c0_0 l0_0 t433 Ao10 co10 t434 a1 t437 _ ?side1 ?side2 ?side3 ?side4 ?side5 A6.out).mono ?_); (case side1 => exact ax28); (case side2 => exact ax29); (case side3 => repeat (first | exact (Kd.R_reads' HO436.out).2.2 | (with_reducible refine Kd.C_alloc ?_ _) | (with_reducible refine Kd.C_drewN ?_ _) | (with_reducible refine Kd.C_drew ?_))); (case side4 => exact (Kd.R_reads' HO436.out).2.1); (case side5 => exact ax231); rintro e w11 ⟨rfl, hb⟩; refine ⟨_, rfl, ?_⟩; have n0_ := Aside0.mk (Kd.R_below (by (with_reducible repeat (first | apply Kd.R_alloc | apply Kd.R_drewN | apply Kd.R_drew)); exact HO436.out) hb); have n1_ := Aside0.mk (blk_below (g := gb430) (o := .cells #[.slice A0_0 l0_0.length c0_0] 30 (0, 0)) ax230 hb); have n2_ := Aside0.mk (blk_below (g := gb432) (o := .cells #[.slice A0_0 l0_0.length c0_0, .int .i64 t433, .slice Ao10 t434.length co10] 69 (0, 0)) ax231 hb); have n3_ := Aside0.mk (below_step (by repeat (first | (with_reducible first | exact HB.out | apply below_alloc | apply pw_below_drewN | apply below_drew1 | refine below_set ?_ GE430.out | refine below_set ?_ GE432.out) | exact HB.out)) hb); clear HO436; clear BK430; clear BK432; clear HB; have HO436 := n0_; have BK430 := n1_; have BK432 := n2_; have HB := n3_; clear n0_ n1_ n2_ n3_; (try clear hb); (try clear hb2); (try clear hk); (try clear hi)))
  go_ret2
  exact ⟨by first | rfl | (simp [errW_none, errW_some] <;> rfl) | (simp [*, errW_none, errW_some] <;> rfl), by repeat (first | (with_reducible first | exact HB.out | apply below_alloc | apply pw_below_drewN | apply below_drew1 | refine below_set ?_ GE430.out | refine below_set ?_ GE432.out) | exact HB.out)⟩
 ·replace c5 := Bool.eq_false_iff.mpr c5
  subst c5
  have H1 : (some (0, false)) = some (r1, r2) := by rw [if_neg (show ¬ (false = true) by decide)] at H; exact H
  clear H; have H := H1; clear H1
  simp only [Option.some.injEq, Prod.mk.injEq] at H
  obtain ⟨rfl, rfl⟩ := H
  go_enter Try.func35, Try.ntmps35
  go_wp2_with (first | ((with_reducible refine gate_dst (N := 3) rfl ?_); refine box_event ?hg (N := 3) ?hd (cs := #[.slice A0_0 l0_0.length c0_0]) (t := 30) ?hr ?_; (case hd => rfl); (case hg => rfl); (case hr => exact ax24); intro gb430 hg w12 hbox hb; have n0_ := Aside0.mk (below_step ax25 hb); have n1_ := Aside0.mk (hbox); have n2_ := Aside0.mk ((ax26 : w.heap.size ≤ gb430)); have n3_ := Aside0.mk ((ax26 : w.heap.size ≤ gb430)); clear HB; have HB := n0_; have BK430 := n1_; have GW430 := n2_; have GE430 := n3_; clear n0_ n1_ n2_ n3_; clear hb hbox hg; have hcz13_0 : w12.cell? ⟨gb430, 0, none⟩ = some (.slice A0_0 l0_0.length c0_0) := (blk_cell BK430.out 0).trans rfl; have hfz13_0 := blk_frozen BK430.out 0) | ((with_reducible refine gate_callee (f := 51) rfl ?_); refine goesL_ (some 14) rfl rfl Try.func51 (by kernel_rfl) rfl #[.agg #[.slice A0_0 l0_0.length c0_0], .int .i64 a1, .int .i64 a2] rfl ax27 ?_; (with_reducible refine (impl_gameAt.calls k _ _ l0_0 a1 a2 false t433 t434 _ ?side1 ?side2 A4.out).mono ?_); (case side1 => exact ax28); (case side2 => exact ax29); (rintro e w14 ⟨hb, hno_, hyes_⟩; obtain rfl := hno_ rfl; clear hyes_); refine ⟨_, rfl, ?_⟩; have n0_ := Aside0.mk (blk_below (g := gb430) (o := .cells #[.slice A0_0 l0_0.length c0_0] 30 (0, 0)) ax230 hb); have n1_ := Aside0.mk (below_step ax229 hb); clear BK430; clear HB; have BK430 := n0_; have HB := n1_; clear n0_ n1_; (try clear hb); (try clear hb2); (try clear hk); (try clear hi); (try clear ho0)))
  go_ret2
  exact ⟨by first | rfl | (simp [errW_none, errW_some] <;> rfl) | (simp [*, errW_none, errW_some] <;> rfl), by repeat (first | (with_reducible first | exact HB.out | apply below_alloc | apply pw_below_drewN | apply below_drew1 | refine below_set ?_ GE430.out) | exact HB.out)⟩

end Go.Proofs.Ytcbjfflaamlpcaa.X

-- By gen.py (the session's own program over the kit's printer): functions of the program, each with its contract. Lean checks it.
import Derived.Test.YtcbjfflaamlpcaaX0
import Derived.Test.YtcbjfflaamlpcaaX8
namespace Go.Proofs.Ytcbjfflaamlpcaa.X
open Go.RowKit Go.Proofs.YtcbjfflaamlpcaaW.PrintWords Go.Proofs.YtcbjfflaamlpcaaW.PrintLast Go.Proofs.YtcbjfflaamlpcaaW.PrintMore
attribute [local go_sem] max2_int min2_int max_two min_two max_three min_three max_four min_four   -- for this text's walks alone
set_option linter.unusedVariables false
set_option linter.unusedSimpArgs false

/-! ### spec_l11Wins: function 50 -/
mutual
def spec_l11Wins.l0 : Nat → Int → Bool → List Int → Int → List (S67) → Option (Bool)
 | 0, _, _, _, _, _ => none
 | k + 1, x2, x3, x9, x10, x269000 => if x10 < (x9.length : Int) then (if 0 ≤ x10 then ((spec_l11Fatal.f k x269000 (rd x9 x10) x2).bind fun t273 => (if t273 = true then (if x3 = true then (some true) else ((spec_l11Fatal.f k x269000 (rd x9 x10) x2).bind fun t275 => (if t275 = true then (spec_l11Wins.l0 k x2 x3 x9 (wrap64 (x10 + 1)) x269000) else ((spec_l11Wins.f k x269000 (rd x9 x10) x2 x3).bind fun t277 => (if t277 = true then (spec_l11Wins.l0 k x2 x3 x9 (wrap64 (x10 + 1)) x269000) else (some true)))))) else ((spec_l11Fatal.f k x269000 (rd x9 x10) x2).bind fun t279 => (if t279 = true then (spec_l11Wins.l0 k x2 x3 x9 (wrap64 (x10 + 1)) x269000) else ((spec_l11Wins.f k x269000 (rd x9 x10) x2 x3).bind fun t281 => (if t281 = true then (spec_l11Wins.l0 k x2 x3 x9 (wrap64 (x10 + 1)) x269000) else (some true))))))) else (none)) else (some false)
def spec_l11Wins.f : Nat → List (S67) → Int → Int → Bool → Option (Bool)
 | 0, _, _, _, _ => none
 | k + 1, l0_0, a1, a2, a3 => (spec_l2Kids.f k l0_0 a1).bind fun t269 => (spec_l11Wins.l0 k a2 a3 t269 0 l0_0)
end
theorem spec_l11Wins.mono_l : ∀ k, (∀ y0 y1 y2 y3, LeO (spec_l11Wins.f k y0 y1 y2 y3) (spec_l11Wins.f (k + 1) y0 y1 y2 y3)) ∧ (∀ y0 y1 y2 y3 y4, LeO (spec_l11Wins.l0 k y0 y1 y2 y3 y4) (spec_l11Wins.l0 (k + 1) y0 y1 y2 y3 y4))
 | 0 => ⟨fun _ _ _ _ r h => by simp [spec_l11Wins.f] at h, fun _ _ _ _ _ r h => by simp [spec_l11Wins.l0] at h⟩
 | k + 1 => by
  obtain ⟨ih0, ih1⟩ := spec_l11Wins.mono_l k
  refine ⟨?_, ?_⟩
  ·intro y0 y1 y2 y3
   unfold spec_l11Wins.f
   repeat' first
   | (with_reducible exact ih0 _ _ _ _)
   | (with_reducible exact ih1 _ _ _ _ _)
   | (with_reducible exact spec_l11Fatal.mono _ _ _ _)
   | (with_reducible exact spec_l2Kids.mono _ _ _)
   | (with_reducible exact LeO.refl _)
   | (with_reducible exact LeO.none _)
   | (with_reducible refine LeO.ite ?_ ?_)
   | (with_reducible refine LeO.bind ?_ (fun _ => ?_))
   | exact ih0 _ _ _ _
   | exact ih1 _ _ _ _ _
   | exact spec_l11Fatal.mono _ _ _ _
   | exact spec_l2Kids.mono _ _ _
   | exact LeO.none _
   | refine LeO.ite ?_ ?_
   | refine LeO.bind ?_ (fun _ => ?_)
  ·intro y0 y1 y2 y3 y4
   unfold spec_l11Wins.l0
   repeat' first
   | (with_reducible exact ih0 _ _ _ _)
   | (with_reducible exact ih1 _ _ _ _ _)
   | (with_reducible exact spec_l11Fatal.mono _ _ _ _)
   | (with_reducible exact spec_l2Kids.mono _ _ _)
   | (with_reducible exact LeO.refl _)
   | (with_reducible exact LeO.none _)
   | (with_reducible refine LeO.ite ?_ ?_)
   | (with_reducible refine LeO.bind ?_ (fun _ => ?_))
   | exact ih0 _ _ _ _
   | exact ih1 _ _ _ _ _
   | exact spec_l11Fatal.mono _ _ _ _
   | exact spec_l2Kids.mono _ _ _
   | exact LeO.none _
   | refine LeO.ite ?_ ?_
   | refine LeO.bind ?_ (fun _ => ?_)
theorem spec_l11Wins.mono : ∀ a0 a1 a2 a3 k, LeO (spec_l11Wins.f k a0 a1 a2 a3) (spec_l11Wins.f (k + 1) a0 a1 a2 a3) := by
 intro a0 a1 a2 a3 k
 obtain ⟨ih0, ih1⟩ := spec_l11Wins.mono_l k
 exact ih0 a0 a1 a2 a3
def spec_l11Wins.T5 : Bool × List (List Nat × List Nat) := (true, [([], []), ([], []), ([], []), ([1, 2], [1, 2]), ([3], [3]), ([], []), ([0, 4, 5], [0, 4, 5]), ([6, 6], [6]), ([7], [7]), ([7, 8], [7, 8]), ([9, 7], [9]), ([10], [10]), ([10], [10]), ([10], [10]), ([12, 13, 10], [10, 12, 13]), ([14, 10], [10, 14]), ([10], [10]), ([11, 15, 16, 10, 10], [10, 11, 15, 16]), ([17, 10], [10, 17]), ([18, 17, 10], [10, 18]), ([19], [19]), ([19], [19]), ([19], [19]), ([21, 22, 19], [19, 21, 22]), ([23, 19], [19, 23]), ([19], [19]), ([19], [19]), ([20, 24, 25, 26, 19, 19], [19, 20, 24, 25, 26]), ([27, 19], [19, 27]), ([19, 28, 10], [10, 19, 28]), ([10, 29], [10, 29])])
def spec_l11Wins.B5 : List Nat := [0, 0, 0, 6, 14, 0, 63, 127, 255, 511, 1023, 2047, 2047, 2047, 14335, 30719, 2047, 131071, 262143, 524287, 1048575, 1048575, 1048575, 7340031, 15728639, 1048575, 1048575, 134217727, 268435455, 536870911, 1073741823]
theorem spec_l11Wins.tab5 : rtab .any (opsOf Try.f50 5) = spec_l11Wins.T5 := by kernel_rfl
theorem spec_l11Wins.bits5 : waitsOk spec_l11Wins.T5.2 spec_l11Wins.B5 = true := by kernel_rfl
set_option maxHeartbeats 8000000 in
set_option maxRecDepth 100000 in
theorem spec_l11Wins.calls (k : Nat) : ∀ (A0_0 : Option Addr) (c0_0 : Nat) (l0_0 : List (S67)) (a1 : Int) (a2 : Int) (a3 : Bool) (r : Bool) (w : World) (hr0_0 : Kd.C k67 w A0_0 l0_0.length l0_0) (hc0_0 : l0_0.length ≤ c0_0) (h : spec_l11Wins.f k l0_0 a1 a2 a3 = some r),
  Calls Try.prog 50 #[.agg #[.slice A0_0 l0_0.length c0_0], .int .i64 a1, .int .i64 a2, .bool a3] w fun e w' => e = .returned (.bool r) ∧ Below w.heap.size w w' := by
 induction k using Nat.strongRecOn with
 | _ k ih =>
 intro A0_0 c0_0 l0_0 a1 a2 a3 r w hr0_0 hc0_0 h
 cases k with
 | zero => exact absurd h (by simp [spec_l11Wins.f])
 | succ k =>
 simp only [spec_l11Wins.f] at h
 have hu30 := Try.underlying30; have HR0_0 := Aside0.mk hr0_0; have HC0_0 := Aside0.mk hc0_0; clear hr0_0 hc0_0; have HB := Aside0.mk (Below.refl w.heap.size w)
 have H : ((spec_l2Kids.f k l0_0 a1).bind fun t269 => (spec_l11Wins.l0 k a2 a3 t269 0 l0_0)) = some r := h
 clear h; replace H := Option.bind_eq_some_iff.mp H
 obtain ⟨t269, A50, H⟩ := H
 replace H : (spec_l11Wins.l0 k a2 a3 t269 0 l0_0) = some r := H
 have A5 := Aside0.mk A50; clear A50
 have H' := Aside0.mk H
 clear H
 go_enter Try.func50, Try.ntmps50
 go_wp2_with (first | ((with_reducible refine gate_dst (N := 4) rfl ?_); refine box_event ?hg (N := 4) ?hd (cs := #[.slice A0_0 l0_0.length c0_0]) (t := 30) ?hr ?_; (case hd => rfl); (case hg => rfl); (case hr => exact ax22); intro gb268 hg w6 hbox hb; have n0_ := Aside0.mk (below_step ax23 hb); have n1_ := Aside0.mk (hbox); have n2_ := Aside0.mk ((ax24 : w.heap.size ≤ gb268)); have n3_ := Aside0.mk ((ax24 : w.heap.size ≤ gb268)); clear HB; have HB := n0_; have BK268 := n1_; have GW268 := n2_; have GE268 := n3_; clear n0_ n1_ n2_ n3_; clear hb hbox hg; have hcz7_0 : w6.cell? ⟨gb268, 0, none⟩ = some (.slice A0_0 l0_0.length c0_0) := (blk_cell BK268.out 0).trans rfl; have hfz7_0 := blk_frozen BK268.out 0) | ((with_reducible refine gate_callee (f := 56) rfl ?_); refine goesL_ (some 13) rfl rfl Try.func56 (by kernel_rfl) rfl #[.agg #[.slice A0_0 l0_0.length c0_0], .int .i64 a1] rfl ax25 ?_; (with_reducible refine (spec_l2Kids.calls k _ _ l0_0 a1 t269 _ ?side1 ?side2 A5.out).mono ?_); (case side1 => exact ax26); (case side2 => exact ax27); rintro e w8 ⟨v270, rfl, ho0, hb⟩; refine ⟨_, rfl, ?_⟩; have n0_ := Aside0.mk (Kd.R_lower ho0 (below_size ax144)); have n1_ := Aside0.mk (blk_below (g := gb268) (o := .cells #[.slice A0_0 l0_0.length c0_0] 30 (0, 0)) ax145 hb); have n2_ := Aside0.mk (below_step ax144 hb); clear BK268; clear HB; have HO271 := n0_; have BK268 := n1_; have HB := n2_; clear n0_ n1_ n2_; (try clear hb); (try clear hb2); (try clear hk); (try clear hi); (try clear ho0)))
 go_loopg [10] k (fun kq v10 w' => ∃ (x10_1 : Int), v10 = .int .i64 x10_1 ∧ Aside0 (spec_l11Wins.l0 kq a2 a3 t269 x10_1 l0_0 = some r) ∧ Aside0 (kq ≤ k) ∧ Aside0 (Kd.R (Kd.int .i64) 3 w' w.heap.size (fun _ => True) v270 t269) ∧ Aside0 (w'.heap[gb268]? = some (.cells #[(.slice A0_0 l0_0.length c0_0)] 30 (0, 0))) ∧ Aside0 (Below w.heap.size w w'))
 case atStart => exact ⟨(0), ax37, H', ⟨Nat.le_refl _⟩, ⟨by (with_reducible repeat (first | apply Kd.R_alloc | apply Kd.R_drewN | apply Kd.R_drew)); exact HO271.out⟩, ⟨by (with_reducible repeat (first | refine blk_drewN ?_ _ | refine blk_drew ?_ | refine blk_alloc ?_ _)); exact BK268.out⟩, ⟨by repeat (first | (with_reducible first | exact HB.out | apply below_alloc | apply pw_below_drewN | apply below_drew1 | refine below_set ?_ GE268.out) | exact HB.out)⟩⟩
 case round =>
  clear H'
  try clear p2
  try clear c5
  try clear hcz7_0
  try clear hfz7_0
  obtain ⟨x10_1, rfl, HA, HK1, HO_9, BK268, HB⟩ := hrel
  cases gk with
  | zero => exact absurd HA.out (by simp [spec_l11Wins.l0])
  | succ k1 =>
   have H := HA.out; clear HA
   simp only [spec_l11Wins.l0] at H
   by_cases c9 : x10_1 < (t269.length : Int)
   ·rw [if_pos c9] at H
    have c9b0 : decide (x10_1 < (t269.length : Int)) = true := decide_eq_true c9
    clear c9
    by_cases c10 : 0 ≤ x10_1
    ·rw [if_pos c10] at H
     have c10b0 : decide (0 ≤ x10_1) = true := decide_eq_true c10
     clear c10; replace H := Option.bind_eq_some_iff.mp H
     obtain ⟨t273, A110, H⟩ := H
     replace H : (if t273 = true then (if a3 = true then (some true) else ((spec_l11Fatal.f k1 l0_0 (rd t269 x10_1) a2).bind fun t275 => (if t275 = true then (spec_l11Wins.l0 k1 a2 a3 t269 (wrap64 (x10_1 + 1)) l0_0) else ((spec_l11Wins.f k1 l0_0 (rd t269 x10_1) a2 a3).bind fun t277 => (if t277 = true then (spec_l11Wins.l0 k1 a2 a3 t269 (wrap64 (x10_1 + 1)) l0_0) else (some true)))))) else ((spec_l11Fatal.f k1 l0_0 (rd t269 x10_1) a2).bind fun t279 => (if t279 = true then (spec_l11Wins.l0 k1 a2 a3 t269 (wrap64 (x10_1 + 1)) l0_0) else ((spec_l11Wins.f k1 l0_0 (rd t269 x10_1) a2 a3).bind fun t281 => (if t281 = true then (spec_l11Wins.l0 k1 a2 a3 t269 (wrap64 (x10_1 + 1)) l0_0) else (some true)))))) = some r := H
     have A11 := Aside0.mk A110; clear A110
     by_cases c12 : t273 = true
     ·subst c12
      have H1 : (if a3 = true then (some true) else ((spec_l11Fatal.f k1 l0_0 (rd t269 x10_1) a2).bind fun t275 => (if t275 = true then (spec_l11Wins.l0 k1 a2 a3 t269 (wrap64 (x10_1 + 1)) l0_0) else ((spec_l11Wins.f k1 l0_0 (rd t269 x10_1) a2 a3).bind fun t277 => (if t277 = true then (spec_l11Wins.l0 k1 a2 a3 t269 (wrap64 (x10_1 + 1)) l0_0) else (some true)))))) = some r := by rw [if_pos rfl] at H; exact H
      clear H; have H := H1; clear H1
      by_cases c13 : a3 = true
      ·subst c13
       have H1 : (some true) = some r := by rw [if_pos rfl] at H; exact H
       clear H; have H := H1; clear H1
       obtain rfl := Option.some.inj H
       obtain ⟨Ao14, co14, eo14⟩ := Kd.R_slice HO_9.out
       subst eo14
       try go_wp2
       have n0_ := Aside0.mk (Kd.R_drew HO_9.out); have n1_ := Aside0.mk (blk_drew BK268.out); have n2_ := Aside0.mk (below_drew1 HB.out); clear HO_9; clear BK268; clear HB; have HO_9 := n0_; have BK268 := n1_; have HB := n2_; clear n0_ n1_ n2_
       have p272 : 0 ≤ (x10_1 : Int) := of_decide_eq_true ax36
       have q272 : x10_1 < (t269.length : Int) := of_decide_eq_true ax36
       obtain ⟨ad272, e272, hx272_0⟩ := Kd.at_int (Kd.R_reads' HO_9.out).2.2 x10_1 p272 q272
       cases e272; replace p272 := eq_true p272; replace q272 := eq_true q272
       refine start_ (n := 31) (S := fun w' => w'.cell? ⟨gb268, 0, none⟩ = some (.slice A0_0 l0_0.length c0_0) ∧ w'.cell? (ad272.add (x10_1).toNat) = some (.int .i64 (rd t269 x10_1))) (ds := []) (ob 31 0) (by kernel_rfl) rfl rfl ⟨(blk_cell BK268.out 0).trans rfl, hx272_0⟩ (fun hHeld => ?_); refine with_tabW spec_l11Wins.tab5 spec_l11Wins.bits5 (fun HT_ HW_ => ?_)
       generalize wr.drew = w15 at HO_9 BK268 HB hx272_0 hHeld ⊢
       refine pure_ (i := 1) (N := some 21) (v := ?_) (a' := ?_) (ob 31 2) rfl rfl (any_of HT_.out (by kernel_rfl)) (fun _ _ _ h => h) (Or.inl ⟨by rfl, ?_⟩) ?_ ?_; rotate_left; exact ax3; rotate_left; exact ax4
       refine pure_ (i := 2) (N := some 22) (v := ?_) (a' := ?_) (ob 31 6) rfl rfl (any_of HT_.out (by kernel_rfl)) (fun _ _ _ h => h) (Or.inl ⟨by rfl, ?_⟩) ?_ ?_; rotate_left; exact ax3; rotate_left; exact ax4
       refine pure_ (i := 3) (N := some 23) (v := ?_) (a' := ?_) (ob 31 14) rfl rfl (any_of HT_.out (by kernel_rfl)) (fun _ _ _ h => h) (Or.inl ⟨by rfl, ?_⟩) ?_ ?_; rotate_left; exact ax3; rotate_left; exact ax4
       refine pure_ (i := 5) (N := some 25) (v := ?_) (a' := ?_) (ob 31 46) rfl rfl (any_of HT_.out (by kernel_rfl)) (fun _ _ _ h => h) (Or.inl ⟨by rfl, ?_⟩) ?_ ?_; rotate_left; exact ax3; rotate_left; exact ax4
       refine take_ (i := 0) (N := some 20) (v := ?_) (a' := ?_) (ob 31 47) rfl rfl (take_ofW HT_.out HW_.out (by kernel_rfl)) (fun _ _ _ h => h) (Or.inl ⟨by rfl, ?_⟩) hHeld ?_ ?_; rotate_left; exact ax14; rotate_left; exact ax4
       refine take_ (i := 4) (N := some 24) (v := ?_) (a' := ?_) (ob 31 63) rfl rfl (take_ofW HT_.out HW_.out (by kernel_rfl)) (fun _ _ _ h => h) (Or.inl ⟨by rfl, ?_⟩) hHeld ?_ ?_; rotate_left; exact ax14; rotate_left; exact ax4
       refine one_ (i := 6) (N := some 26) (ob 31 127) rfl rfl (one_of HT_.out (by kernel_rfl)) (by decide) (fun K hK => ?_)
       refine goes_ Try.func57 (by kernel_rfl) rfl #[.agg #[.slice A0_0 l0_0.length c0_0], .int .i64 (rd t269 x10_1), .int .i64 a2] (by rfl) rfl rfl ax25 ?_
       with_reducible refine (spec_l11Fatal.calls k1 _ _ l0_0 (rd t269 x10_1) a2 true _ ?side1 ?side2 A11.out).mono ?_
       (case side1 => exact ax26)
       (case side2 => exact ax27)
       rintro e w16 ⟨rfl, hb⟩
       have HS1_ := (hb.cell (World.block_lt_of_cell? _ _ (hHeld.2))).trans (hHeld.2)
       refine ⟨_, rfl, ?_⟩
       have n0_ := Aside0.mk (Kd.R_below ax146 hb)
       have n1_ := Aside0.mk (blk_below (g := gb268) (o := .cells #[.slice A0_0 l0_0.length c0_0] 30 (0, 0)) ax145 hb)
       have n2_ := Aside0.mk (below_step ax144 hb); clear HO_9; clear BK268; clear HB; have HO_9 := n0_; have BK268 := n1_; have HB := n2_; clear n0_ n1_ n2_; (try clear hb); (try clear hb2); (try clear hk); (try clear hi)
       refine hK.out _ _ ⟨(blk_cell BK268.out 0).trans rfl, HS1_⟩ (fun hHeld => ?_)
       clear hK K
       refine norm_ (a' := ?_) ?_ ?_
       rotate_left
       ·exact ax15
       refine pure_ (i := 7) (N := some 27) (v := ?_) (a' := ?_) (ob 31 255) rfl rfl (any_of HT_.out (by kernel_rfl)) (fun _ _ _ h => h) (Or.inl ⟨by rfl, ?_⟩) ?_ ?_; rotate_left; exact ax3; rotate_left; exact ax4
       refine pure_ (i := 8) (N := some 28) (v := ?_) (a' := ?_) (ob 31 511) rfl rfl (any_of HT_.out (by kernel_rfl)) (fun _ _ _ h => h) (Or.inl ⟨by rfl, ?_⟩) ?_ ?_; rotate_left; exact ax3; rotate_left; exact ax4
       refine pure_ (i := 9) (N := some 29) (v := ?_) (a' := ?_) (ob 31 1023) rfl rfl (any_of HT_.out (by kernel_rfl)) (fun _ _ _ h => h) (Or.inl ⟨by rfl, ?_⟩) ?_ ?_; rotate_left; exact ax3; rotate_left; exact ax4
       refine pure_ (i := 10) (N := some 30) (v := ?_) (a' := ?_) (ob 31 2047) rfl rfl (any_of HT_.out (by kernel_rfl)) (fun _ _ _ h => h) (Or.inl ⟨by rfl, ?_⟩) ?_ ?_; rotate_left; exact ax3; rotate_left; exact ax4
       refine pure_ (i := 11) (N := some 31) (v := undef) (a' := ?_) (ob 31 4095) rfl rfl (any_of HT_.out (by kernel_rfl)) (fun _ _ _ h => h) (Or.inr ⟨by rfl, rfl⟩) ?_ ?_
       rotate_left
       ·exact ax4
       refine pure_ (i := 12) (N := some 32) (v := undef) (a' := ?_) (ob 31 8191) rfl rfl (any_of HT_.out (by kernel_rfl)) (fun _ _ _ h => h) (Or.inr ⟨by rfl, rfl⟩) ?_ ?_
       rotate_left
       ·exact ax4
       refine pure_ (i := 13) (N := some 33) (v := undef) (a' := ?_) (ob 31 16383) rfl rfl (any_of HT_.out (by kernel_rfl)) (fun _ _ _ h => h) (Or.inr ⟨by rfl, rfl⟩) ?_ ?_
       rotate_left
       ·exact ax4
       refine pure_ (i := 14) (N := some 34) (v := undef) (a' := ?_) (ob 31 32767) rfl rfl (any_of HT_.out (by kernel_rfl)) (fun _ _ _ h => h) (Or.inr ⟨by rfl, rfl⟩) ?_ ?_
       rotate_left
       ·exact ax4
       refine pure_ (i := 15) (N := some 35) (v := undef) (a' := ?_) (ob 31 65535) rfl rfl (any_of HT_.out (by kernel_rfl)) (fun _ _ _ h => h) (Or.inr ⟨by rfl, rfl⟩) ?_ ?_
       rotate_left
       ·exact ax4
       refine pure_ (i := 16) (N := some 36) (v := undef) (a' := ?_) (ob 31 131071) rfl rfl (any_of HT_.out (by kernel_rfl)) (fun _ _ _ h => h) (Or.inr ⟨by rfl, rfl⟩) ?_ ?_
       rotate_left
       ·exact ax4
       refine pure_ (i := 17) (N := some 37) (v := undef) (a' := ?_) (ob 31 262143) rfl rfl (any_of HT_.out (by kernel_rfl)) (fun _ _ _ h => h) (Or.inr ⟨by rfl, rfl⟩) ?_ ?_
       rotate_left
       ·exact ax4
       refine pure_ (i := 18) (N := some 38) (v := undef) (a' := ?_) (ob 31 524287) rfl rfl (any_of HT_.out (by kernel_rfl)) (fun _ _ _ h => h) (Or.inr ⟨by rfl, rfl⟩) ?_ ?_
       rotate_left
       ·exact ax4
       refine pure_ (i := 19) (N := some 39) (v := undef) (a' := ?_) (ob 31 1048575) rfl rfl (any_of HT_.out (by kernel_rfl)) (fun _ _ _ h => h) (Or.inr ⟨by rfl, rfl⟩) ?_ ?_
       rotate_left
       ·exact ax4
       refine pure_ (i := 20) (N := some 40) (v := undef) (a' := ?_) (ob 31 2097151) rfl rfl (any_of HT_.out (by kernel_rfl)) (fun _ _ _ h => h) (Or.inr ⟨by rfl, rfl⟩) ?_ ?_
       rotate_left
       ·exact ax4
       refine pure_ (i := 21) (N := some 41) (v := undef) (a' := ?_) (ob 31 4194303) rfl rfl (any_of HT_.out (by kernel_rfl)) (fun _ _ _ h => h) (Or.inr ⟨by rfl, rfl⟩) ?_ ?_
       rotate_left
       ·exact ax4
       refine pure_ (i := 22) (N := some 42) (v := undef) (a' := ?_) (ob 31 8388607) rfl rfl (any_of HT_.out (by kernel_rfl)) (fun _ _ _ h => h) (Or.inr ⟨by rfl, rfl⟩) ?_ ?_
       rotate_left
       ·exact ax4
       refine pure_ (i := 23) (N := some 43) (v := undef) (a' := ?_) (ob 31 16777215) rfl rfl (any_of HT_.out (by kernel_rfl)) (fun _ _ _ h => h) (Or.inr ⟨by rfl, rfl⟩) ?_ ?_
       rotate_left
       ·exact ax4
       refine pure_ (i := 24) (N := some 44) (v := undef) (a' := ?_) (ob 31 33554431) rfl rfl (any_of HT_.out (by kernel_rfl)) (fun _ _ _ h => h) (Or.inr ⟨by rfl, rfl⟩) ?_ ?_
       rotate_left
       ·exact ax4
       refine pure_ (i := 25) (N := some 45) (v := undef) (a' := ?_) (ob 31 67108863) rfl rfl (any_of HT_.out (by kernel_rfl)) (fun _ _ _ h => h) (Or.inr ⟨by rfl, rfl⟩) ?_ ?_
       rotate_left
       ·exact ax4
       refine pure_ (i := 26) (N := some 46) (v := undef) (a' := ?_) (ob 31 134217727) rfl rfl (any_of HT_.out (by kernel_rfl)) (fun _ _ _ h => h) (Or.inr ⟨by rfl, rfl⟩) ?_ ?_
       rotate_left
       ·exact ax4
       refine pure_ (i := 27) (N := some 47) (v := undef) (a' := ?_) (ob 31 268435455) rfl rfl (any_of HT_.out (by kernel_rfl)) (fun _ _ _ h => h) (Or.inr ⟨by rfl, rfl⟩) ?_ ?_
       rotate_left
       ·exact ax4
       refine pure_ (i := 28) (N := some 48) (v := undef) (a' := ?_) (ob 31 536870911) rfl rfl (any_of HT_.out (by kernel_rfl)) (fun _ _ _ h => h) (Or.inr ⟨by rfl, rfl⟩) ?_ ?_
       rotate_left
       ·exact ax4
       refine pure_ (i := 29) (N := some 49) (v := undef) (a' := ?_) (ob 31 1073741823) rfl rfl (any_of HT_.out (by kernel_rfl)) (fun _ _ _ h => h) (Or.inr ⟨by rfl, rfl⟩) ?_ ?_
       rotate_left
       ·exact ax4
       refine pure_ (i := 30) (N := some 50) (v := ?_) (a' := ?_) (ob 31 2147483647) rfl rfl (any_of HT_.out (by kernel_rfl)) (fun _ _ _ h => h) (Or.inl ⟨by rfl, ?_⟩) ?_ ?_; rotate_left; exact ax3; rotate_left; exact ax4
       refine done_ (done_of HT_.out (by kernel_rfl)) ?_
       try go_wp2
       go_ret
       exact ⟨by first | rfl | (simp [errW_none, errW_some] <;> rfl) | (simp [*, errW_none, errW_some] <;> rfl), by repeat (first | (with_reducible first | exact HB.out | apply below_alloc | apply pw_below_drewN | apply below_drew1 | refine below_set ?_ GE268.out) | exact HB.out)⟩
      ·replace c13 := Bool.eq_false_iff.mpr c13
       subst c13
       have H1 : ((spec_l11Fatal.f k1 l0_0 (rd t269 x10_1) a2).bind fun t275 => (if t275 = true then (spec_l11Wins.l0 k1 a2 false t269 (wrap64 (x10_1 + 1)) l0_0) else ((spec_l11Wins.f k1 l0_0 (rd t269 x10_1) a2 false).bind fun t277 => (if t277 = true then (spec_l11Wins.l0 k1 a2 false t269 (wrap64 (x10_1 + 1)) l0_0) else (some true))))) = some r := by rw [if_neg (show ¬ (false = true) by decide)] at H; exact H
       clear H; have H := H1; clear H1; replace H := Option.bind_eq_some_iff.mp H
       obtain ⟨t275, A170, H⟩ := H
       replace H : (if t275 = true then (spec_l11Wins.l0 k1 a2 false t269 (wrap64 (x10_1 + 1)) l0_0) else ((spec_l11Wins.f k1 l0_0 (rd t269 x10_1) a2 false).bind fun t277 => (if t277 = true then (spec_l11Wins.l0 k1 a2 false t269 (wrap64 (x10_1 + 1)) l0_0) else (some true)))) = some r := H
       have A17 := Aside0.mk A170; clear A170
       by_cases c18 : t275 = true
       ·subst c18
        have H1 : (spec_l11Wins.l0 k1 a2 false t269 (wrap64 (x10_1 + 1)) l0_0) = some r := by rw [if_pos rfl] at H; exact H
        clear H; have H := H1; clear H1
        have H' := Aside0.mk H
        clear H
        obtain ⟨Ao19, co19, eo19⟩ := Kd.R_slice HO_9.out
        subst eo19
        try go_wp2
        have n0_ := Aside0.mk (Kd.R_drew HO_9.out); have n1_ := Aside0.mk (blk_drew BK268.out); have n2_ := Aside0.mk (below_drew1 HB.out); clear HO_9; clear BK268; clear HB; have HO_9 := n0_; have BK268 := n1_; have HB := n2_; clear n0_ n1_ n2_
        have p272 : 0 ≤ (x10_1 : Int) := of_decide_eq_true ax36
        have q272 : x10_1 < (t269.length : Int) := of_decide_eq_true ax36
        obtain ⟨ad272, e272, hx272_0⟩ := Kd.at_int (Kd.R_reads' HO_9.out).2.2 x10_1 p272 q272
        cases e272; replace p272 := eq_true p272; replace q272 := eq_true q272
        have p274 : 0 ≤ (x10_1 : Int) := of_decide_eq_true ax36
        have q274 : x10_1 < (t269.length : Int) := of_decide_eq_true ax36
        obtain ⟨ad274, e274, hx274_0⟩ := Kd.at_int (Kd.R_reads' HO_9.out).2.2 x10_1 p274 q274
        obtain rfl : ad272 = ad274 := (by injection e274)
        replace p274 := eq_true p274; replace q274 := eq_true q274
        refine start_ (n := 31) (S := fun w' => w'.cell? ⟨gb268, 0, none⟩ = some (.slice A0_0 l0_0.length c0_0) ∧ w'.cell? (ad272.add (x10_1).toNat) = some (.int .i64 (rd t269 x10_1)) ∧ w'.cell? (ad272.add (x10_1).toNat) = some (.int .i64 (rd t269 x10_1))) (ds := []) (ob 31 0) (by kernel_rfl) rfl rfl ⟨(blk_cell BK268.out 0).trans rfl, hx272_0, hx274_0⟩ (fun hHeld => ?_); refine with_tabW spec_l11Wins.tab5 spec_l11Wins.bits5 (fun HT_ HW_ => ?_)
        generalize wr.drew = w20 at HO_9 BK268 HB hx272_0 hx274_0 hHeld ⊢
        refine pure_ (i := 1) (N := some 21) (v := ?_) (a' := ?_) (ob 31 2) rfl rfl (any_of HT_.out (by kernel_rfl)) (fun _ _ _ h => h) (Or.inl ⟨by rfl, ?_⟩) ?_ ?_; rotate_left; exact ax3; rotate_left; exact ax4
        refine pure_ (i := 2) (N := some 22) (v := ?_) (a' := ?_) (ob 31 6) rfl rfl (any_of HT_.out (by kernel_rfl)) (fun _ _ _ h => h) (Or.inl ⟨by rfl, ?_⟩) ?_ ?_; rotate_left; exact ax3; rotate_left; exact ax4
        refine pure_ (i := 3) (N := some 23) (v := ?_) (a' := ?_) (ob 31 14) rfl rfl (any_of HT_.out (by kernel_rfl)) (fun _ _ _ h => h) (Or.inl ⟨by rfl, ?_⟩) ?_ ?_; rotate_left; exact ax3; rotate_left; exact ax4
        refine pure_ (i := 5) (N := some 25) (v := ?_) (a' := ?_) (ob 31 46) rfl rfl (any_of HT_.out (by kernel_rfl)) (fun _ _ _ h => h) (Or.inl ⟨by rfl, ?_⟩) ?_ ?_; rotate_left; exact ax3; rotate_left; exact ax4
        refine take_ (i := 0) (N := some 20) (v := ?_) (a' := ?_) (ob 31 47) rfl rfl (take_ofW HT_.out HW_.out (by kernel_rfl)) (fun _ _ _ h => h) (Or.inl ⟨by rfl, ?_⟩) hHeld ?_ ?_; rotate_left; exact ax16; rotate_left; exact ax4
        refine take_ (i := 4) (N := some 24) (v := ?_) (a' := ?_) (ob 31 63) rfl rfl (take_ofW HT_.out HW_.out (by kernel_rfl)) (fun _ _ _ h => h) (Or.inl ⟨by rfl, ?_⟩) hHeld ?_ ?_; rotate_left; exact ax16; rotate_left; exact ax4
        refine one_ (i := 6) (N := some 26) (ob 31 127) rfl rfl (one_of HT_.out (by kernel_rfl)) (by decide) (fun K hK => ?_)
        refine goes_ Try.func57 (by kernel_rfl) rfl #[.agg #[.slice A0_0 l0_0.length c0_0], .int .i64 (rd t269 x10_1), .int .i64 a2] (by rfl) rfl rfl ax25 ?_
        with_reducible refine (spec_l11Fatal.calls k1 _ _ l0_0 (rd t269 x10_1) a2 true _ ?side1 ?side2 A11.out).mono ?_
        (case side1 => exact ax26)
        (case side2 => exact ax27)
        rintro e w21 ⟨rfl, hb⟩
        have HS1_ := (hb.cell (World.block_lt_of_cell? _ _ (hHeld.2.1))).trans (hHeld.2.1); have HS2_ := (hb.cell (World.block_lt_of_cell? _ _ (hHeld.2.2))).trans (hHeld.2.2)
        refine ⟨_, rfl, ?_⟩
        have n0_ := Aside0.mk (Kd.R_below ax146 hb)
        have n1_ := Aside0.mk (blk_below (g := gb268) (o := .cells #[.slice A0_0 l0_0.length c0_0] 30 (0, 0)) ax145 hb)
        have n2_ := Aside0.mk (below_step ax144 hb); clear HO_9; clear BK268; clear HB; have HO_9 := n0_; have BK268 := n1_; have HB := n2_; clear n0_ n1_ n2_; (try clear hb); (try clear hb2); (try clear hk); (try clear hi)
        refine hK.out _ _ ⟨(blk_cell BK268.out 0).trans rfl, HS1_, HS2_⟩ (fun hHeld => ?_)
        clear hK K
        refine norm_ (a' := ?_) ?_ ?_
        rotate_left
        ·exact ax15
        refine pure_ (i := 7) (N := some 27) (v := ?_) (a' := ?_) (ob 31 255) rfl rfl (any_of HT_.out (by kernel_rfl)) (fun _ _ _ h => h) (Or.inl ⟨by rfl, ?_⟩) ?_ ?_; rotate_left; exact ax3; rotate_left; exact ax4
        refine pure_ (i := 8) (N := some 28) (v := ?_) (a' := ?_) (ob 31 511) rfl rfl (any_of HT_.out (by kernel_rfl)) (fun _ _ _ h => h) (Or.inl ⟨by rfl, ?_⟩) ?_ ?_; rotate_left; exact ax3; rotate_left; exact ax4
        refine pure_ (i := 9) (N := some 29) (v := ?_) (a' := ?_) (ob 31 1023) rfl rfl (any_of HT_.out (by kernel_rfl)) (fun _ _ _ h => h) (Or.inl ⟨by rfl, ?_⟩) ?_ ?_; rotate_left; exact ax3; rotate_left; exact ax4
        refine pure_ (i := 10) (N := some 30) (v := ?_) (a' := ?_) (ob 31 2047) rfl rfl (any_of HT_.out (by kernel_rfl)) (fun _ _ _ h => h) (Or.inl ⟨by rfl, ?_⟩) ?_ ?_; rotate_left; exact ax3; rotate_left; exact ax4
        refine pure_ (i := 12) (N := some 32) (v := ?_) (a' := ?_) (ob 31 6143) rfl rfl (any_of HT_.out (by kernel_rfl)) (fun _ _ _ h => h) (Or.inl ⟨by rfl, ?_⟩) ?_ ?_; rotate_left; exact ax3; rotate_left; exact ax4
        refine pure_ (i := 13) (N := some 33) (v := ?_) (a' := ?_) (ob 31 14335) rfl rfl (any_of HT_.out (by kernel_rfl)) (fun _ _ _ h => h) (Or.inl ⟨by rfl, ?_⟩) ?_ ?_; rotate_left; exact ax3; rotate_left; exact ax4
        refine pure_ (i := 14) (N := some 34) (v := ?_) (a' := ?_) (ob 31 30719) rfl rfl (any_of HT_.out (by kernel_rfl)) (fun _ _ _ h => h) (Or.inl ⟨by rfl, ?_⟩) ?_ ?_; rotate_left; exact ax3; rotate_left; exact ax4
        refine pure_ (i := 16) (N := some 36) (v := ?_) (a' := ?_) (ob 31 96255) rfl rfl (any_of HT_.out (by kernel_rfl)) (fun _ _ _ h => h) (Or.inl ⟨by rfl, ?_⟩) ?_ ?_; rotate_left; exact ax3; rotate_left; exact ax4
        refine take_ (i := 11) (N := some 31) (v := ?_) (a' := ?_) (ob 31 98303) rfl rfl (take_ofW HT_.out HW_.out (by kernel_rfl)) (fun _ _ _ h => h) (Or.inl ⟨by rfl, ?_⟩) hHeld ?_ ?_; rotate_left; exact ax16; rotate_left; exact ax4
        refine take_ (i := 15) (N := some 35) (v := ?_) (a' := ?_) (ob 31 131071) rfl rfl (take_ofW HT_.out HW_.out (by kernel_rfl)) (fun _ _ _ h => h) (Or.inl ⟨by rfl, ?_⟩) hHeld ?_ ?_; rotate_left; exact ax16; rotate_left; exact ax4
        refine one_ (i := 17) (N := some 37) (ob 31 262143) rfl rfl (one_of HT_.out (by kernel_rfl)) (by decide) (fun K hK => ?_)
        refine goes_ Try.func57 (by kernel_rfl) rfl #[.agg #[.slice A0_0 l0_0.length c0_0], .int .i64 (rd t269 x10_1), .int .i64 a2] (by rfl) rfl rfl ax25 ?_
        with_reducible refine (spec_l11Fatal.calls k1 _ _ l0_0 (rd t269 x10_1) a2 true _ ?side1 ?side2 A17.out).mono ?_
        (case side1 => exact ax26)
        (case side2 => exact ax27)
        rintro e w22 ⟨rfl, hb⟩
        have HS1_ := (hb.cell (World.block_lt_of_cell? _ _ (hHeld.2.1))).trans (hHeld.2.1); have HS2_ := (hb.cell (World.block_lt_of_cell? _ _ (hHeld.2.2))).trans (hHeld.2.2)
        refine ⟨_, rfl, ?_⟩
        have n0_ := Aside0.mk (Kd.R_below ax146 hb)
        have n1_ := Aside0.mk (blk_below (g := gb268) (o := .cells #[.slice A0_0 l0_0.length c0_0] 30 (0, 0)) ax145 hb)
        have n2_ := Aside0.mk (below_step ax144 hb); clear HO_9; clear BK268; clear HB; have HO_9 := n0_; have BK268 := n1_; have HB := n2_; clear n0_ n1_ n2_; (try clear hb); (try clear hb2); (try clear hk); (try clear hi)
        refine hK.out _ _ ⟨(blk_cell BK268.out 0).trans rfl, HS1_, HS2_⟩ (fun hHeld => ?_)
        clear hK K
        refine norm_ (a' := ?_) ?_ ?_
        rotate_left
        ·exact ax17
        refine pure_ (i := 18) (N := some 38) (v := ?_) (a' := ?_) (ob 31 524287) rfl rfl (any_of HT_.out (by kernel_rfl)) (fun _ _ _ h => h) (Or.inl ⟨by rfl, ?_⟩) ?_ ?_; rotate_left; exact ax3; rotate_left; exact ax4
        refine pure_ (i := 19) (N := some 39) (v := ?_) (a' := ?_) (ob 31 1048575) rfl rfl (any_of HT_.out (by kernel_rfl)) (fun _ _ _ h => h) (Or.inl ⟨by rfl, ?_⟩) ?_ ?_; rotate_left; exact ax3; rotate_left; exact ax4
        refine pure_ (i := 20) (N := some 40) (v := undef) (a' := ?_) (ob 31 2097151) rfl rfl (any_of HT_.out (by kernel_rfl)) (fun _ _ _ h => h) (Or.inr ⟨by rfl, rfl⟩) ?_ ?_
        rotate_left
        ·exact ax4
        refine pure_ (i := 21) (N := some 41) (v := undef) (a' := ?_) (ob 31 4194303) rfl rfl (any_of HT_.out (by kernel_rfl)) (fun _ _ _ h => h) (Or.inr ⟨by rfl, rfl⟩) ?_ ?_
        rotate_left
        ·exact ax4
        refine pure_ (i := 22) (N := some 42) (v := undef) (a' := ?_) (ob 31 8388607) rfl rfl (any_of HT_.out (by kernel_rfl)) (fun _ _ _ h => h) (Or.inr ⟨by rfl, rfl⟩) ?_ ?_
        rotate_left
        ·exact ax4
        refine pure_ (i := 23) (N := some 43) (v := undef) (a' := ?_) (ob 31 16777215) rfl rfl (any_of HT_.out (by kernel_rfl)) (fun _ _ _ h => h) (Or.inr ⟨by rfl, rfl⟩) ?_ ?_
        rotate_left
        ·exact ax4
        refine pure_ (i := 24) (N := some 44) (v := undef) (a' := ?_) (ob 31 33554431) rfl rfl (any_of HT_.out (by kernel_rfl)) (fun _ _ _ h => h) (Or.inr ⟨by rfl, rfl⟩) ?_ ?_
        rotate_left
        ·exact ax4
        refine pure_ (i := 25) (N := some 45) (v := undef) (a' := ?_) (ob 31 67108863) rfl rfl (any_of HT_.out (by kernel_rfl)) (fun _ _ _ h => h) (Or.inr ⟨by rfl, rfl⟩) ?_ ?_
        rotate_left
        ·exact ax4
        refine pure_ (i := 26) (N := some 46) (v := undef) (a' := ?_) (ob 31 134217727) rfl rfl (any_of HT_.out (by kernel_rfl)) (fun _ _ _ h => h) (Or.inr ⟨by rfl, rfl⟩) ?_ ?_
        rotate_left
        ·exact ax4
        refine pure_ (i := 27) (N := some 47) (v := undef) (a' := ?_) (ob 31 268435455) rfl rfl (any_of HT_.out (by kernel_rfl)) (fun _ _ _ h => h) (Or.inr ⟨by rfl, rfl⟩) ?_ ?_
        rotate_left
        ·exact ax4
        refine pure_ (i := 28) (N := some 48) (v := undef) (a' := ?_) (ob 31 536870911) rfl rfl (any_of HT_.out (by kernel_rfl)) (fun _ _ _ h => h) (Or.inr ⟨by rfl, rfl⟩) ?_ ?_
        rotate_left
        ·exact ax4
        refine pure_ (i := 29) (N := some 49) (v := ?_) (a' := ?_) (ob 31 1073741823) rfl rfl (any_of HT_.out (by kernel_rfl)) (fun _ _ _ h => h) (Or.inl ⟨by rfl, ?_⟩) ?_ ?_; rotate_left; exact ax3; rotate_left; exact ax4
        refine pure_ (i := 30) (N := some 50) (v := ?_) (a' := ?_) (ob 31 2147483647) rfl rfl (any_of HT_.out (by kernel_rfl)) (fun _ _ _ h => h) (Or.inl ⟨by rfl, ?_⟩) ?_ ?_; rotate_left; exact ax3; rotate_left; exact ax4
        refine done_ (done_of HT_.out (by kernel_rfl)) ?_
        try go_wp2
        go_roundg k1
        case measure => have := HK1.out; omega
        case rel => exact ⟨(wrap64 (x10_1 + 1)), ax37, H', ⟨by have := HK1.out; omega⟩, ⟨by (with_reducible repeat (first | apply Kd.R_alloc | apply Kd.R_drewN | apply Kd.R_drew)); exact HO_9.out⟩, ⟨by (with_reducible repeat (first | refine blk_drewN ?_ _ | refine blk_drew ?_ | refine blk_alloc ?_ _)); exact BK268.out⟩, ⟨by repeat (first | (with_reducible first | exact HB.out | apply below_alloc | apply pw_below_drewN | apply below_drew1 | refine below_set ?_ GE268.out) | exact HB.out)⟩⟩
       ·replace c18 := Bool.eq_false_iff.mpr c18
        subst c18
        have H1 : ((spec_l11Wins.f k1 l0_0 (rd t269 x10_1) a2 false).bind fun t277 => (if t277 = true then (spec_l11Wins.l0 k1 a2 false t269 (wrap64 (x10_1 + 1)) l0_0) else (some true))) = some r := by rw [if_neg (show ¬ (false = true) by decide)] at H; exact H
        clear H; have H := H1; clear H1; replace H := Option.bind_eq_some_iff.mp H
        obtain ⟨t277, A230, H⟩ := H
        replace H : (if t277 = true then (spec_l11Wins.l0 k1 a2 false t269 (wrap64 (x10_1 + 1)) l0_0) else (some true)) = some r := H
        have A23 := Aside0.mk A230; clear A230
        by_cases c24 : t277 = true
        ·subst c24
         have H1 : (spec_l11Wins.l0 k1 a2 false t269 (wrap64 (x10_1 + 1)) l0_0) = some r := by rw [if_pos rfl] at H; exact H
         clear H; have H := H1; clear H1
         have H' := Aside0.mk H
         clear H
         obtain ⟨Ao25, co25, eo25⟩ := Kd.R_slice HO_9.out
         subst eo25
         try go_wp2
         have n0_ := Aside0.mk (Kd.R_drew HO_9.out); have n1_ := Aside0.mk (blk_drew BK268.out); have n2_ := Aside0.mk (below_drew1 HB.out); clear HO_9; clear BK268; clear HB; have HO_9 := n0_; have BK268 := n1_; have HB := n2_; clear n0_ n1_ n2_
         have p272 : 0 ≤ (x10_1 : Int) := of_decide_eq_true ax36
         have q272 : x10_1 < (t269.length : Int) := of_decide_eq_true ax36
         obtain ⟨ad272, e272, hx272_0⟩ := Kd.at_int (Kd.R_reads' HO_9.out).2.2 x10_1 p272 q272
         cases e272; replace p272 := eq_true p272; replace q272 := eq_true q272
         have p274 : 0 ≤ (x10_1 : Int) := of_decide_eq_true ax36
         have q274 : x10_1 < (t269.length : Int) := of_decide_eq_true ax36
         obtain ⟨ad274, e274, hx274_0⟩ := Kd.at_int (Kd.R_reads' HO_9.out).2.2 x10_1 p274 q274
         obtain rfl : ad272 = ad274 := (by injection e274)
         replace p274 := eq_true p274; replace q274 := eq_true q274
         have p276 : 0 ≤ (x10_1 : Int) := of_decide_eq_true ax36
         have q276 : x10_1 < (t269.length : Int) := of_decide_eq_true ax36
         obtain ⟨ad276, e276, hx276_0⟩ := Kd.at_int (Kd.R_reads' HO_9.out).2.2 x10_1 p276 q276
         obtain rfl : ad272 = ad276 := (by injection e276)
         replace p276 := eq_true p276; replace q276 := eq_true q276
         refine start_ (n := 31) (S := fun w' => w'.cell? ⟨gb268, 0, none⟩ = some (.slice A0_0 l0_0.length c0_0) ∧ w'.cell? (ad272.add (x10_1).toNat) = some (.int .i64 (rd t269 x10_1)) ∧ w'.cell? (ad272.add (x10_1).toNat) = some (.int .i64 (rd t269 x10_1)) ∧ w'.cell? (ad272.add (x10_1).toNat) = some (.int .i64 (rd t269 x10_1))) (ds := []) (ob 31 0) (by kernel_rfl) rfl rfl ⟨(blk_cell BK268.out 0).trans rfl, hx272_0, hx274_0, hx276_0⟩ (fun hHeld => ?_); refine with_tabW spec_l11Wins.tab5 spec_l11Wins.bits5 (fun HT_ HW_ => ?_)
         generalize wr.drew = w26 at HO_9 BK268 HB hx272_0 hx274_0 hx276_0 hHeld ⊢
         refine pure_ (i := 1) (N := some 21) (v := ?_) (a' := ?_) (ob 31 2) rfl rfl (any_of HT_.out (by kernel_rfl)) (fun _ _ _ h => h) (Or.inl ⟨by rfl, ?_⟩) ?_ ?_; rotate_left; exact ax3; rotate_left; exact ax4
         refine pure_ (i := 2) (N := some 22) (v := ?_) (a' := ?_) (ob 31 6) rfl rfl (any_of HT_.out (by kernel_rfl)) (fun _ _ _ h => h) (Or.inl ⟨by rfl, ?_⟩) ?_ ?_; rotate_left; exact ax3; rotate_left; exact ax4
         refine pure_ (i := 3) (N := some 23) (v := ?_) (a' := ?_) (ob 31 14) rfl rfl (any_of HT_.out (by kernel_rfl)) (fun _ _ _ h => h) (Or.inl ⟨by rfl, ?_⟩) ?_ ?_; rotate_left; exact ax3; rotate_left; exact ax4
         refine pure_ (i := 5) (N := some 25) (v := ?_) (a' := ?_) (ob 31 46) rfl rfl (any_of HT_.out (by kernel_rfl)) (fun _ _ _ h => h) (Or.inl ⟨by rfl, ?_⟩) ?_ ?_; rotate_left; exact ax3; rotate_left; exact ax4
         refine take_ (i := 0) (N := some 20) (v := ?_) (a' := ?_) (ob 31 47) rfl rfl (take_ofW HT_.out HW_.out (by kernel_rfl)) (fun _ _ _ h => h) (Or.inl ⟨by rfl, ?_⟩) hHeld ?_ ?_; rotate_left; exact ax18; rotate_left; exact ax4
         refine take_ (i := 4) (N := some 24) (v := ?_) (a' := ?_) (ob 31 63) rfl rfl (take_ofW HT_.out HW_.out (by kernel_rfl)) (fun _ _ _ h => h) (Or.inl ⟨by rfl, ?_⟩) hHeld ?_ ?_; rotate_left; exact ax18; rotate_left; exact ax4
         refine one_ (i := 6) (N := some 26) (ob 31 127) rfl rfl (one_of HT_.out (by kernel_rfl)) (by decide) (fun K hK => ?_)
         refine goes_ Try.func57 (by kernel_rfl) rfl #[.agg #[.slice A0_0 l0_0.length c0_0], .int .i64 (rd t269 x10_1), .int .i64 a2] (by rfl) rfl rfl ax25 ?_
         with_reducible refine (spec_l11Fatal.calls k1 _ _ l0_0 (rd t269 x10_1) a2 true _ ?side1 ?side2 A11.out).mono ?_
         (case side1 => exact ax26)
         (case side2 => exact ax27)
         rintro e w27 ⟨rfl, hb⟩
         have HS1_ := (hb.cell (World.block_lt_of_cell? _ _ (hHeld.2.1))).trans (hHeld.2.1); have HS2_ := (hb.cell (World.block_lt_of_cell? _ _ (hHeld.2.2.1))).trans (hHeld.2.2.1); have HS3_ := (hb.cell (World.block_lt_of_cell? _ _ (hHeld.2.2.2))).trans (hHeld.2.2.2)
         refine ⟨_, rfl, ?_⟩
         have n0_ := Aside0.mk (Kd.R_below ax146 hb)
         have n1_ := Aside0.mk (blk_below (g := gb268) (o := .cells #[.slice A0_0 l0_0.length c0_0] 30 (0, 0)) ax145 hb)
         have n2_ := Aside0.mk (below_step ax144 hb); clear HO_9; clear BK268; clear HB; have HO_9 := n0_; have BK268 := n1_; have HB := n2_; clear n0_ n1_ n2_; (try clear hb); (try clear hb2); (try clear hk); (try clear hi)
         refine hK.out _ _ ⟨(blk_cell BK268.out 0).trans rfl, HS1_, HS2_, HS3_⟩ (fun hHeld => ?_)
         clear hK K
         refine norm_ (a' := ?_) ?_ ?_
         rotate_left
         ·exact ax15
         refine pure_ (i := 7) (N := some 27) (v := ?_) (a' := ?_) (ob 31 255) rfl rfl (any_of HT_.out (by kernel_rfl)) (fun _ _ _ h => h) (Or.inl ⟨by rfl, ?_⟩) ?_ ?_; rotate_left; exact ax3; rotate_left; exact ax4
         refine pure_ (i := 8) (N := some 28) (v := ?_) (a' := ?_) (ob 31 511) rfl rfl (any_of HT_.out (by kernel_rfl)) (fun _ _ _ h => h) (Or.inl ⟨by rfl, ?_⟩) ?_ ?_; rotate_left; exact ax3; rotate_left; exact ax4
         refine pure_ (i := 9) (N := some 29) (v := ?_) (a' := ?_) (ob 31 1023) rfl rfl (any_of HT_.out (by kernel_rfl)) (fun _ _ _ h => h) (Or.inl ⟨by rfl, ?_⟩) ?_ ?_; rotate_left; exact ax3; rotate_left; exact ax4
         refine pure_ (i := 10) (N := some 30) (v := ?_) (a' := ?_) (ob 31 2047) rfl rfl (any_of HT_.out (by kernel_rfl)) (fun _ _ _ h => h) (Or.inl ⟨by rfl, ?_⟩) ?_ ?_; rotate_left; exact ax3; rotate_left; exact ax4
         refine pure_ (i := 12) (N := some 32) (v := ?_) (a' := ?_) (ob 31 6143) rfl rfl (any_of HT_.out (by kernel_rfl)) (fun _ _ _ h => h) (Or.inl ⟨by rfl, ?_⟩) ?_ ?_; rotate_left; exact ax3; rotate_left; exact ax4
         refine pure_ (i := 13) (N := some 33) (v := ?_) (a' := ?_) (ob 31 14335) rfl rfl (any_of HT_.out (by kernel_rfl)) (fun _ _ _ h => h) (Or.inl ⟨by rfl, ?_⟩) ?_ ?_; rotate_left; exact ax3; rotate_left; exact ax4
         refine pure_ (i := 14) (N := some 34) (v := ?_) (a' := ?_) (ob 31 30719) rfl rfl (any_of HT_.out (by kernel_rfl)) (fun _ _ _ h => h) (Or.inl ⟨by rfl, ?_⟩) ?_ ?_; rotate_left; exact ax3; rotate_left; exact ax4
         refine pure_ (i := 16) (N := some 36) (v := ?_) (a' := ?_) (ob 31 96255) rfl rfl (any_of HT_.out (by kernel_rfl)) (fun _ _ _ h => h) (Or.inl ⟨by rfl, ?_⟩) ?_ ?_; rotate_left; exact ax3; rotate_left; exact ax4
         refine take_ (i := 11) (N := some 31) (v := ?_) (a' := ?_) (ob 31 98303) rfl rfl (take_ofW HT_.out HW_.out (by kernel_rfl)) (fun _ _ _ h => h) (Or.inl ⟨by rfl, ?_⟩) hHeld ?_ ?_; rotate_left; exact ax18; rotate_left; exact ax4
         refine take_ (i := 15) (N := some 35) (v := ?_) (a' := ?_) (ob 31 131071) rfl rfl (take_ofW HT_.out HW_.out (by kernel_rfl)) (fun _ _ _ h => h) (Or.inl ⟨by rfl, ?_⟩) hHeld ?_ ?_; rotate_left; exact ax18; rotate_left; exact ax4
         refine one_ (i := 17) (N := some 37) (ob 31 262143) rfl rfl (one_of HT_.out (by kernel_rfl)) (by decide) (fun K hK => ?_)
         refine goes_ Try.func57 (by kernel_rfl) rfl #[.agg #[.slice A0_0 l0_0.length c0_0], .int .i64 (rd t269 x10_1), .int .i64 a2] (by rfl) rfl rfl ax25 ?_
         with_reducible refine (spec_l11Fatal.calls k1 _ _ l0_0 (rd t269 x10_1) a2 false _ ?side1 ?side2 A17.out).mono ?_
         (case side1 => exact ax26)
         (case side2 => exact ax27)
         rintro e w28 ⟨rfl, hb⟩
         have HS1_ := (hb.cell (World.block_lt_of_cell? _ _ (hHeld.2.1))).trans (hHeld.2.1); have HS2_ := (hb.cell (World.block_lt_of_cell? _ _ (hHeld.2.2.1))).trans (hHeld.2.2.1); have HS3_ := (hb.cell (World.block_lt_of_cell? _ _ (hHeld.2.2.2))).trans (hHeld.2.2.2)
         refine ⟨_, rfl, ?_⟩
         have n0_ := Aside0.mk (Kd.R_below ax146 hb)
         have n1_ := Aside0.mk (blk_below (g := gb268) (o := .cells #[.slice A0_0 l0_0.length c0_0] 30 (0, 0)) ax145 hb)
         have n2_ := Aside0.mk (below_step ax144 hb); clear HO_9; clear BK268; clear HB; have HO_9 := n0_; have BK268 := n1_; have HB := n2_; clear n0_ n1_ n2_; (try clear hb); (try clear hb2); (try clear hk); (try clear hi)
         refine hK.out _ _ ⟨(blk_cell BK268.out 0).trans rfl, HS1_, HS2_, HS3_⟩ (fun hHeld => ?_)
         clear hK K
         refine norm_ (a' := ?_) ?_ ?_
         rotate_left
         ·exact ax17
         refine pure_ (i := 18) (N := some 38) (v := ?_) (a' := ?_) (ob 31 524287) rfl rfl (any_of HT_.out (by kernel_rfl)) (fun _ _ _ h => h) (Or.inl ⟨by rfl, ?_⟩) ?_ ?_; rotate_left; exact ax3; rotate_left; exact ax4
         refine pure_ (i := 19) (N := some 39) (v := ?_) (a' := ?_) (ob 31 1048575) rfl rfl (any_of HT_.out (by kernel_rfl)) (fun _ _ _ h => h) (Or.inl ⟨by rfl, ?_⟩) ?_ ?_; rotate_left; exact ax3; rotate_left; exact ax4
         refine pure_ (i := 21) (N := some 41) (v := ?_) (a' := ?_) (ob 31 3145727) rfl rfl (any_of HT_.out (by kernel_rfl)) (fun _ _ _ h => h) (Or.inl ⟨by rfl, ?_⟩) ?_ ?_; rotate_left; exact ax3; rotate_left; exact ax4
         refine pure_ (i := 22) (N := some 42) (v := ?_) (a' := ?_) (ob 31 7340031) rfl rfl (any_of HT_.out (by kernel_rfl)) (fun _ _ _ h => h) (Or.inl ⟨by rfl, ?_⟩) ?_ ?_; rotate_left; exact ax3; rotate_left; exact ax4
         refine pure_ (i := 23) (N := some 43) (v := ?_) (a' := ?_) (ob 31 15728639) rfl rfl (any_of HT_.out (by kernel_rfl)) (fun _ _ _ h => h) (Or.inl ⟨by rfl, ?_⟩) ?_ ?_; rotate_left; exact ax3; rotate_left; exact ax4
         refine pure_ (i := 25) (N := some 45) (v := ?_) (a' := ?_) (ob 31 49283071) rfl rfl (any_of HT_.out (by kernel_rfl)) (fun _ _ _ h => h) (Or.inl ⟨by rfl, ?_⟩) ?_ ?_; rotate_left; exact ax3; rotate_left; exact ax4
         refine pure_ (i := 26) (N := some 46) (v := ?_) (a' := ?_) (ob 31 116391935) rfl rfl (any_of HT_.out (by kernel_rfl)) (fun _ _ _ h => h) (Or.inl ⟨by rfl, ?_⟩) ?_ ?_; rotate_left; exact ax3; rotate_left; exact ax4
         refine take_ (i := 20) (N := some 40) (v := ?_) (a' := ?_) (ob 31 117440511) rfl rfl (take_ofW HT_.out HW_.out (by kernel_rfl)) (fun _ _ _ h => h) (Or.inl ⟨by rfl, ?_⟩) hHeld ?_ ?_; rotate_left; exact ax18; rotate_left; exact ax4
         refine take_ (i := 24) (N := some 44) (v := ?_) (a' := ?_) (ob 31 134217727) rfl rfl (take_ofW HT_.out HW_.out (by kernel_rfl)) (fun _ _ _ h => h) (Or.inl ⟨by rfl, ?_⟩) hHeld ?_ ?_; rotate_left; exact ax18; rotate_left; exact ax4
         refine one_ (i := 27) (N := some 47) (ob 31 268435455) rfl rfl (one_of HT_.out (by kernel_rfl)) (by decide) (fun K hK => ?_)
         refine goes_ Try.func50 (by kernel_rfl) rfl #[.agg #[.slice A0_0 l0_0.length c0_0], .int .i64 (rd t269 x10_1), .int .i64 a2, .bool false] (by rfl) rfl rfl ax25 ?_
         with_reducible refine (ih k1 ax147 _ _ l0_0 (rd t269 x10_1) a2 false true _ ?side1 ?side2 A23.out).mono ?_
         (case side1 => exact ax26)
         (case side2 => exact ax27)
         rintro e w29 ⟨rfl, hb⟩
         have HS1_ := (hb.cell (World.block_lt_of_cell? _ _ (hHeld.2.1))).trans (hHeld.2.1); have HS2_ := (hb.cell (World.block_lt_of_cell? _ _ (hHeld.2.2.1))).trans (hHeld.2.2.1); have HS3_ := (hb.cell (World.block_lt_of_cell? _ _ (hHeld.2.2.2))).trans (hHeld.2.2.2)
         refine ⟨_, rfl, ?_⟩
         have n0_ := Aside0.mk (Kd.R_below ax146 hb)
         have n1_ := Aside0.mk (blk_below (g := gb268) (o := .cells #[.slice A0_0 l0_0.length c0_0] 30 (0, 0)) ax145 hb)
         have n2_ := Aside0.mk (below_step ax144 hb); clear HO_9; clear BK268; clear HB; have HO_9 := n0_; have BK268 := n1_; have HB := n2_; clear n0_ n1_ n2_; (try clear hb); (try clear hb2); (try clear hk); (try clear hi)
         refine hK.out _ _ ⟨(blk_cell BK268.out 0).trans rfl, HS1_, HS2_, HS3_⟩ (fun hHeld => ?_)
         clear hK K
         refine norm_ (a' := ?_) ?_ ?_
         rotate_left
         ·exact ax19
         refine pure_ (i := 28) (N := some 48) (v := ?_) (a' := ?_) (ob 31 536870911) rfl rfl (any_of HT_.out (by kernel_rfl)) (fun _ _ _ h => h) (Or.inl ⟨by rfl, ?_⟩) ?_ ?_; rotate_left; exact ax3; rotate_left; exact ax4
         refine pure_ (i := 29) (N := some 49) (v := ?_) (a' := ?_) (ob 31 1073741823) rfl rfl (any_of HT_.out (by kernel_rfl)) (fun _ _ _ h => h) (Or.inl ⟨by rfl, ?_⟩) ?_ ?_; rotate_left; exact ax3; rotate_left; exact ax4
         refine pure_ (i := 30) (N := some 50) (v := ?_) (a' := ?_) (ob 31 2147483647) rfl rfl (any_of HT_.out (by kernel_rfl)) (fun _ _ _ h => h) (Or.inl ⟨by rfl, ?_⟩) ?_ ?_; rotate_left; exact ax3; rotate_left; exact ax4
         refine done_ (done_of HT_.out (by kernel_rfl)) ?_
         try go_wp2
         go_roundg k1
         case measure => have := HK1.out; omega
         case rel => exact ⟨(wrap64 (x10_1 + 1)), ax37, H', ⟨by have := HK1.out; omega⟩, ⟨by (with_reducible repeat (first | apply Kd.R_alloc | apply Kd.R_drewN | apply Kd.R_drew)); exact HO_9.out⟩, ⟨by (with_reducible repeat (first | refine blk_drewN ?_ _ | refine blk_drew ?_ | refine blk_alloc ?_ _)); exact BK268.out⟩, ⟨by repeat (first | (with_reducible first | exact HB.out | apply below_alloc | apply pw_below_drewN | apply below_drew1 | refine below_set ?_ GE268.out) | exact HB.out)⟩⟩
        ·replace c24 := Bool.eq_false_iff.mpr c24
         subst c24
         have H1 : (some true) = some r := by rw [if_neg (show ¬ (false = true) by decide)] at H; exact H
         clear H; have H := H1; clear H1
         obtain rfl := Option.some.inj H
         obtain ⟨Ao30, co30, eo30⟩ := Kd.R_slice HO_9.out
         subst eo30
         try go_wp2
         have n0_ := Aside0.mk (Kd.R_drew HO_9.out); have n1_ := Aside0.mk (blk_drew BK268.out); have n2_ := Aside0.mk (below_drew1 HB.out); clear HO_9; clear BK268; clear HB; have HO_9 := n0_; have BK268 := n1_; have HB := n2_; clear n0_ n1_ n2_
         have p272 : 0 ≤ (x10_1 : Int) := of_decide_eq_true ax36
         have q272 : x10_1 < (t269.length : Int) := of_decide_eq_true ax36
         obtain ⟨ad272, e272, hx272_0⟩ := Kd.at_int (Kd.R_reads' HO_9.out).2.2 x10_1 p272 q272
         cases e272; replace p272 := eq_true p272; replace q272 := eq_true q272
         have p274 : 0 ≤ (x10_1 : Int) := of_decide_eq_true ax36
         have q274 : x10_1 < (t269.length : Int) := of_decide_eq_true ax36
         obtain ⟨ad274, e274, hx274_0⟩ := Kd.at_int (Kd.R_reads' HO_9.out).2.2 x10_1 p274 q274
         obtain rfl : ad272 = ad274 := (by injection e274)
         replace p274 := eq_true p274; replace q274 := eq_true q274
         have p276 : 0 ≤ (x10_1 : Int) := of_decide_eq_true ax36
         have q276 : x10_1 < (t269.length : Int) := of_decide_eq_true ax36
         obtain ⟨ad276, e276, hx276_0⟩ := Kd.at_int (Kd.R_reads' HO_9.out).2.2 x10_1 p276 q276
         obtain rfl : ad272 = ad276 := (by injection e276)
         replace p276 := eq_true p276; replace q276 := eq_true q276
         refine start_ (n := 31) (S := fun w' => w'.cell? ⟨gb268, 0, none⟩ = some (.slice A0_0 l0_0.length c0_0) ∧ w'.cell? (ad272.add (x10_1).toNat) = some (.int .i64 (rd t269 x10_1)) ∧ w'.cell? (ad272.add (x10_1).toNat) = some (.int .i64 (rd t269 x10_1)) ∧ w'.cell? (ad272.add (x10_1).toNat) = some (.int .i64 (rd t269 x10_1))) (ds := []) (ob 31 0) (by kernel_rfl) rfl rfl ⟨(blk_cell BK268.out 0).trans rfl, hx272_0, hx274_0, hx276_0⟩ (fun hHeld => ?_); refine with_tabW spec_l11Wins.tab5 spec_l11Wins.bits5 (fun HT_ HW_ => ?_)
         generalize wr.drew = w31 at HO_9 BK268 HB hx272_0 hx274_0 hx276_0 hHeld ⊢
         refine pure_ (i := 1) (N := some 21) (v := ?_) (a' := ?_) (ob 31 2) rfl rfl (any_of HT_.out (by kernel_rfl)) (fun _ _ _ h => h) (Or.inl ⟨by rfl, ?_⟩) ?_ ?_; rotate_left; exact ax3; rotate_left; exact ax4
         refine pure_ (i := 2) (N := some 22) (v := ?_) (a' := ?_) (ob 31 6) rfl rfl (any_of HT_.out (by kernel_rfl)) (fun _ _ _ h => h) (Or.inl ⟨by rfl, ?_⟩) ?_ ?_; rotate_left; exact ax3; rotate_left; exact ax4
         refine pure_ (i := 3) (N := some 23) (v := ?_) (a' := ?_) (ob 31 14) rfl rfl (any_of HT_.out (by kernel_rfl)) (fun _ _ _ h => h) (Or.inl ⟨by rfl, ?_⟩) ?_ ?_; rotate_left; exact ax3; rotate_left; exact ax4
         refine pure_ (i := 5) (N := some 25) (v := ?_) (a' := ?_) (ob 31 46) rfl rfl (any_of HT_.out (by kernel_rfl)) (fun _ _ _ h => h) (Or.inl ⟨by rfl, ?_⟩) ?_ ?_; rotate_left; exact ax3; rotate_left; exact ax4
         refine take_ (i := 0) (N := some 20) (v := ?_) (a' := ?_) (ob 31 47) rfl rfl (take_ofW HT_.out HW_.out (by kernel_rfl)) (fun _ _ _ h => h) (Or.inl ⟨by rfl, ?_⟩) hHeld ?_ ?_; rotate_left; exact ax18; rotate_left; exact ax4
         refine take_ (i := 4) (N := some 24) (v := ?_) (a' := ?_) (ob 31 63) rfl rfl (take_ofW HT_.out HW_.out (by kernel_rfl)) (fun _ _ _ h => h) (Or.inl ⟨by rfl, ?_⟩) hHeld ?_ ?_; rotate_left; exact ax18; rotate_left; exact ax4
         refine one_ (i := 6) (N := some 26) (ob 31 127) rfl rfl (one_of HT_.out (by kernel_rfl)) (by decide) (fun K hK => ?_)
         refine goes_ Try.func57 (by kernel_rfl) rfl #[.agg #[.slice A0_0 l0_0.length c0_0], .int .i64 (rd t269 x10_1), .int .i64 a2] (by rfl) rfl rfl ax25 ?_
         with_reducible refine (spec_l11Fatal.calls k1 _ _ l0_0 (rd t269 x10_1) a2 true _ ?side1 ?side2 A11.out).mono ?_
         (case side1 => exact ax26)
         (case side2 => exact ax27)
         rintro e w32 ⟨rfl, hb⟩
         have HS1_ := (hb.cell (World.block_lt_of_cell? _ _ (hHeld.2.1))).trans (hHeld.2.1); have HS2_ := (hb.cell (World.block_lt_of_cell? _ _ (hHeld.2.2.1))).trans (hHeld.2.2.1); have HS3_ := (hb.cell (World.block_lt_of_cell? _ _ (hHeld.2.2.2))).trans (hHeld.2.2.2)
         refine ⟨_, rfl, ?_⟩
         have n0_ := Aside0.mk (Kd.R_below ax146 hb)
         have n1_ := Aside0.mk (blk_below (g := gb268) (o := .cells #[.slice A0_0 l0_0.length c0_0] 30 (0, 0)) ax145 hb)
         have n2_ := Aside0.mk (below_step ax144 hb); clear HO_9; clear BK268; clear HB; have HO_9 := n0_; have BK268 := n1_; have HB := n2_; clear n0_ n1_ n2_; (try clear hb); (try clear hb2); (try clear hk); (try clear hi)
         refine hK.out _ _ ⟨(blk_cell BK268.out 0).trans rfl, HS1_, HS2_, HS3_⟩ (fun hHeld => ?_)
         clear hK K
         refine norm_ (a' := ?_) ?_ ?_
         rotate_left
         ·exact ax15
         refine pure_ (i := 7) (N := some 27) (v := ?_) (a' := ?_) (ob 31 255) rfl rfl (any_of HT_.out (by kernel_rfl)) (fun _ _ _ h => h) (Or.inl ⟨by rfl, ?_⟩) ?_ ?_; rotate_left; exact ax3; rotate_left; exact ax4
         refine pure_ (i := 8) (N := some 28) (v := ?_) (a' := ?_) (ob 31 511) rfl rfl (any_of HT_.out (by kernel_rfl)) (fun _ _ _ h => h) (Or.inl ⟨by rfl, ?_⟩) ?_ ?_; rotate_left; exact ax3; rotate_left; exact ax4
         refine pure_ (i := 9) (N := some 29) (v := ?_) (a' := ?_) (ob 31 1023) rfl rfl (any_of HT_.out (by kernel_rfl)) (fun _ _ _ h => h) (Or.inl ⟨by rfl, ?_⟩) ?_ ?_; rotate_left; exact ax3; rotate_left; exact ax4
         refine pure_ (i := 10) (N := some 30) (v := ?_) (a' := ?_) (ob 31 2047) rfl rfl (any_of HT_.out (by kernel_rfl)) (fun _ _ _ h => h) (Or.inl ⟨by rfl, ?_⟩) ?_ ?_; rotate_left; exact ax3; rotate_left; exact ax4
         refine pure_ (i := 12) (N := some 32) (v := ?_) (a' := ?_) (ob 31 6143) rfl rfl (any_of HT_.out (by kernel_rfl)) (fun _ _ _ h => h) (Or.inl ⟨by rfl, ?_⟩) ?_ ?_; rotate_left; exact ax3; rotate_left; exact ax4
         refine pure_ (i := 13) (N := some 33) (v := ?_) (a' := ?_) (ob 31 14335) rfl rfl (any_of HT_.out (by kernel_rfl)) (fun _ _ _ h => h) (Or.inl ⟨by rfl, ?_⟩) ?_ ?_; rotate_left; exact ax3; rotate_left; exact ax4
         refine pure_ (i := 14) (N := some 34) (v := ?_) (a' := ?_) (ob 31 30719) rfl rfl (any_of HT_.out (by kernel_rfl)) (fun _ _ _ h => h) (Or.inl ⟨by rfl, ?_⟩) ?_ ?_; rotate_left; exact ax3; rotate_left; exact ax4
         refine pure_ (i := 16) (N := some 36) (v := ?_) (a' := ?_) (ob 31 96255) rfl rfl (any_of HT_.out (by kernel_rfl)) (fun _ _ _ h => h) (Or.inl ⟨by rfl, ?_⟩) ?_ ?_; rotate_left; exact ax3; rotate_left; exact ax4
         refine take_ (i := 11) (N := some 31) (v := ?_) (a' := ?_) (ob 31 98303) rfl rfl (take_ofW HT_.out HW_.out (by kernel_rfl)) (fun _ _ _ h => h) (Or.inl ⟨by rfl, ?_⟩) hHeld ?_ ?_; rotate_left; exact ax18; rotate_left; exact ax4
         refine take_ (i := 15) (N := some 35) (v := ?_) (a' := ?_) (ob 31 131071) rfl rfl (take_ofW HT_.out HW_.out (by kernel_rfl)) (fun _ _ _ h => h) (Or.inl ⟨by rfl, ?_⟩) hHeld ?_ ?_; rotate_left; exact ax18; rotate_left; exact ax4
         refine one_ (i := 17) (N := some 37) (ob 31 262143) rfl rfl (one_of HT_.out (by kernel_rfl)) (by decide) (fun K hK => ?_)
         refine goes_ Try.func57 (by kernel_rfl) rfl #[.agg #[.slice A0_0 l0_0.length c0_0], .int .i64 (rd t269 x10_1), .int .i64 a2] (by rfl) rfl rfl ax25 ?_
         with_reducible refine (spec_l11Fatal.calls k1 _ _ l0_0 (rd t269 x10_1) a2 false _ ?side1 ?side2 A17.out).mono ?_
         (case side1 => exact ax26)
         (case side2 => exact ax27)
         rintro e w33 ⟨rfl, hb⟩
         have HS1_ := (hb.cell (World.block_lt_of_cell? _ _ (hHeld.2.1))).trans (hHeld.2.1); have HS2_ := (hb.cell (World.block_lt_of_cell? _ _ (hHeld.2.2.1))).trans (hHeld.2.2.1); have HS3_ := (hb.cell (World.block_lt_of_cell? _ _ (hHeld.2.2.2))).trans (hHeld.2.2.2)
         refine ⟨_, rfl, ?_⟩
         have n0_ := Aside0.mk (Kd.R_below ax146 hb)
         have n1_ := Aside0.mk (blk_below (g := gb268) (o := .cells #[.slice A0_0 l0_0.length c0_0] 30 (0, 0)) ax145 hb)
         have n2_ := Aside0.mk (below_step ax144 hb); clear HO_9; clear BK268; clear HB; have HO_9 := n0_; have BK268 := n1_; have HB := n2_; clear n0_ n1_ n2_; (try clear hb); (try clear hb2); (try clear hk); (try clear hi)
         refine hK.out _ _ ⟨(blk_cell BK268.out 0).trans rfl, HS1_, HS2_, HS3_⟩ (fun hHeld => ?_)
         clear hK K
         refine norm_ (a' := ?_) ?_ ?_
         rotate_left
         ·exact ax17
         refine pure_ (i := 18) (N := some 38) (v := ?_) (a' := ?_) (ob 31 524287) rfl rfl (any_of HT_.out (by kernel_rfl)) (fun _ _ _ h => h) (Or.inl ⟨by rfl, ?_⟩) ?_ ?_; rotate_left; exact ax3; rotate_left; exact ax4
         refine pure_ (i := 19) (N := some 39) (v := ?_) (a' := ?_) (ob 31 1048575) rfl rfl (any_of HT_.out (by kernel_rfl)) (fun _ _ _ h => h) (Or.inl ⟨by rfl, ?_⟩) ?_ ?_; rotate_left; exact ax3; rotate_left; exact ax4
         refine pure_ (i := 21) (N := some 41) (v := ?_) (a' := ?_) (ob 31 3145727) rfl rfl (any_of HT_.out (by kernel_rfl)) (fun _ _ _ h => h) (Or.inl ⟨by rfl, ?_⟩) ?_ ?_; rotate_left; exact ax3; rotate_left; exact ax4
         refine pure_ (i := 22) (N := some 42) (v := ?_) (a' := ?_) (ob 31 7340031) rfl rfl (any_of HT_.out (by kernel_rfl)) (fun _ _ _ h => h) (Or.inl ⟨by rfl, ?_⟩) ?_ ?_; rotate_left; exact ax3; rotate_left; exact ax4
         refine pure_ (i := 23) (N := some 43) (v := ?_) (a' := ?_) (ob 31 15728639) rfl rfl (any_of HT_.out (by kernel_rfl)) (fun _ _ _ h => h) (Or.inl ⟨by rfl, ?_⟩) ?_ ?_; rotate_left; exact ax3; rotate_left; exact ax4
         refine pure_ (i := 25) (N := some 45) (v := ?_) (a' := ?_) (ob 31 49283071) rfl rfl (any_of HT_.out (by kernel_rfl)) (fun _ _ _ h => h) (Or.inl ⟨by rfl, ?_⟩) ?_ ?_; rotate_left; exact ax3; rotate_left; exact ax4
         refine pure_ (i := 26) (N := some 46) (v := ?_) (a' := ?_) (ob 31 116391935) rfl rfl (any_of HT_.out (by kernel_rfl)) (fun _ _ _ h => h) (Or.inl ⟨by rfl, ?_⟩) ?_ ?_; rotate_left; exact ax3; rotate_left; exact ax4
         refine take_ (i := 20) (N := some 40) (v := ?_) (a' := ?_) (ob 31 117440511) rfl rfl (take_ofW HT_.out HW_.out (by kernel_rfl)) (fun _ _ _ h => h) (Or.inl ⟨by rfl, ?_⟩) hHeld ?_ ?_; rotate_left; exact ax18; rotate_left; exact ax4
         refine take_ (i := 24) (N := some 44) (v := ?_) (a' := ?_) (ob 31 134217727) rfl rfl (take_ofW HT_.out HW_.out (by kernel_rfl)) (fun _ _ _ h => h) (Or.inl ⟨by rfl, ?_⟩) hHeld ?_ ?_; rotate_left; exact ax18; rotate_left; exact ax4
         refine one_ (i := 27) (N := some 47) (ob 31 268435455) rfl rfl (one_of HT_.out (by kernel_rfl)) (by decide) (fun K hK => ?_)
         refine goes_ Try.func50 (by kernel_rfl) rfl #[.agg #[.slice A0_0 l0_0.length c0_0], .int .i64 (rd t269 x10_1), .int .i64 a2, .bool false] (by rfl) rfl rfl ax25 ?_
         with_reducible refine (ih k1 ax147 _ _ l0_0 (rd t269 x10_1) a2 false false _ ?side1 ?side2 A23.out).mono ?_
         (case side1 => exact ax26)
         (case side2 => exact ax27)
         rintro e w34 ⟨rfl, hb⟩
         have HS1_ := (hb.cell (World.block_lt_of_cell? _ _ (hHeld.2.1))).trans (hHeld.2.1); have HS2_ := (hb.cell (World.block_lt_of_cell? _ _ (hHeld.2.2.1))).trans (hHeld.2.2.1); have HS3_ := (hb.cell (World.block_lt_of_cell? _ _ (hHeld.2.2.2))).trans (hHeld.2.2.2)
         refine ⟨_, rfl, ?_⟩
         have n0_ := Aside0.mk (Kd.R_below ax146 hb)
         have n1_ := Aside0.mk (blk_below (g := gb268) (o := .cells #[.slice A0_0 l0_0.length c0_0] 30 (0, 0)) ax145 hb)
         have n2_ := Aside0.mk (below_step ax144 hb); clear HO_9; clear BK268; clear HB; have HO_9 := n0_; have BK268 := n1_; have HB := n2_; clear n0_ n1_ n2_; (try clear hb); (try clear hb2); (try clear hk); (try clear hi)
         refine hK.out _ _ ⟨(blk_cell BK268.out 0).trans rfl, HS1_, HS2_, HS3_⟩ (fun hHeld => ?_)
         clear hK K
         refine norm_ (a' := ?_) ?_ ?_
         rotate_left
         ·exact ax19
         refine pure_ (i := 28) (N := some 48) (v := ?_) (a' := ?_) (ob 31 536870911) rfl rfl (any_of HT_.out (by kernel_rfl)) (fun _ _ _ h => h) (Or.inl ⟨by rfl, ?_⟩) ?_ ?_; rotate_left; exact ax3; rotate_left; exact ax4
         refine pure_ (i := 29) (N := some 49) (v := ?_) (a' := ?_) (ob 31 1073741823) rfl rfl (any_of HT_.out (by kernel_rfl)) (fun _ _ _ h => h) (Or.inl ⟨by rfl, ?_⟩) ?_ ?_; rotate_left; exact ax3; rotate_left; exact ax4
         refine pure_ (i := 30) (N := some 50) (v := ?_) (a' := ?_) (ob 31 2147483647) rfl rfl (any_of HT_.out (by kernel_rfl)) (fun _ _ _ h => h) (Or.inl ⟨by rfl, ?_⟩) ?_ ?_; rotate_left; exact ax3; rotate_left; exact ax4
         refine done_ (done_of HT_.out (by kernel_rfl)) ?_
         try go_wp2
         go_ret
         exact ⟨by first | rfl | (simp [errW_none, errW_some] <;> rfl) | (simp [*, errW_none, errW_some] <;> rfl), by repeat (first | (with_reducible first | exact HB.out | apply below_alloc | apply pw_below_drewN | apply below_drew1 | refine below_set ?_ GE268.out) | exact HB.out)⟩
     ·replace c12 := Bool.eq_false_iff.mpr c12
      subst c12
      have H1 : ((spec_l11Fatal.f k1 l0_0 (rd t269 x10_1) a2).bind fun t279 => (if t279 = true then (spec_l11Wins.l0 k1 a2 a3 t269 (wrap64 (x10_1 + 1)) l0_0) else ((spec_l11Wins.f k1 l0_0 (rd t269 x10_1) a2 a3).bind fun t281 => (if t281 = true then (spec_l11Wins.l0 k1 a2 a3 t269 (wrap64 (x10_1 + 1)) l0_0) else (some true))))) = some r := by rw [if_neg (show ¬ (false = true) by decide)] at H; exact H
      clear H; have H := H1; clear H1; replace H := Option.bind_eq_some_iff.mp H
      obtain ⟨t279, A350, H⟩ := H
      replace H : (if t279 = true then (spec_l11Wins.l0 k1 a2 a3 t269 (wrap64 (x10_1 + 1)) l0_0) else ((spec_l11Wins.f k1 l0_0 (rd t269 x10_1) a2 a3).bind fun t281 => (if t281 = true then (spec_l11Wins.l0 k1 a2 a3 t269 (wrap64 (x10_1 + 1)) l0_0) else (some true)))) = some r := H
      have A35 := Aside0.mk A350; clear A350
      by_cases c36 : t279 = true
      ·subst c36
       have H1 : (spec_l11Wins.l0 k1 a2 a3 t269 (wrap64 (x10_1 + 1)) l0_0) = some r := by rw [if_pos rfl] at H; exact H
       clear H; have H := H1; clear H1
       have H' := Aside0.mk H
       clear H
       obtain ⟨Ao37, co37, eo37⟩ := Kd.R_slice HO_9.out
       subst eo37
       try go_wp2
       have n0_ := Aside0.mk (Kd.R_drew HO_9.out); have n1_ := Aside0.mk (blk_drew BK268.out); have n2_ := Aside0.mk (below_drew1 HB.out); clear HO_9; clear BK268; clear HB; have HO_9 := n0_; have BK268 := n1_; have HB := n2_; clear n0_ n1_ n2_
       have p272 : 0 ≤ (x10_1 : Int) := of_decide_eq_true ax36
       have q272 : x10_1 < (t269.length : Int) := of_decide_eq_true ax36
       obtain ⟨ad272, e272, hx272_0⟩ := Kd.at_int (Kd.R_reads' HO_9.out).2.2 x10_1 p272 q272
       cases e272; replace p272 := eq_true p272; replace q272 := eq_true q272
       have p278 : 0 ≤ (x10_1 : Int) := of_decide_eq_true ax36
       have q278 : x10_1 < (t269.length : Int) := of_decide_eq_true ax36
       obtain ⟨ad278, e278, hx278_0⟩ := Kd.at_int (Kd.R_reads' HO_9.out).2.2 x10_1 p278 q278
       obtain rfl : ad272 = ad278 := (by injection e278)
       replace p278 := eq_true p278; replace q278 := eq_true q278
       refine start_ (n := 31) (S := fun w' => w'.cell? ⟨gb268, 0, none⟩ = some (.slice A0_0 l0_0.length c0_0) ∧ w'.cell? (ad272.add (x10_1).toNat) = some (.int .i64 (rd t269 x10_1)) ∧ w'.cell? (ad272.add (x10_1).toNat) = some (.int .i64 (rd t269 x10_1))) (ds := []) (ob 31 0) (by kernel_rfl) rfl rfl ⟨(blk_cell BK268.out 0).trans rfl, hx272_0, hx278_0⟩ (fun hHeld => ?_); refine with_tabW spec_l11Wins.tab5 spec_l11Wins.bits5 (fun HT_ HW_ => ?_)
       generalize wr.drew = w38 at HO_9 BK268 HB hx272_0 hx278_0 hHeld ⊢
       refine pure_ (i := 1) (N := some 21) (v := ?_) (a' := ?_) (ob 31 2) rfl rfl (any_of HT_.out (by kernel_rfl)) (fun _ _ _ h => h) (Or.inl ⟨by rfl, ?_⟩) ?_ ?_; rotate_left; exact ax3; rotate_left; exact ax4
       refine pure_ (i := 2) (N := some 22) (v := ?_) (a' := ?_) (ob 31 6) rfl rfl (any_of HT_.out (by kernel_rfl)) (fun _ _ _ h => h) (Or.inl ⟨by rfl, ?_⟩) ?_ ?_; rotate_left; exact ax3; rotate_left; exact ax4
       refine pure_ (i := 3) (N := some 23) (v := ?_) (a' := ?_) (ob 31 14) rfl rfl (any_of HT_.out (by kernel_rfl)) (fun _ _ _ h => h) (Or.inl ⟨by rfl, ?_⟩) ?_ ?_; rotate_left; exact ax3; rotate_left; exact ax4
       refine pure_ (i := 5) (N := some 25) (v := ?_) (a' := ?_) (ob 31 46) rfl rfl (any_of HT_.out (by kernel_rfl)) (fun _ _ _ h => h) (Or.inl ⟨by rfl, ?_⟩) ?_ ?_; rotate_left; exact ax3; rotate_left; exact ax4
       refine take_ (i := 0) (N := some 20) (v := ?_) (a' := ?_) (ob 31 47) rfl rfl (take_ofW HT_.out HW_.out (by kernel_rfl)) (fun _ _ _ h => h) (Or.inl ⟨by rfl, ?_⟩) hHeld ?_ ?_; rotate_left; exact ax16; rotate_left; exact ax4
       refine take_ (i := 4) (N := some 24) (v := ?_) (a' := ?_) (ob 31 63) rfl rfl (take_ofW HT_.out HW_.out (by kernel_rfl)) (fun _ _ _ h => h) (Or.inl ⟨by rfl, ?_⟩) hHeld ?_ ?_; rotate_left; exact ax16; rotate_left; exact ax4
       refine one_ (i := 6) (N := some 26) (ob 31 127) rfl rfl (one_of HT_.out (by kernel_rfl)) (by decide) (fun K hK => ?_)
       refine goes_ Try.func57 (by kernel_rfl) rfl #[.agg #[.slice A0_0 l0_0.length c0_0], .int .i64 (rd t269 x10_1), .int .i64 a2] (by rfl) rfl rfl ax25 ?_
       with_reducible refine (spec_l11Fatal.calls k1 _ _ l0_0 (rd t269 x10_1) a2 false _ ?side1 ?side2 A11.out).mono ?_
       (case side1 => exact ax26)
       (case side2 => exact ax27)
       rintro e w39 ⟨rfl, hb⟩
       have HS1_ := (hb.cell (World.block_lt_of_cell? _ _ (hHeld.2.1))).trans (hHeld.2.1); have HS2_ := (hb.cell (World.block_lt_of_cell? _ _ (hHeld.2.2))).trans (hHeld.2.2)
       refine ⟨_, rfl, ?_⟩
       have n0_ := Aside0.mk (Kd.R_below ax146 hb)
       have n1_ := Aside0.mk (blk_below (g := gb268) (o := .cells #[.slice A0_0 l0_0.length c0_0] 30 (0, 0)) ax145 hb)
       have n2_ := Aside0.mk (below_step ax144 hb); clear HO_9; clear BK268; clear HB; have HO_9 := n0_; have BK268 := n1_; have HB := n2_; clear n0_ n1_ n2_; (try clear hb); (try clear hb2); (try clear hk); (try clear hi)
       refine hK.out _ _ ⟨(blk_cell BK268.out 0).trans rfl, HS1_, HS2_⟩ (fun hHeld => ?_)
       clear hK K
       refine norm_ (a' := ?_) ?_ ?_
       rotate_left
       ·exact ax15
       refine pure_ (i := 7) (N := some 27) (v := ?_) (a' := ?_) (ob 31 255) rfl rfl (any_of HT_.out (by kernel_rfl)) (fun _ _ _ h => h) (Or.inl ⟨by rfl, ?_⟩) ?_ ?_; rotate_left; exact ax3; rotate_left; exact ax4
       refine pure_ (i := 8) (N := some 28) (v := undef) (a' := ?_) (ob 31 511) rfl rfl (any_of HT_.out (by kernel_rfl)) (fun _ _ _ h => h) (Or.inr ⟨by rfl, rfl⟩) ?_ ?_
       rotate_left
       ·exact ax4
       refine pure_ (i := 9) (N := some 29) (v := ?_) (a' := ?_) (ob 31 1023) rfl rfl (any_of HT_.out (by kernel_rfl)) (fun _ _ _ h => h) (Or.inl ⟨by rfl, ?_⟩) ?_ ?_; rotate_left; exact ax3; rotate_left; exact ax4
       refine pure_ (i := 10) (N := some 30) (v := ?_) (a' := ?_) (ob 31 2047) rfl rfl (any_of HT_.out (by kernel_rfl)) (fun _ _ _ h => h) (Or.inl ⟨by rfl, ?_⟩) ?_ ?_; rotate_left; exact ax3; rotate_left; exact ax4
       refine pure_ (i := 12) (N := some 32) (v := ?_) (a' := ?_) (ob 31 6143) rfl rfl (any_of HT_.out (by kernel_rfl)) (fun _ _ _ h => h) (Or.inl ⟨by rfl, ?_⟩) ?_ ?_; rotate_left; exact ax3; rotate_left; exact ax4
       refine pure_ (i := 13) (N := some 33) (v := ?_) (a' := ?_) (ob 31 14335) rfl rfl (any_of HT_.out (by kernel_rfl)) (fun _ _ _ h => h) (Or.inl ⟨by rfl, ?_⟩) ?_ ?_; rotate_left; exact ax3; rotate_left; exact ax4
       refine pure_ (i := 14) (N := some 34) (v := ?_) (a' := ?_) (ob 31 30719) rfl rfl (any_of HT_.out (by kernel_rfl)) (fun _ _ _ h => h) (Or.inl ⟨by rfl, ?_⟩) ?_ ?_; rotate_left; exact ax3; rotate_left; exact ax4
       refine pure_ (i := 16) (N := some 36) (v := ?_) (a' := ?_) (ob 31 96255) rfl rfl (any_of HT_.out (by kernel_rfl)) (fun _ _ _ h => h) (Or.inl ⟨by rfl, ?_⟩) ?_ ?_; rotate_left; exact ax3; rotate_left; exact ax4
       refine take_ (i := 11) (N := some 31) (v := ?_) (a' := ?_) (ob 31 98303) rfl rfl (take_ofW HT_.out HW_.out (by kernel_rfl)) (fun _ _ _ h => h) (Or.inl ⟨by rfl, ?_⟩) hHeld ?_ ?_; rotate_left; exact ax16; rotate_left; exact ax4
       refine take_ (i := 15) (N := some 35) (v := ?_) (a' := ?_) (ob 31 131071) rfl rfl (take_ofW HT_.out HW_.out (by kernel_rfl)) (fun _ _ _ h => h) (Or.inl ⟨by rfl, ?_⟩) hHeld ?_ ?_; rotate_left; exact ax16; rotate_left; exact ax4
       refine one_ (i := 17) (N := some 37) (ob 31 262143) rfl rfl (one_of HT_.out (by kernel_rfl)) (by decide) (fun K hK => ?_)
       refine goes_ Try.func57 (by kernel_rfl) rfl #[.agg #[.slice A0_0 l0_0.length c0_0], .int .i64 (rd t269 x10_1), .int .i64 a2] (by rfl) rfl rfl ax25 ?_
       with_reducible refine (spec_l11Fatal.calls k1 _ _ l0_0 (rd t269 x10_1) a2 true _ ?side1 ?side2 A35.out).mono ?_
       (case side1 => exact ax26)
       (case side2 => exact ax27)
       rintro e w40 ⟨rfl, hb⟩
       have HS1_ := (hb.cell (World.block_lt_of_cell? _ _ (hHeld.2.1))).trans (hHeld.2.1); have HS2_ := (hb.cell (World.block_lt_of_cell? _ _ (hHeld.2.2))).trans (hHeld.2.2)
       refine ⟨_, rfl, ?_⟩
       have n0_ := Aside0.mk (Kd.R_below ax146 hb)
       have n1_ := Aside0.mk (blk_below (g := gb268) (o := .cells #[.slice A0_0 l0_0.length c0_0] 30 (0, 0)) ax145 hb)
       have n2_ := Aside0.mk (below_step ax144 hb); clear HO_9; clear BK268; clear HB; have HO_9 := n0_; have BK268 := n1_; have HB := n2_; clear n0_ n1_ n2_; (try clear hb); (try clear hb2); (try clear hk); (try clear hi)
       refine hK.out _ _ ⟨(blk_cell BK268.out 0).trans rfl, HS1_, HS2_⟩ (fun hHeld => ?_)
       clear hK K
       refine norm_ (a' := ?_) ?_ ?_
       rotate_left
       ·exact ax17
       refine pure_ (i := 18) (N := some 38) (v := ?_) (a' := ?_) (ob 31 524287) rfl rfl (any_of HT_.out (by kernel_rfl)) (fun _ _ _ h => h) (Or.inl ⟨by rfl, ?_⟩) ?_ ?_; rotate_left; exact ax3; rotate_left; exact ax4
       refine pure_ (i := 19) (N := some 39) (v := ?_) (a' := ?_) (ob 31 1048575) rfl rfl (any_of HT_.out (by kernel_rfl)) (fun _ _ _ h => h) (Or.inl ⟨by rfl, ?_⟩) ?_ ?_; rotate_left; exact ax3; rotate_left; exact ax4
       refine pure_ (i := 20) (N := some 40) (v := undef) (a' := ?_) (ob 31 2097151) rfl rfl (any_of HT_.out (by kernel_rfl)) (fun _ _ _ h => h) (Or.inr ⟨by rfl, rfl⟩) ?_ ?_
       rotate_left
       ·exact ax4
       refine pure_ (i := 21) (N := some 41) (v := undef) (a' := ?_) (ob 31 4194303) rfl rfl (any_of HT_.out (by kernel_rfl)) (fun _ _ _ h => h) (Or.inr ⟨by rfl, rfl⟩) ?_ ?_
       rotate_left
       ·exact ax4
       refine pure_ (i := 22) (N := some 42) (v := undef) (a' := ?_) (ob 31 8388607) rfl rfl (any_of HT_.out (by kernel_rfl)) (fun _ _ _ h => h) (Or.inr ⟨by rfl, rfl⟩) ?_ ?_
       rotate_left
       ·exact ax4
       refine pure_ (i := 23) (N := some 43) (v := undef) (a' := ?_) (ob 31 16777215) rfl rfl (any_of HT_.out (by kernel_rfl)) (fun _ _ _ h => h) (Or.inr ⟨by rfl, rfl⟩) ?_ ?_
       rotate_left
       ·exact ax4
       refine pure_ (i := 24) (N := some 44) (v := undef) (a' := ?_) (ob 31 33554431) rfl rfl (any_of HT_.out (by kernel_rfl)) (fun _ _ _ h => h) (Or.inr ⟨by rfl, rfl⟩) ?_ ?_
       rotate_left
       ·exact ax4
       refine pure_ (i := 25) (N := some 45) (v := undef) (a' := ?_) (ob 31 67108863) rfl rfl (any_of HT_.out (by kernel_rfl)) (fun _ _ _ h => h) (Or.inr ⟨by rfl, rfl⟩) ?_ ?_
       rotate_left
       ·exact ax4
       refine pure_ (i := 26) (N := some 46) (v := undef) (a' := ?_) (ob 31 134217727) rfl rfl (any_of HT_.out (by kernel_rfl)) (fun _ _ _ h => h) (Or.inr ⟨by rfl, rfl⟩) ?_ ?_
       rotate_left
       ·exact ax4
       refine pure_ (i := 27) (N := some 47) (v := undef) (a' := ?_) (ob 31 268435455) rfl rfl (any_of HT_.out (by kernel_rfl)) (fun _ _ _ h => h) (Or.inr ⟨by rfl, rfl⟩) ?_ ?_
       rotate_left
       ·exact ax4
       refine pure_ (i := 28) (N := some 48) (v := undef) (a' := ?_) (ob 31 536870911) rfl rfl (any_of HT_.out (by kernel_rfl)) (fun _ _ _ h => h) (Or.inr ⟨by rfl, rfl⟩) ?_ ?_
       rotate_left
       ·exact ax4
       refine pure_ (i := 29) (N := some 49) (v := ?_) (a' := ?_) (ob 31 1073741823) rfl rfl (any_of HT_.out (by kernel_rfl)) (fun _ _ _ h => h) (Or.inl ⟨by rfl, ?_⟩) ?_ ?_; rotate_left; exact ax3; rotate_left; exact ax4
       refine pure_ (i := 30) (N := some 50) (v := ?_) (a' := ?_) (ob 31 2147483647) rfl rfl (any_of HT_.out (by kernel_rfl)) (fun _ _ _ h => h) (Or.inl ⟨by rfl, ?_⟩) ?_ ?_; rotate_left; exact ax3; rotate_left; exact ax4
       refine done_ (done_of HT_.out (by kernel_rfl)) ?_
       try go_wp2
       go_roundg k1
       case measure => have := HK1.out; omega
       case rel => exact ⟨(wrap64 (x10_1 + 1)), ax37, H', ⟨by have := HK1.out; omega⟩, ⟨by (with_reducible repeat (first | apply Kd.R_alloc | apply Kd.R_drewN | apply Kd.R_drew)); exact HO_9.out⟩, ⟨by (with_reducible repeat (first | refine blk_drewN ?_ _ | refine blk_drew ?_ | refine blk_alloc ?_ _)); exact BK268.out⟩, ⟨by repeat (first | (with_reducible first | exact HB.out | apply below_alloc | apply pw_below_drewN | apply below_drew1 | refine below_set ?_ GE268.out) | exact HB.out)⟩⟩
      ·replace c36 := Bool.eq_false_iff.mpr c36
       subst c36
       have H1 : ((spec_l11Wins.f k1 l0_0 (rd t269 x10_1) a2 a3).bind fun t281 => (if t281 = true then (spec_l11Wins.l0 k1 a2 a3 t269 (wrap64 (x10_1 + 1)) l0_0) else (some true))) = some r := by rw [if_neg (show ¬ (false = true) by decide)] at H; exact H
       clear H; have H := H1; clear H1; replace H := Option.bind_eq_some_iff.mp H
       obtain ⟨t281, A410, H⟩ := H
       replace H : (if t281 = true then (spec_l11Wins.l0 k1 a2 a3 t269 (wrap64 (x10_1 + 1)) l0_0) else (some true)) = some r := H
       have A41 := Aside0.mk A410; clear A410
       by_cases c42 : t281 = true
       ·subst c42
        have H1 : (spec_l11Wins.l0 k1 a2 a3 t269 (wrap64 (x10_1 + 1)) l0_0) = some r := by rw [if_pos rfl] at H; exact H
        clear H; have H := H1; clear H1
        have H' := Aside0.mk H
        clear H
        obtain ⟨Ao43, co43, eo43⟩ := Kd.R_slice HO_9.out
        subst eo43
        try go_wp2
        have n0_ := Aside0.mk (Kd.R_drew HO_9.out); have n1_ := Aside0.mk (blk_drew BK268.out); have n2_ := Aside0.mk (below_drew1 HB.out); clear HO_9; clear BK268; clear HB; have HO_9 := n0_; have BK268 := n1_; have HB := n2_; clear n0_ n1_ n2_
        have p272 : 0 ≤ (x10_1 : Int) := of_decide_eq_true ax36
        have q272 : x10_1 < (t269.length : Int) := of_decide_eq_true ax36
        obtain ⟨ad272, e272, hx272_0⟩ := Kd.at_int (Kd.R_reads' HO_9.out).2.2 x10_1 p272 q272
        cases e272; replace p272 := eq_true p272; replace q272 := eq_true q272
        have p278 : 0 ≤ (x10_1 : Int) := of_decide_eq_true ax36
        have q278 : x10_1 < (t269.length : Int) := of_decide_eq_true ax36
        obtain ⟨ad278, e278, hx278_0⟩ := Kd.at_int (Kd.R_reads' HO_9.out).2.2 x10_1 p278 q278
        obtain rfl : ad272 = ad278 := (by injection e278)
        replace p278 := eq_true p278; replace q278 := eq_true q278
        have p280 : 0 ≤ (x10_1 : Int) := of_decide_eq_true ax36
        have q280 : x10_1 < (t269.length : Int) := of_decide_eq_true ax36
        obtain ⟨ad280, e280, hx280_0⟩ := Kd.at_int (Kd.R_reads' HO_9.out).2.2 x10_1 p280 q280
        obtain rfl : ad272 = ad280 := (by injection e280)
        replace p280 := eq_true p280; replace q280 := eq_true q280
        refine start_ (n := 31) (S := fun w' => w'.cell? ⟨gb268, 0, none⟩ = some (.slice A0_0 l0_0.length c0_0) ∧ w'.cell? (ad272.add (x10_1).toNat) = some (.int .i64 (rd t269 x10_1)) ∧ w'.cell? (ad272.add (x10_1).toNat) = some (.int .i64 (rd t269 x10_1)) ∧ w'.cell? (ad272.add (x10_1).toNat) = some (.int .i64 (rd t269 x10_1))) (ds := []) (ob 31 0) (by kernel_rfl) rfl rfl ⟨(blk_cell BK268.out 0).trans rfl, hx272_0, hx278_0, hx280_0⟩ (fun hHeld => ?_); refine with_tabW spec_l11Wins.tab5 spec_l11Wins.bits5 (fun HT_ HW_ => ?_)
        generalize wr.drew = w44 at HO_9 BK268 HB hx272_0 hx278_0 hx280_0 hHeld ⊢
        refine pure_ (i := 1) (N := some 21) (v := ?_) (a' := ?_) (ob 31 2) rfl rfl (any_of HT_.out (by kernel_rfl)) (fun _ _ _ h => h) (Or.inl ⟨by rfl, ?_⟩) ?_ ?_; rotate_left; exact ax3; rotate_left; exact ax4
        refine pure_ (i := 2) (N := some 22) (v := ?_) (a' := ?_) (ob 31 6) rfl rfl (any_of HT_.out (by kernel_rfl)) (fun _ _ _ h => h) (Or.inl ⟨by rfl, ?_⟩) ?_ ?_; rotate_left; exact ax3; rotate_left; exact ax4
        refine pure_ (i := 3) (N := some 23) (v := ?_) (a' := ?_) (ob 31 14) rfl rfl (any_of HT_.out (by kernel_rfl)) (fun _ _ _ h => h) (Or.inl ⟨by rfl, ?_⟩) ?_ ?_; rotate_left; exact ax3; rotate_left; exact ax4
        refine pure_ (i := 5) (N := some 25) (v := ?_) (a' := ?_) (ob 31 46) rfl rfl (any_of HT_.out (by kernel_rfl)) (fun _ _ _ h => h) (Or.inl ⟨by rfl, ?_⟩) ?_ ?_; rotate_left; exact ax3; rotate_left; exact ax4
        refine take_ (i := 0) (N := some 20) (v := ?_) (a' := ?_) (ob 31 47) rfl rfl (take_ofW HT_.out HW_.out (by kernel_rfl)) (fun _ _ _ h => h) (Or.inl ⟨by rfl, ?_⟩) hHeld ?_ ?_; rotate_left; exact ax18; rotate_left; exact ax4
        refine take_ (i := 4) (N := some 24) (v := ?_) (a' := ?_) (ob 31 63) rfl rfl (take_ofW HT_.out HW_.out (by kernel_rfl)) (fun _ _ _ h => h) (Or.inl ⟨by rfl, ?_⟩) hHeld ?_ ?_; rotate_left; exact ax18; rotate_left; exact ax4
        refine one_ (i := 6) (N := some 26) (ob 31 127) rfl rfl (one_of HT_.out (by kernel_rfl)) (by decide) (fun K hK => ?_)
        refine goes_ Try.func57 (by kernel_rfl) rfl #[.agg #[.slice A0_0 l0_0.length c0_0], .int .i64 (rd t269 x10_1), .int .i64 a2] (by rfl) rfl rfl ax25 ?_
        with_reducible refine (spec_l11Fatal.calls k1 _ _ l0_0 (rd t269 x10_1) a2 false _ ?side1 ?side2 A11.out).mono ?_
        (case side1 => exact ax26)
        (case side2 => exact ax27)
        rintro e w45 ⟨rfl, hb⟩
        have HS1_ := (hb.cell (World.block_lt_of_cell? _ _ (hHeld.2.1))).trans (hHeld.2.1); have HS2_ := (hb.cell (World.block_lt_of_cell? _ _ (hHeld.2.2.1))).trans (hHeld.2.2.1); have HS3_ := (hb.cell (World.block_lt_of_cell? _ _ (hHeld.2.2.2))).trans (hHeld.2.2.2)
        refine ⟨_, rfl, ?_⟩
        have n0_ := Aside0.mk (Kd.R_below ax146 hb)
        have n1_ := Aside0.mk (blk_below (g := gb268) (o := .cells #[.slice A0_0 l0_0.length c0_0] 30 (0, 0)) ax145 hb)
        have n2_ := Aside0.mk (below_step ax144 hb); clear HO_9; clear BK268; clear HB; have HO_9 := n0_; have BK268 := n1_; have HB := n2_; clear n0_ n1_ n2_; (try clear hb); (try clear hb2); (try clear hk); (try clear hi)
        refine hK.out _ _ ⟨(blk_cell BK268.out 0).trans rfl, HS1_, HS2_, HS3_⟩ (fun hHeld => ?_)
        clear hK K
        refine norm_ (a' := ?_) ?_ ?_
        rotate_left
        ·exact ax15
        refine pure_ (i := 7) (N := some 27) (v := ?_) (a' := ?_) (ob 31 255) rfl rfl (any_of HT_.out (by kernel_rfl)) (fun _ _ _ h => h) (Or.inl ⟨by rfl, ?_⟩) ?_ ?_; rotate_left; exact ax3; rotate_left; exact ax4
        refine pure_ (i := 8) (N := some 28) (v := undef) (a' := ?_) (ob 31 511) rfl rfl (any_of HT_.out (by kernel_rfl)) (fun _ _ _ h => h) (Or.inr ⟨by rfl, rfl⟩) ?_ ?_
        rotate_left
        ·exact ax4
        refine pure_ (i := 9) (N := some 29) (v := ?_) (a' := ?_) (ob 31 1023) rfl rfl (any_of HT_.out (by kernel_rfl)) (fun _ _ _ h => h) (Or.inl ⟨by rfl, ?_⟩) ?_ ?_; rotate_left; exact ax3; rotate_left; exact ax4
        refine pure_ (i := 10) (N := some 30) (v := ?_) (a' := ?_) (ob 31 2047) rfl rfl (any_of HT_.out (by kernel_rfl)) (fun _ _ _ h => h) (Or.inl ⟨by rfl, ?_⟩) ?_ ?_; rotate_left; exact ax3; rotate_left; exact ax4
        refine pure_ (i := 12) (N := some 32) (v := ?_) (a' := ?_) (ob 31 6143) rfl rfl (any_of HT_.out (by kernel_rfl)) (fun _ _ _ h => h) (Or.inl ⟨by rfl, ?_⟩) ?_ ?_; rotate_left; exact ax3; rotate_left; exact ax4
        refine pure_ (i := 13) (N := some 33) (v := ?_) (a' := ?_) (ob 31 14335) rfl rfl (any_of HT_.out (by kernel_rfl)) (fun _ _ _ h => h) (Or.inl ⟨by rfl, ?_⟩) ?_ ?_; rotate_left; exact ax3; rotate_left; exact ax4
        refine pure_ (i := 14) (N := some 34) (v := ?_) (a' := ?_) (ob 31 30719) rfl rfl (any_of HT_.out (by kernel_rfl)) (fun _ _ _ h => h) (Or.inl ⟨by rfl, ?_⟩) ?_ ?_; rotate_left; exact ax3; rotate_left; exact ax4
        refine pure_ (i := 16) (N := some 36) (v := ?_) (a' := ?_) (ob 31 96255) rfl rfl (any_of HT_.out (by kernel_rfl)) (fun _ _ _ h => h) (Or.inl ⟨by rfl, ?_⟩) ?_ ?_; rotate_left; exact ax3; rotate_left; exact ax4
        refine take_ (i := 11) (N := some 31) (v := ?_) (a' := ?_) (ob 31 98303) rfl rfl (take_ofW HT_.out HW_.out (by kernel_rfl)) (fun _ _ _ h => h) (Or.inl ⟨by rfl, ?_⟩) hHeld ?_ ?_; rotate_left; exact ax18; rotate_left; exact ax4
        refine take_ (i := 15) (N := some 35) (v := ?_) (a' := ?_) (ob 31 131071) rfl rfl (take_ofW HT_.out HW_.out (by kernel_rfl)) (fun _ _ _ h => h) (Or.inl ⟨by rfl, ?_⟩) hHeld ?_ ?_; rotate_left; exact ax18; rotate_left; exact ax4
        refine one_ (i := 17) (N := some 37) (ob 31 262143) rfl rfl (one_of HT_.out (by kernel_rfl)) (by decide) (fun K hK => ?_)
        refine goes_ Try.func57 (by kernel_rfl) rfl #[.agg #[.slice A0_0 l0_0.length c0_0], .int .i64 (rd t269 x10_1), .int .i64 a2] (by rfl) rfl rfl ax25 ?_
        with_reducible refine (spec_l11Fatal.calls k1 _ _ l0_0 (rd t269 x10_1) a2 false _ ?side1 ?side2 A35.out).mono ?_
        (case side1 => exact ax26)
        (case side2 => exact ax27)
        rintro e w46 ⟨rfl, hb⟩
        have HS1_ := (hb.cell (World.block_lt_of_cell? _ _ (hHeld.2.1))).trans (hHeld.2.1); have HS2_ := (hb.cell (World.block_lt_of_cell? _ _ (hHeld.2.2.1))).trans (hHeld.2.2.1); have HS3_ := (hb.cell (World.block_lt_of_cell? _ _ (hHeld.2.2.2))).trans (hHeld.2.2.2)
        refine ⟨_, rfl, ?_⟩
        have n0_ := Aside0.mk (Kd.R_below ax146 hb)
        have n1_ := Aside0.mk (blk_below (g := gb268) (o := .cells #[.slice A0_0 l0_0.length c0_0] 30 (0, 0)) ax145 hb)
        have n2_ := Aside0.mk (below_step ax144 hb); clear HO_9; clear BK268; clear HB; have HO_9 := n0_; have BK268 := n1_; have HB := n2_; clear n0_ n1_ n2_; (try clear hb); (try clear hb2); (try clear hk); (try clear hi)
        refine hK.out _ _ ⟨(blk_cell BK268.out 0).trans rfl, HS1_, HS2_, HS3_⟩ (fun hHeld => ?_)
        clear hK K
        refine norm_ (a' := ?_) ?_ ?_
        rotate_left
        ·exact ax17
        refine pure_ (i := 18) (N := some 38) (v := ?_) (a' := ?_) (ob 31 524287) rfl rfl (any_of HT_.out (by kernel_rfl)) (fun _ _ _ h => h) (Or.inl ⟨by rfl, ?_⟩) ?_ ?_; rotate_left; exact ax3; rotate_left; exact ax4
        refine pure_ (i := 19) (N := some 39) (v := ?_) (a' := ?_) (ob 31 1048575) rfl rfl (any_of HT_.out (by kernel_rfl)) (fun _ _ _ h => h) (Or.inl ⟨by rfl, ?_⟩) ?_ ?_; rotate_left; exact ax3; rotate_left; exact ax4
        refine pure_ (i := 21) (N := some 41) (v := ?_) (a' := ?_) (ob 31 3145727) rfl rfl (any_of HT_.out (by kernel_rfl)) (fun _ _ _ h => h) (Or.inl ⟨by rfl, ?_⟩) ?_ ?_; rotate_left; exact ax3; rotate_left; exact ax4
        refine pure_ (i := 22) (N := some 42) (v := ?_) (a' := ?_) (ob 31 7340031) rfl rfl (any_of HT_.out (by kernel_rfl)) (fun _ _ _ h => h) (Or.inl ⟨by rfl, ?_⟩) ?_ ?_; rotate_left; exact ax3; rotate_left; exact ax4
        refine pure_ (i := 23) (N := some 43) (v := ?_) (a' := ?_) (ob 31 15728639) rfl rfl (any_of HT_.out (by kernel_rfl)) (fun _ _ _ h => h) (Or.inl ⟨by rfl, ?_⟩) ?_ ?_; rotate_left; exact ax3; rotate_left; exact ax4
        refine pure_ (i := 25) (N := some 45) (v := ?_) (a' := ?_) (ob 31 49283071) rfl rfl (any_of HT_.out (by kernel_rfl)) (fun _ _ _ h => h) (Or.inl ⟨by rfl, ?_⟩) ?_ ?_; rotate_left; exact ax3; rotate_left; exact ax4
        refine pure_ (i := 26) (N := some 46) (v := ?_) (a' := ?_) (ob 31 116391935) rfl rfl (any_of HT_.out (by kernel_rfl)) (fun _ _ _ h => h) (Or.inl ⟨by rfl, ?_⟩) ?_ ?_; rotate_left; exact ax3; rotate_left; exact ax4
        refine take_ (i := 20) (N := some 40) (v := ?_) (a' := ?_) (ob 31 117440511) rfl rfl (take_ofW HT_.out HW_.out (by kernel_rfl)) (fun _ _ _ h => h) (Or.inl ⟨by rfl, ?_⟩) hHeld ?_ ?_; rotate_left; exact ax18; rotate_left; exact ax4
        refine take_ (i := 24) (N := some 44) (v := ?_) (a' := ?_) (ob 31 134217727) rfl rfl (take_ofW HT_.out HW_.out (by kernel_rfl)) (fun _ _ _ h => h) (Or.inl ⟨by rfl, ?_⟩) hHeld ?_ ?_; rotate_left; exact ax18; rotate_left; exact ax4
        refine one_ (i := 27) (N := some 47) (ob 31 268435455) rfl rfl (one_of HT_.out (by kernel_rfl)) (by decide) (fun K hK => ?_)
        refine goes_ Try.func50 (by kernel_rfl) rfl #[.agg #[.slice A0_0 l0_0.length c0_0], .int .i64 (rd t269 x10_1), .int .i64 a2, .bool a3] (by rfl) rfl rfl ax25 ?_
        with_reducible refine (ih k1 ax147 _ _ l0_0 (rd t269 x10_1) a2 a3 true _ ?side1 ?side2 A41.out).mono ?_
        (case side1 => exact ax26)
        (case side2 => exact ax27)
        rintro e w47 ⟨rfl, hb⟩
        have HS1_ := (hb.cell (World.block_lt_of_cell? _ _ (hHeld.2.1))).trans (hHeld.2.1); have HS2_ := (hb.cell (World.block_lt_of_cell? _ _ (hHeld.2.2.1))).trans (hHeld.2.2.1); have HS3_ := (hb.cell (World.block_lt_of_cell? _ _ (hHeld.2.2.2))).trans (hHeld.2.2.2)
        refine ⟨_, rfl, ?_⟩
        have n0_ := Aside0.mk (Kd.R_below ax146 hb)
        have n1_ := Aside0.mk (blk_below (g := gb268) (o := .cells #[.slice A0_0 l0_0.length c0_0] 30 (0, 0)) ax145 hb)
        have n2_ := Aside0.mk (below_step ax144 hb); clear HO_9; clear BK268; clear HB; have HO_9 := n0_; have BK268 := n1_; have HB := n2_; clear n0_ n1_ n2_; (try clear hb); (try clear hb2); (try clear hk); (try clear hi)
        refine hK.out _ _ ⟨(blk_cell BK268.out 0).trans rfl, HS1_, HS2_, HS3_⟩ (fun hHeld => ?_)
        clear hK K
        refine norm_ (a' := ?_) ?_ ?_
        rotate_left
        ·exact ax19
        refine pure_ (i := 28) (N := some 48) (v := ?_) (a' := ?_) (ob 31 536870911) rfl rfl (any_of HT_.out (by kernel_rfl)) (fun _ _ _ h => h) (Or.inl ⟨by rfl, ?_⟩) ?_ ?_; rotate_left; exact ax3; rotate_left; exact ax4
        refine pure_ (i := 29) (N := some 49) (v := ?_) (a' := ?_) (ob 31 1073741823) rfl rfl (any_of HT_.out (by kernel_rfl)) (fun _ _ _ h => h) (Or.inl ⟨by rfl, ?_⟩) ?_ ?_; rotate_left; exact ax3; rotate_left; exact ax4
        refine pure_ (i := 30) (N := some 50) (v := ?_) (a' := ?_) (ob 31 2147483647) rfl rfl (any_of HT_.out (by kernel_rfl)) (fun _ _ _ h => h) (Or.inl ⟨by rfl, ?_⟩) ?_ ?_; rotate_left; exact ax3; rotate_left; exact ax4
        refine done_ (done_of HT_.out (by kernel_rfl)) ?_
        try go_wp2
        go_roundg k1
        case measure => have := HK1.out; omega
        case rel => exact ⟨(wrap64 (x10_1 + 1)), ax37, H', ⟨by have := HK1.out; omega⟩, ⟨by (with_reducible repeat (first | apply Kd.R_alloc | apply Kd.R_drewN | apply Kd.R_drew)); exact HO_9.out⟩, ⟨by (with_reducible repeat (first | refine blk_drewN ?_ _ | refine blk_drew ?_ | refine blk_alloc ?_ _)); exact BK268.out⟩, ⟨by repeat (first | (with_reducible first | exact HB.out | apply below_alloc | apply pw_below_drewN | apply below_drew1 | refine below_set ?_ GE268.out) | exact HB.out)⟩⟩
       ·replace c42 := Bool.eq_false_iff.mpr c42
        subst c42
        have H1 : (some true) = some r := by rw [if_neg (show ¬ (false = true) by decide)] at H; exact H
        clear H; have H := H1; clear H1
        obtain rfl := Option.some.inj H
        obtain ⟨Ao48, co48, eo48⟩ := Kd.R_slice HO_9.out
        subst eo48
        try go_wp2
        have n0_ := Aside0.mk (Kd.R_drew HO_9.out); have n1_ := Aside0.mk (blk_drew BK268.out); have n2_ := Aside0.mk (below_drew1 HB.out); clear HO_9; clear BK268; clear HB; have HO_9 := n0_; have BK268 := n1_; have HB := n2_; clear n0_ n1_ n2_
        have p272 : 0 ≤ (x10_1 : Int) := of_decide_eq_true ax36
        have q272 : x10_1 < (t269.length : Int) := of_decide_eq_true ax36
        obtain ⟨ad272, e272, hx272_0⟩ := Kd.at_int (Kd.R_reads' HO_9.out).2.2 x10_1 p272 q272
        cases e272; replace p272 := eq_true p272; replace q272 := eq_true q272
        have p278 : 0 ≤ (x10_1 : Int) := of_decide_eq_true ax36
        have q278 : x10_1 < (t269.length : Int) := of_decide_eq_true ax36
        obtain ⟨ad278, e278, hx278_0⟩ := Kd.at_int (Kd.R_reads' HO_9.out).2.2 x10_1 p278 q278
        obtain rfl : ad272 = ad278 := (by injection e278)
        replace p278 := eq_true p278; replace q278 := eq_true q278
        have p280 : 0 ≤ (x10_1 : Int) := of_decide_eq_true ax36
        have q280 : x10_1 < (t269.length : Int) := of_decide_eq_true ax36
        obtain ⟨ad280, e280, hx280_0⟩ := Kd.at_int (Kd.R_reads' HO_9.out).2.2 x10_1 p280 q280
        obtain rfl : ad272 = ad280 := (by injection e280)
        replace p280 := eq_true p280; replace q280 := eq_true q280
        refine start_ (n := 31) (S := fun w' => w'.cell? ⟨gb268, 0, none⟩ = some (.slice A0_0 l0_0.length c0_0) ∧ w'.cell? (ad272.add (x10_1).toNat) = some (.int .i64 (rd t269 x10_1)) ∧ w'.cell? (ad272.add (x10_1).toNat) = some (.int .i64 (rd t269 x10_1)) ∧ w'.cell? (ad272.add (x10_1).toNat) = some (.int .i64 (rd t269 x10_1))) (ds := []) (ob 31 0) (by kernel_rfl) rfl rfl ⟨(blk_cell BK268.out 0).trans rfl, hx272_0, hx278_0, hx280_0⟩ (fun hHeld => ?_); refine with_tabW spec_l11Wins.tab5 spec_l11Wins.bits5 (fun HT_ HW_ => ?_)
        generalize wr.drew = w49 at HO_9 BK268 HB hx272_0 hx278_0 hx280_0 hHeld ⊢
        refine pure_ (i := 1) (N := some 21) (v := ?_) (a' := ?_) (ob 31 2) rfl rfl (any_of HT_.out (by kernel_rfl)) (fun _ _ _ h => h) (Or.inl ⟨by rfl, ?_⟩) ?_ ?_; rotate_left; exact ax3; rotate_left; exact ax4
        refine pure_ (i := 2) (N := some 22) (v := ?_) (a' := ?_) (ob 31 6) rfl rfl (any_of HT_.out (by kernel_rfl)) (fun _ _ _ h => h) (Or.inl ⟨by rfl, ?_⟩) ?_ ?_; rotate_left; exact ax3; rotate_left; exact ax4
        refine pure_ (i := 3) (N := some 23) (v := ?_) (a' := ?_) (ob 31 14) rfl rfl (any_of HT_.out (by kernel_rfl)) (fun _ _ _ h => h) (Or.inl ⟨by rfl, ?_⟩) ?_ ?_; rotate_left; exact ax3; rotate_left; exact ax4
        refine pure_ (i := 5) (N := some 25) (v := ?_) (a' := ?_) (ob 31 46) rfl rfl (any_of HT_.out (by kernel_rfl)) (fun _ _ _ h => h) (Or.inl ⟨by rfl, ?_⟩) ?_ ?_; rotate_left; exact ax3; rotate_left; exact ax4
        refine take_ (i := 0) (N := some 20) (v := ?_) (a' := ?_) (ob 31 47) rfl rfl (take_ofW HT_.out HW_.out (by kernel_rfl)) (fun _ _ _ h => h) (Or.inl ⟨by rfl, ?_⟩) hHeld ?_ ?_; rotate_left; exact ax18; rotate_left; exact ax4
        refine take_ (i := 4) (N := some 24) (v := ?_) (a' := ?_) (ob 31 63) rfl rfl (take_ofW HT_.out HW_.out (by kernel_rfl)) (fun _ _ _ h => h) (Or.inl ⟨by rfl, ?_⟩) hHeld ?_ ?_; rotate_left; exact ax18; rotate_left; exact ax4
        refine one_ (i := 6) (N := some 26) (ob 31 127) rfl rfl (one_of HT_.out (by kernel_rfl)) (by decide) (fun K hK => ?_)
        refine goes_ Try.func57 (by kernel_rfl) rfl #[.agg #[.slice A0_0 l0_0.length c0_0], .int .i64 (rd t269 x10_1), .int .i64 a2] (by rfl) rfl rfl ax25 ?_
        with_reducible refine (spec_l11Fatal.calls k1 _ _ l0_0 (rd t269 x10_1) a2 false _ ?side1 ?side2 A11.out).mono ?_
        (case side1 => exact ax26)
        (case side2 => exact ax27)
        rintro e w50 ⟨rfl, hb⟩
        have HS1_ := (hb.cell (World.block_lt_of_cell? _ _ (hHeld.2.1))).trans (hHeld.2.1); have HS2_ := (hb.cell (World.block_lt_of_cell? _ _ (hHeld.2.2.1))).trans (hHeld.2.2.1); have HS3_ := (hb.cell (World.block_lt_of_cell? _ _ (hHeld.2.2.2))).trans (hHeld.2.2.2)
        refine ⟨_, rfl, ?_⟩
        have n0_ := Aside0.mk (Kd.R_below ax146 hb)
        have n1_ := Aside0.mk (blk_below (g := gb268) (o := .cells #[.slice A0_0 l0_0.length c0_0] 30 (0, 0)) ax145 hb)
        have n2_ := Aside0.mk (below_step ax144 hb); clear HO_9; clear BK268; clear HB; have HO_9 := n0_; have BK268 := n1_; have HB := n2_; clear n0_ n1_ n2_; (try clear hb); (try clear hb2); (try clear hk); (try clear hi)
        refine hK.out _ _ ⟨(blk_cell BK268.out 0).trans rfl, HS1_, HS2_, HS3_⟩ (fun hHeld => ?_)
        clear hK K
        refine norm_ (a' := ?_) ?_ ?_
        rotate_left
        ·exact ax15
        refine pure_ (i := 7) (N := some 27) (v := ?_) (a' := ?_) (ob 31 255) rfl rfl (any_of HT_.out (by kernel_rfl)) (fun _ _ _ h => h) (Or.inl ⟨by rfl, ?_⟩) ?_ ?_; rotate_left; exact ax3; rotate_left; exact ax4
        refine pure_ (i := 8) (N := some 28) (v := undef) (a' := ?_) (ob 31 511) rfl rfl (any_of HT_.out (by kernel_rfl)) (fun _ _ _ h => h) (Or.inr ⟨by rfl, rfl⟩) ?_ ?_
        rotate_left
        ·exact ax4
        refine pure_ (i := 9) (N := some 29) (v := ?_) (a' := ?_) (ob 31 1023) rfl rfl (any_of HT_.out (by kernel_rfl)) (fun _ _ _ h => h) (Or.inl ⟨by rfl, ?_⟩) ?_ ?_; rotate_left; exact ax3; rotate_left; exact ax4
        refine pure_ (i := 10) (N := some 30) (v := ?_) (a' := ?_) (ob 31 2047) rfl rfl (any_of HT_.out (by kernel_rfl)) (fun _ _ _ h => h) (Or.inl ⟨by rfl, ?_⟩) ?_ ?_; rotate_left; exact ax3; rotate_left; exact ax4
        refine pure_ (i := 12) (N := some 32) (v := ?_) (a' := ?_) (ob 31 6143) rfl rfl (any_of HT_.out (by kernel_rfl)) (fun _ _ _ h => h) (Or.inl ⟨by rfl, ?_⟩) ?_ ?_; rotate_left; exact ax3; rotate_left; exact ax4
        refine pure_ (i := 13) (N := some 33) (v := ?_) (a' := ?_) (ob 31 14335) rfl rfl (any_of HT_.out (by kernel_rfl)) (fun _ _ _ h => h) (Or.inl ⟨by rfl, ?_⟩) ?_ ?_; rotate_left; exact ax3; rotate_left; exact ax4
        refine pure_ (i := 14) (N := some 34) (v := ?_) (a' := ?_) (ob 31 30719) rfl rfl (any_of HT_.out (by kernel_rfl)) (fun _ _ _ h => h) (Or.inl ⟨by rfl, ?_⟩) ?_ ?_; rotate_left; exact ax3; rotate_left; exact ax4
        refine pure_ (i := 16) (N := some 36) (v := ?_) (a' := ?_) (ob 31 96255) rfl rfl (any_of HT_.out (by kernel_rfl)) (fun _ _ _ h => h) (Or.inl ⟨by rfl, ?_⟩) ?_ ?_; rotate_left; exact ax3; rotate_left; exact ax4
        refine take_ (i := 11) (N := some 31) (v := ?_) (a' := ?_) (ob 31 98303) rfl rfl (take_ofW HT_.out HW_.out (by kernel_rfl)) (fun _ _ _ h => h) (Or.inl ⟨by rfl, ?_⟩) hHeld ?_ ?_; rotate_left; exact ax18; rotate_left; exact ax4
        refine take_ (i := 15) (N := some 35) (v := ?_) (a' := ?_) (ob 31 131071) rfl rfl (take_ofW HT_.out HW_.out (by kernel_rfl)) (fun _ _ _ h => h) (Or.inl ⟨by rfl, ?_⟩) hHeld ?_ ?_; rotate_left; exact ax18; rotate_left; exact ax4
        refine one_ (i := 17) (N := some 37) (ob 31 262143) rfl rfl (one_of HT_.out (by kernel_rfl)) (by decide) (fun K hK => ?_)
        refine goes_ Try.func57 (by kernel_rfl) rfl #[.agg #[.slice A0_0 l0_0.length c0_0], .int .i64 (rd t269 x10_1), .int .i64 a2] (by rfl) rfl rfl ax25 ?_
        with_reducible refine (spec_l11Fatal.calls k1 _ _ l0_0 (rd t269 x10_1) a2 false _ ?side1 ?side2 A35.out).mono ?_
        (case side1 => exact ax26)
        (case side2 => exact ax27)
        rintro e w51 ⟨rfl, hb⟩
        have HS1_ := (hb.cell (World.block_lt_of_cell? _ _ (hHeld.2.1))).trans (hHeld.2.1); have HS2_ := (hb.cell (World.block_lt_of_cell? _ _ (hHeld.2.2.1))).trans (hHeld.2.2.1); have HS3_ := (hb.cell (World.block_lt_of_cell? _ _ (hHeld.2.2.2))).trans (hHeld.2.2.2)
        refine ⟨_, rfl, ?_⟩
        have n0_ := Aside0.mk (Kd.R_below ax146 hb)
        have n1_ := Aside0.mk (blk_below (g := gb268) (o := .cells #[.slice A0_0 l0_0.length c0_0] 30 (0, 0)) ax145 hb)
        have n2_ := Aside0.mk (below_step ax144 hb); clear HO_9; clear BK268; clear HB; have HO_9 := n0_; have BK268 := n1_; have HB := n2_; clear n0_ n1_ n2_; (try clear hb); (try clear hb2); (try clear hk); (try clear hi)
        refine hK.out _ _ ⟨(blk_cell BK268.out 0).trans rfl, HS1_, HS2_, HS3_⟩ (fun hHeld => ?_)
        clear hK K
        refine norm_ (a' := ?_) ?_ ?_
        rotate_left
        ·exact ax17
        refine pure_ (i := 18) (N := some 38) (v := ?_) (a' := ?_) (ob 31 524287) rfl rfl (any_of HT_.out (by kernel_rfl)) (fun _ _ _ h => h) (Or.inl ⟨by rfl, ?_⟩) ?_ ?_; rotate_left; exact ax3; rotate_left; exact ax4
        refine pure_ (i := 19) (N := some 39) (v := ?_) (a' := ?_) (ob 31 1048575) rfl rfl (any_of HT_.out (by kernel_rfl)) (fun _ _ _ h => h) (Or.inl ⟨by rfl, ?_⟩) ?_ ?_; rotate_left; exact ax3; rotate_left; exact ax4
        refine pure_ (i := 21) (N := some 41) (v := ?_) (a' := ?_) (ob 31 3145727) rfl rfl (any_of HT_.out (by kernel_rfl)) (fun _ _ _ h => h) (Or.inl ⟨by rfl, ?_⟩) ?_ ?_; rotate_left; exact ax3; rotate_left; exact ax4
        refine pure_ (i := 22) (N := some 42) (v := ?_) (a' := ?_) (ob 31 7340031) rfl rfl (any_of HT_.out (by kernel_rfl)) (fun _ _ _ h => h) (Or.inl ⟨by rfl, ?_⟩) ?_ ?_; rotate_left; exact ax3; rotate_left; exact ax4
        refine pure_ (i := 23) (N := some 43) (v := ?_) (a' := ?_) (ob 31 15728639) rfl rfl (any_of HT_.out (by kernel_rfl)) (fun _ _ _ h => h) (Or.inl ⟨by rfl, ?_⟩) ?_ ?_; rotate_left; exact ax3; rotate_left; exact ax4
        refine pure_ (i := 25) (N := some 45) (v := ?_) (a' := ?_) (ob 31 49283071) rfl rfl (any_of HT_.out (by kernel_rfl)) (fun _ _ _ h => h) (Or.inl ⟨by rfl, ?_⟩) ?_ ?_; rotate_left; exact ax3; rotate_left; exact ax4
        refine pure_ (i := 26) (N := some 46) (v := ?_) (a' := ?_) (ob 31 116391935) rfl rfl (any_of HT_.out (by kernel_rfl)) (fun _ _ _ h => h) (Or.inl ⟨by rfl, ?_⟩) ?_ ?_; rotate_left; exact ax3; rotate_left; exact ax4
        refine take_ (i := 20) (N := some 40) (v := ?_) (a' := ?_) (ob 31 117440511) rfl rfl (take_ofW HT_.out HW_.out (by kernel_rfl)) (fun _ _ _ h => h) (Or.inl ⟨by rfl, ?_⟩) hHeld ?_ ?_; rotate_left; exact ax18; rotate_left; exact ax4
        refine take_ (i := 24) (N := some 44) (v := ?_) (a' := ?_) (ob 31 134217727) rfl rfl (take_ofW HT_.out HW_.out (by kernel_rfl)) (fun _ _ _ h => h) (Or.inl ⟨by rfl, ?_⟩) hHeld ?_ ?_; rotate_left; exact ax18; rotate_left; exact ax4
        refine one_ (i := 27) (N := some 47) (ob 31 268435455) rfl rfl (one_of HT_.out (by kernel_rfl)) (by decide) (fun K hK => ?_)
        refine goes_ Try.func50 (by kernel_rfl) rfl #[.agg #[.slice A0_0 l0_0.length c0_0], .int .i64 (rd t269 x10_1), .int .i64 a2, .bool a3] (by rfl) rfl rfl ax25 ?_
        with_reducible refine (ih k1 ax147 _ _ l0_0 (rd t269 x10_1) a2 a3 false _ ?side1 ?side2 A41.out).mono ?_
        (case side1 => exact ax26)
        (case side2 => exact ax27)
        rintro e w52 ⟨rfl, hb⟩
        have HS1_ := (hb.cell (World.block_lt_of_cell? _ _ (hHeld.2.1))).trans (hHeld.2.1); have HS2_ := (hb.cell (World.block_lt_of_cell? _ _ (hHeld.2.2.1))).trans (hHeld.2.2.1); have HS3_ := (hb.cell (World.block_lt_of_cell? _ _ (hHeld.2.2.2))).trans (hHeld.2.2.2)
        refine ⟨_, rfl, ?_⟩
        have n0_ := Aside0.mk (Kd.R_below ax146 hb)
        have n1_ := Aside0.mk (blk_below (g := gb268) (o := .cells #[.slice A0_0 l0_0.length c0_0] 30 (0, 0)) ax145 hb)
        have n2_ := Aside0.mk (below_step ax144 hb); clear HO_9; clear BK268; clear HB; have HO_9 := n0_; have BK268 := n1_; have HB := n2_; clear n0_ n1_ n2_; (try clear hb); (try clear hb2); (try clear hk); (try clear hi)
        refine hK.out _ _ ⟨(blk_cell BK268.out 0).trans rfl, HS1_, HS2_, HS3_⟩ (fun hHeld => ?_)
        clear hK K
        refine norm_ (a' := ?_) ?_ ?_
        rotate_left
        ·exact ax19
        refine pure_ (i := 28) (N := some 48) (v := ?_) (a' := ?_) (ob 31 536870911) rfl rfl (any_of HT_.out (by kernel_rfl)) (fun _ _ _ h => h) (Or.inl ⟨by rfl, ?_⟩) ?_ ?_; rotate_left; exact ax3; rotate_left; exact ax4
        refine pure_ (i := 29) (N := some 49) (v := ?_) (a' := ?_) (ob 31 1073741823) rfl rfl (any_of HT_.out (by kernel_rfl)) (fun _ _ _ h => h) (Or.inl ⟨by rfl, ?_⟩) ?_ ?_; rotate_left; exact ax3; rotate_left; exact ax4
        refine pure_ (i := 30) (N := some 50) (v := ?_) (a' := ?_) (ob 31 2147483647) rfl rfl (any_of HT_.out (by kernel_rfl)) (fun _ _ _ h => h) (Or.inl ⟨by rfl, ?_⟩) ?_ ?_; rotate_left; exact ax3; rotate_left; exact ax4
        refine done_ (done_of HT_.out (by kernel_rfl)) ?_
        try go_wp2
        go_ret
        exact ⟨by first | rfl | (simp [errW_none, errW_some] <;> rfl) | (simp [*, errW_none, errW_some] <;> rfl), by repeat (first | (with_reducible first | exact HB.out | apply below_alloc | apply pw_below_drewN | apply below_drew1 | refine below_set ?_ GE268.out) | exact HB.out)⟩
    ·exact ax8
   ·rw [if_neg c9] at H
    have c9b0 : decide (x10_1 < (t269.length : Int)) = false := decide_eq_false c9
    clear c9
    obtain rfl := Option.some.inj H
    obtain ⟨Ao53, co53, eo53⟩ := Kd.R_slice HO_9.out
    subst eo53
    go_wp2
    go_ret
    exact ⟨by first | rfl | (simp [errW_none, errW_some] <;> rfl) | (simp [*, errW_none, errW_some] <;> rfl), by repeat (first | (with_reducible first | exact HB.out | apply below_alloc | apply pw_below_drewN | apply below_drew1 | refine below_set ?_ GE268.out) | exact HB.out)⟩

end Go.Proofs.Ytcbjfflaamlpcaa.X

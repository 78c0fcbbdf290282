-- By gen.py (the session's own program over the kit's printer): functions of the program, each with its contract. Lean checks it.
import Derived.Test.YtknonolfgpknjaaX0
import Derived.Test.YtknonolfgpknjaaX3
namespace Go.Proofs.Ytknonolfgpknjaa.X
open Go.RowKit Go.Proofs.YtknonolfgpknjaaW.PrintWords Go.Proofs.YtknonolfgpknjaaW.PrintLast Go.Proofs.YtknonolfgpknjaaW.PrintMore
attribute [local go_sem] max2_int min2_int max_two min_two max_three min_three max_four min_four   -- for this text's walks alone
set_option linter.unusedVariables false
set_option linter.unusedSimpArgs false

/-! ### impl_PlainCode: function 8 -/
mutual
def impl_PlainCode.j0 : Nat → Bool → List Int → Option (List ByteArray × Bool)
 | 0, _, _ => none
 | k + 1, x23, x132000 => if x23 = true then (some (([] : List ByteArray), false)) else (if 0 ≤ (x132000.length : Int) then (if ((x132000.length : Int) : Int).toNat ≤ 17592186044416 then (impl_PlainCode.l0 k (([] : List Int)) (List.replicate ((x132000.length : Int) : Int).toNat (⟨#[]⟩ : ByteArray)) 0 (x132000.length : Int) 0 x132000) else (none)) else (none))
def impl_PlainCode.l0 : Nat → List Int → List ByteArray → Int → Int → Int → List Int → Option (List ByteArray × Bool)
 | 0, _, _, _, _, _, _ => none
 | k + 1, x6, x7, x8, x29, x30, x132000 => if x30 < x29 then (if x6.length < 17592186044416 then (impl_PlainCode.l0 k (x6 ++ [x30]) x7 x8 x29 (wrap64 (x30 + 1)) x132000) else (none)) else ((slices_SortStableFunc_int_int.f x6 (fun z_ z2_ => impl_PlainCode_1.f z_ z2_ x132000)).bind fun t143 => (impl_PlainCode.l1 k x7 x8 t143 (x6.length : Int) 0 x132000))
def impl_PlainCode.l1 : Nat → List ByteArray → Int → List Int → Int → Int → List Int → Option (List ByteArray × Bool)
 | 0, _, _, _, _, _, _ => none
 | k + 1, x7, x8, x41, x42, x43, x132000 => if x43 < x42 then (if 0 ≤ x43 then (if x43 < (x41.length : Int) then (if 0 ≤ (rd x41 x43) then (if (rd x41 x43) < (x132000.length : Int) then (impl_PlainCode.l2 k x7 x8 (rd x41 x43) x41 x42 x43 (rd x132000 (rd x41 x43)) 0 x132000) else (none)) else (none)) else (none)) else (none)) else (some (x7, true))
def impl_PlainCode.l2 : Nat → List ByteArray → Int → Int → List Int → Int → Int → Int → Int → List Int → Option (List ByteArray × Bool)
 | 0, _, _, _, _, _, _, _, _, _ => none
 | k + 1, x7, x8, x11, x41, x42, x43, x50, x51, x132000 => if x51 < x50 then (if 0 ≤ x11 then (if x11 < (x7.length : Int) then (if 0 ≤ (wrap64 (13 - x51)) then ((some (([(wrap64 (48 + (Go.bits .and .i64 (shr .i64 x8 (wrap64 (13 - x51))) 1))) % 256] : List Int) : List Int)).bind fun y147 => (if (rdOf ByteArray.empty x7 x11).size + (strOfNums y147).size ≤ 9223372036854775807 then (impl_PlainCode.l2 k (x7.set (x11 : Int).toNat ((rdOf ByteArray.empty x7 x11) ++ (strOfNums y147))) x8 x11 x41 x42 x43 x50 (wrap64 (x51 + 1)) x132000) else (none))) else (none)) else (none)) else (none)) else (if 0 ≤ x11 then (if x11 < (x132000.length : Int) then (if 0 ≤ (wrap64 (14 - (rd x132000 x11))) then (impl_PlainCode.l1 k x7 (wrap64 (x8 + (shl .i64 1 (wrap64 (14 - (rd x132000 x11)))))) x41 x42 (wrap64 (x43 + 1)) x132000) else (none)) else (none)) else (none))
end
def impl_PlainCode.f (k : Nat) (l0 : List Int) : Option (List ByteArray × Bool) := (impl_ArePossible.f k l0).bind fun bt132 => (if bt132.2 = true then (impl_PlainCode.j0 k (!bt132.1) l0) else (impl_PlainCode.j0 k true l0))
theorem impl_PlainCode.mono_l : ∀ k, (∀ y0 y1, LeO (impl_PlainCode.j0 k y0 y1) (impl_PlainCode.j0 (k + 1) y0 y1)) ∧ (∀ y0 y1 y2 y3 y4 y5, LeO (impl_PlainCode.l0 k y0 y1 y2 y3 y4 y5) (impl_PlainCode.l0 (k + 1) y0 y1 y2 y3 y4 y5)) ∧ (∀ y0 y1 y2 y3 y4 y5, LeO (impl_PlainCode.l1 k y0 y1 y2 y3 y4 y5) (impl_PlainCode.l1 (k + 1) y0 y1 y2 y3 y4 y5)) ∧ (∀ y0 y1 y2 y3 y4 y5 y6 y7 y8, LeO (impl_PlainCode.l2 k y0 y1 y2 y3 y4 y5 y6 y7 y8) (impl_PlainCode.l2 (k + 1) y0 y1 y2 y3 y4 y5 y6 y7 y8))
 | 0 => ⟨fun _ _ r h => by simp [impl_PlainCode.j0] at h, fun _ _ _ _ _ _ r h => by simp [impl_PlainCode.l0] at h, fun _ _ _ _ _ _ r h => by simp [impl_PlainCode.l1] at h, fun _ _ _ _ _ _ _ _ _ r h => by simp [impl_PlainCode.l2] at h⟩
 | k + 1 => by
  obtain ⟨ih0, ih1, ih2, ih3⟩ := impl_PlainCode.mono_l k
  refine ⟨?_, ?_, ?_, ?_⟩ <;> intros
  all_goals (first | unfold impl_PlainCode.j0 | unfold impl_PlainCode.l0 | unfold impl_PlainCode.l1 | unfold impl_PlainCode.l2)
  all_goals (repeat' first | (with_reducible first | exact ih0 .. | exact ih1 .. | exact ih2 .. | exact ih3 .. | exact impl_ArePossible.mono .. | exact LeO.refl _ | exact LeO.none _ | refine LeO.ite ?_ ?_ | refine LeO.bind ?_ (fun _ => ?_)) | exact ih0 .. | exact ih1 .. | exact ih2 .. | exact ih3 .. | exact impl_ArePossible.mono .. | exact LeO.none _ | refine LeO.ite ?_ ?_ | refine LeO.bind ?_ (fun _ => ?_))
theorem impl_PlainCode.mono : ∀ a0 k, LeO (impl_PlainCode.f k a0) (impl_PlainCode.f (k + 1) a0) := by
 intro a0 k
 obtain ⟨ih0, ih1, ih2, ih3⟩ := impl_PlainCode.mono_l k
 unfold impl_PlainCode.f
 repeat' first | (with_reducible first | exact ih0 .. | exact ih1 .. | exact ih2 .. | exact ih3 .. | exact impl_ArePossible.mono .. | exact LeO.refl _ | exact LeO.none _ | refine LeO.ite ?_ ?_ | refine LeO.bind ?_ (fun _ => ?_)) | exact ih0 .. | exact ih1 .. | exact ih2 .. | exact ih3 .. | exact impl_ArePossible.mono .. | exact LeO.none _ | refine LeO.ite ?_ ?_ | refine LeO.bind ?_ (fun _ => ?_)
def impl_PlainCode.T17 : Bool × List (List Nat × List Nat) := (true, [([], []), ([], []), ([0, 1], [0, 1]), ([2], [2]), ([], []), ([], []), ([5], [5]), ([4, 6], [4, 6]), ([7], [7]), ([8], [8]), ([9], [9]), ([10], [10]), ([11], [11]), ([3, 12], [3, 12]), ([0, 1, 0, 1, 2, 3, 4, 5, 6, 7, 8, 9, 10, 11, 12, 13], [0, 1]), ([14, 13, 0, 1, 2, 3, 4, 5, 6, 7, 8, 9, 10, 11, 12, 13], [13, 14])])
def impl_PlainCode.B17 : List Nat := [0, 0, 3, 7, 0, 0, 32, 112, 240, 496, 1008, 2032, 4080, 8191, 16383, 32767]
theorem impl_PlainCode.tab17 : rtab .any (opsOf Try.f8 17) = impl_PlainCode.T17 := by kernel_rfl
theorem impl_PlainCode.bits17 : waitsOk impl_PlainCode.T17.2 impl_PlainCode.B17 = true := by kernel_rfl
set_option maxHeartbeats 8000000 in
set_option maxRecDepth 100000 in
theorem impl_PlainCode.calls (k : Nat) (A0 : Option Addr) (c0 : Nat) (l0 : List Int) (r1 : List ByteArray) (r2 : Bool) (w : World) (hr0 : Kd.C (Kd.int .i64) w A0 l0.length l0) (hc0 : l0.length ≤ c0) (h : impl_PlainCode.f k l0 = some (r1, r2)) :
  Calls Try.prog 8 #[.slice A0 l0.length c0] w fun e w' => ∃ v0_ : Value, e = .returned (.tuple #[v0_, .bool r2]) ∧ Kd.R Kd.string 9 w' w.heap.size (fun _ => True) v0_ r1 ∧ Below w.heap.size w w' := by
 have HR0 := Aside0.mk hr0; have HC0 := Aside0.mk hc0; clear hr0 hc0; have HB := Aside0.mk (Below.refl w.heap.size w)
 have H : ((impl_ArePossible.f k l0).bind fun bt132 => (if bt132.2 = true then (impl_PlainCode.j0 k (!bt132.1) l0) else (impl_PlainCode.j0 k true l0))) = some (r1, r2) := h
 clear h
 obtain ⟨⟨t132, t133⟩, A2, H⟩ := bs H
 have HC3 := Aside0.mk H; clear H
 go_enter Try.func8, Try.ntmps8
 go_upto_region 2 with (first | ((with_reducible refine gate_dst (N := 1) rfl ?_); refine box_event ?hg (N := 1) ?hd (cs := #[.slice A0 l0.length c0]) (t := 22) ?hr ?_; (case hd => rfl); (case hg => rfl); (case hr => exact ax12); intro gb131 hg w4 hbox hb; have BK131 := Aside0.mk (hbox); have GW131 := uG hg HB; have GE131 := uG hg HB; replace HB := uB HB hb; clear hb hbox hg; have hcz5_0 := bc (.slice A0 l0.length c0) BK131 0; have hfz5_0 := blk_frozen BK131.out 0) | (refine gd 15 21 ?_; refine gc 15 Try.func21 #[.slice A0 l0.length c0] (impl_ArePossible.calls k _ _ l0 t132 t133 _ ax16 (HC0.out) A2.out) ?_; rintro e w6 ⟨rfl, hb⟩; refine ⟨_, rfl, ?_⟩; replace BK131 := ub BK131 hb; replace HB := Aside0.mk (below_step ax17 hb); (try clear hb); (try clear hb2); (try clear hk); (try clear hi)))
 (try simp only [Act.put, List.setIfInBounds_toArray, List.set_cons_zero, List.set_cons_succ])
 go_cut [23] (fun v23 wc => ∃ (kq : Nat) (x23_2 : Bool), v23 = .bool x23_2 ∧ Aside0 (impl_PlainCode.j0 kq x23_2 l0 = some (r1, r2)) ∧ Aside0 (kq ≤ k) ∧ Aside0 (wc.heap[gb131]? = some (.cells #[(.slice A0 l0.length c0)] 22 (0, 0))) ∧ Aside0 (Below w.heap.size w wc))
 case first =>
  have H := HC3.out; clear HC3
  by_cases c7 : t133 = true
  ·subst c7
   rw [if_pos rfl] at H
   have H' := Aside0.mk H
   clear H
   go_wp2
   go_meet
   case rel => exact ⟨_, (!t132), ax6, H', ⟨by first | omega | exact Nat.le_refl _⟩, ⟨ax18⟩, ⟨ax17⟩⟩
  ·replace c7 := Bool.eq_false_iff.mpr c7
   subst c7
   rw [if_neg (show ¬ (false = true) by decide)] at H
   have H' := Aside0.mk H
   clear H
   go_wp2
   go_meet
   case rel => exact ⟨_, (true), ax6, H', ⟨by first | omega | exact Nat.le_refl _⟩, ⟨ax18⟩, ⟨ax17⟩⟩
 case rest =>
  clear HC3
  try clear c2
  try clear p2
  try clear c7
  try clear hcz5_0
  try clear hfz5_0
  obtain ⟨kq, x23_2, rfl, HA, HJ2, BK131, HB⟩ := hcut
  cases kq with
  | zero => exact absurd HA.out (by simp [impl_PlainCode.j0])
  | succ kj2 =>
   have H := HA.out; clear HA
   simp only [impl_PlainCode.j0] at H
   by_cases c8 : x23_2 = true
   ·subst c8
    rw [if_pos rfl] at H
    simp only [Option.some.injEq, Prod.mk.injEq] at H
    obtain ⟨rfl, rfl⟩ := H
    go_wp2
    go_ret2
    exact ⟨_, by first | rfl | (simp [errW_none, errW_some] <;> rfl) | (simp [*, errW_none, errW_some] <;> rfl), by first | exact Kd.R_nil _ _ _ _ _ | exact Kd.N_nil _ _ _ _ _ | exact Kd.V_nil _ _ _ _ _ | exact Kd.Q_nil _ _ _ _ _ | exact Kd.S_nil _ _ _ _ _, by repeat (first | (with_reducible first | exact HB.out | apply below_alloc | apply pw_below_drewN | apply below_drew1 | refine below_set ?_ GE131.out) | exact HB.out)⟩
   ·replace c8 := Bool.eq_false_iff.mpr c8
    subst c8
    rw [if_neg (show ¬ (false = true) by decide)] at H
    obtain ⟨y134, hy134⟩ : ∃ y_ : List Int, y_ = (([] : List Int)) := ⟨_, rfl⟩
    replace H : (if 0 ≤ (l0.length : Int) then (if ((l0.length : Int) : Int).toNat ≤ 17592186044416 then (impl_PlainCode.l0 kj2 y134 (List.replicate ((l0.length : Int) : Int).toNat (⟨#[]⟩ : ByteArray)) 0 (l0.length : Int) 0 l0) else (none)) else (none)) = some (r1, r2) := by first | (rw [hy134]; with_reducible exact H) | (have H2_ := (Option.bind_some _ _).symm.trans H; rw [hy134]; with_reducible exact H2_) | (have H2_ := (Option.bind_some _ _).symm.trans H; with_reducible exact H2_) | with_reducible exact H | (rw [hy134]; exact H) | exact H
    have Ny134 := Aside0.mk hy134; clear hy134
    by_cases c9 : 0 ≤ (l0.length : Int)
    ·rw [if_pos c9] at H
     have c9b0 := eq_true c9
     have c9b1 : decide (0 ≤ (l0.length : Int)) = true := decide_eq_true c9
     clear c9
     by_cases c10 : ((l0.length : Int) : Int).toNat ≤ 17592186044416
     ·rw [if_pos c10] at H
      have c10b0 := eq_true c10
      have c10b1 : decide (((l0.length : Int) : Int).toNat ≤ 17592186044416) = true := decide_eq_true c10
      clear c10
      obtain ⟨y137, hy137⟩ : ∃ y_ : List ByteArray, y_ = (List.replicate ((l0.length : Int) : Int).toNat (⟨#[]⟩ : ByteArray)) := ⟨_, rfl⟩
      replace H : (impl_PlainCode.l0 kj2 y134 y137 0 (l0.length : Int) 0 l0) = some (r1, r2) := by first | (rw [hy137]; with_reducible exact H) | (have H2_ := (Option.bind_some _ _).symm.trans H; rw [hy137]; with_reducible exact H2_) | (have H2_ := (Option.bind_some _ _).symm.trans H; with_reducible exact H2_) | with_reducible exact H | (rw [hy137]; exact H) | exact H
      have Ny137 := Aside0.mk hy137; clear hy137
      have H' := Aside0.mk H
      clear H
      try go_wp2
      replace BK131 := Aside0.mk (blk_drew BK131.out); replace HB := Aside0.mk (below_drew1 HB.out)
      refine start_ (n := 7) (S := fun w' => w'.cell? ⟨gb131, 0, none⟩ = some (.slice A0 l0.length c0)) (ds := []) (ob 7 0) (by kernel_rfl) rfl rfl ((blk_cell BK131.out 0).trans rfl) (fun hHeld => ?_)
      generalize wc.drew = w11 at BK131 HB hHeld ⊢
      refine take_ (i := 1) (N := some 25) (v := ?_) (a' := ?_) (ob 7 2) rfl rfl (by kernel_rfl) (fun _ _ _ h => h) (Or.inl ⟨by rfl, ?_⟩) hHeld ?_ ?_
      rotate_left
      ·intro w' s0
       go_simp
       with_reducible rfl
      rotate_left
      ·exact ax4
      refine pure_ (i := 2) (N := some 26) (v := ?_) (a' := ?_) (ob 7 6) rfl rfl (by kernel_rfl) (fun _ _ _ h => h) (Or.inl ⟨by rfl, ?_⟩) ?_ ?_; rotate_left; exact ax5; rotate_left; exact ax4
      refine join_ (σ := Value × Value) 2 (ob 7 31) (fun s_ => [(24, s_.1), (27, s_.2), (6, s_.1)]) (fun s_ w' => (w'.cell? ⟨gb131, 0, none⟩ = some (.slice A0 l0.length c0)) ∧ (Kd.R (Kd.int .i64) 3 w' w.heap.size (fun _ => True) s_.1 y134) ∧ (Kd.R Kd.string 9 w' w.heap.size (fun _ => True) s_.2 y137) ∧ (w'.heap[gb131]? = some (.cells #[.slice A0 l0.length c0] 22 (0, 0))) ∧ (Below w.heap.size w w')) ?_ ?_
      rotate_left
      ·intro hCont
       refine two_ (i := 0) (j := 3) (Ni := some 24) (Nj := some 27) (ob 7 7) (ob 7 14) rfl rfl rfl rfl (by kernel_rfl) (by decide) (by decide) (fun K hK => ?_) (fun K hK => ?_)
       ·skip
        refine Kd.R_lit_step (Kd.int .i64) _ 3 ?hg (N := 24) ?hd (xs := ([] : List Int)) (inner := []) (ok := fun _ => True) (okp := fun _ => True) ?hr ?hp (fun _ hk => hk) trivial (Below.refl _ _) (Nat.le_refl _) (by simp) ?_; (case hd => rfl); (case hg => rfl); (case hr => exact ax12); (case hp => exact (Reps.none _ _))
        intro v135 w12 ho13 hb hg_ hnew_
        clear hg_ hnew_
        (first | rw [← Ny134.out] at ho13 | (simp only [Int.reduceToNat] at ho13; rw [← Ny134.out] at ho13))
        have HO136 := Aside0.mk (Kd.R_lower ho13 (below_size ax17)); replace BK131 := ub BK131 hb; replace HB := Aside0.mk (below_step ax17 hb); clear hb ho13
        refine hK.out _ _ ((blk_cell BK131.out 0).trans rfl) (fun hHeld => ?_)
        clear hK K
        refine nm 24 ?_
        refine pure_ (i := 4) (N := some 6) (v := ?_) (a' := ?_) (ob 7 23) rfl rfl (by kernel_rfl) (fun _ _ _ h => h) (Or.inl ⟨by rfl, ?_⟩) ?_ ?_; rotate_left; exact ax5; rotate_left; exact ax4
        refine one_ (i := 3) (N := some 27) (ob 7 31) rfl rfl (by kernel_rfl) (by decide) (fun K hK => ?_)
        refine Kd.R_make_step Kd.string _ 9 (by rfl) (N := 27) rfl 23 _ _ rfl (l0.length : Int) rfl rfl Try.underlying23 (.string ⟨#[]⟩) 16 info9 rfl (by decide) (by omega) (⟨#[]⟩ : ByteArray) (ok := fun _ => True) (okp := fun _ => True) rfl (fun _ hk => hk) trivial (of_decide_eq_true ax8) (Nat.le_trans (Nat.mul_le_mul_right _ (of_decide_eq_true ax8 : (l0.length : Int).toNat ≤ 17592186044416)) (by omega)) (Below.refl _ _) (Nat.le_refl _) ?_
        intro v138 w14 ho15 hb hg_ hnew_
        clear hg_ hnew_
        (first | rw [← Ny137.out] at ho15 | (simp only [Int.reduceToNat] at ho15; rw [← Ny137.out] at ho15))
        replace HO136 := uR HO136 hb; have HO139 := Aside0.mk (Kd.R_lower ho15 (below_size ax17)); replace BK131 := ub BK131 hb; replace HB := Aside0.mk (below_step ax17 hb); clear hb ho15
        refine hK.out _ _ ((blk_cell BK131.out 0).trans rfl) (fun hHeld => ?_)
        clear hK K
        refine nm 27 ?_
        exact norm_ ax19 (hCont (v135, v138) _ ⟨hHeld, ax20, ax21, ax18, ax17⟩)
       ·skip
        refine Kd.R_make_step Kd.string _ 9 (by rfl) (N := 27) rfl 23 _ _ rfl (l0.length : Int) rfl rfl Try.underlying23 (.string ⟨#[]⟩) 16 info9 rfl (by decide) (by omega) (⟨#[]⟩ : ByteArray) (ok := fun _ => True) (okp := fun _ => True) rfl (fun _ hk => hk) trivial (of_decide_eq_true ax8) (Nat.le_trans (Nat.mul_le_mul_right _ (of_decide_eq_true ax8 : (l0.length : Int).toNat ≤ 17592186044416)) (by omega)) (Below.refl _ _) (Nat.le_refl _) ?_
        intro v138 w12 ho13 hb hg_ hnew_
        clear hg_ hnew_
        (first | rw [← Ny137.out] at ho13 | (simp only [Int.reduceToNat] at ho13; rw [← Ny137.out] at ho13))
        have HO139 := Aside0.mk (Kd.R_lower ho13 (below_size ax17)); replace BK131 := ub BK131 hb; replace HB := Aside0.mk (below_step ax17 hb); clear hb ho13
        refine hK.out _ _ ((blk_cell BK131.out 0).trans rfl) (fun hHeld => ?_)
        clear hK K
        refine nm 27 ?_
        refine one_ (i := 0) (N := some 24) (ob 7 15) rfl rfl (by kernel_rfl) (by decide) (fun K hK => ?_)
        refine Kd.R_lit_step (Kd.int .i64) _ 3 ?hg (N := 24) ?hd (xs := ([] : List Int)) (inner := []) (ok := fun _ => True) (okp := fun _ => True) ?hr ?hp (fun _ hk => hk) trivial (Below.refl _ _) (Nat.le_refl _) (by simp) ?_; (case hd => rfl); (case hg => rfl); (case hr => exact ax12); (case hp => exact (Reps.none _ _))
        intro v135 w14 ho15 hb hg_ hnew_
        clear hg_ hnew_
        (first | rw [← Ny134.out] at ho15 | (simp only [Int.reduceToNat] at ho15; rw [← Ny134.out] at ho15))
        replace HO139 := uR HO139 hb; have HO136 := Aside0.mk (Kd.R_lower ho15 (below_size ax17)); replace BK131 := ub BK131 hb; replace HB := Aside0.mk (below_step ax17 hb); clear hb ho15
        refine hK.out _ _ ((blk_cell BK131.out 0).trans rfl) (fun hHeld => ?_)
        clear hK K
        refine nm 24 ?_
        refine pure_ (i := 4) (N := some 6) (v := ?_) (a' := ?_) (ob 7 31) rfl rfl (by kernel_rfl) (fun _ _ _ h => h) (Or.inl ⟨by rfl, ?_⟩) ?_ ?_; rotate_left; exact ax5; rotate_left; exact ax4
        exact norm_ ax19 (hCont (v135, v138) _ ⟨hHeld, ax20, ax21, ax18, ax17⟩)
      rintro ⟨v135, v138⟩ w16 ⟨hS_, h0_, h1_, h2_, h3_⟩
      have n0_ : Aside0 (Kd.R (Kd.int .i64) 3 w16 w.heap.size (fun _ => True) v135 y134) := ⟨h0_⟩
      have n1_ : Aside0 (Kd.R Kd.string 9 w16 w.heap.size (fun _ => True) v138 y137) := ⟨h1_⟩
      have n2_ : Aside0 (w16.heap[gb131]? = some (.cells #[.slice A0 l0.length c0] 22 (0, 0))) := ⟨h2_⟩
      have n3_ : Aside0 (Below w.heap.size w w16) := ⟨h3_⟩
      clear BK131; clear HB; clear h0_ h1_ h2_ h3_; have HO136 := n0_; have HO139 := n1_; have BK131 := n2_; have HB := n3_; clear n0_ n1_ n2_ n3_
      have hHeld : w16.cell? ⟨gb131, 0, none⟩ = some (.slice A0 l0.length c0) := hS_
      refine norm_ (a' := ?_) ?_ ?_
      rotate_left
      ·simp only [putAll, Act.put, List.setIfInBounds_toArray, List.set_cons_zero, List.set_cons_succ]
       rfl
      refine pure_ (i := 5) (N := some 7) (v := ?_) (a' := ?_) (ob 7 63) rfl rfl (by kernel_rfl) (fun _ _ _ h => h) (Or.inl ⟨by rfl, ?_⟩) ?_ ?_; rotate_left; exact ax5; rotate_left; exact ax4
      refine pure_ (i := 6) (N := some 8) (v := ?_) (a' := ?_) (ob 7 127) rfl rfl (by kernel_rfl) (fun _ _ _ h => h) (Or.inl ⟨by rfl, ?_⟩) ?_ ?_; rotate_left; exact ax5; rotate_left; exact ax4
      refine done_ (by kernel_rfl) ?_
      have hcz17_0 := bc (.slice A0 l0.length c0) BK131 0; have hfz17_0 := blk_frozen BK131.out 0
      try go_wp2
      go_loopg [6, 30] kj2 (fun kq v6 v30 w' => ∃ (x6_2 : List Int) (x30_2 : Int), v30 = .int .i64 x30_2 ∧ Aside0 (impl_PlainCode.l0 kq x6_2 y137 0 (l0.length : Int) x30_2 l0 = some (r1, r2)) ∧ Aside0 (kq ≤ kj2) ∧ Aside0 (Kd.R (Kd.int .i64) 3 w' w.heap.size (fun _ => True) v6 x6_2) ∧ Aside0 (Kd.R Kd.string 9 w' w.heap.size (fun _ => True) v138 y137) ∧ Aside0 (w'.heap[gb131]? = some (.cells #[(.slice A0 l0.length c0)] 22 (0, 0))) ∧ Aside0 (Below w.heap.size w w'))
      case atStart => exact ⟨(y134), (0), ax6, H', ⟨Nat.le_refl _⟩, ⟨ax20⟩, ⟨ax21⟩, ⟨ax18⟩, ⟨ax17⟩⟩
      case round =>
       clear H'
       try clear c1
       try clear c2
       try clear p2
       try clear c7
       try clear c8
       try clear c9
       try clear c9b0
       try clear c9b1
       try clear c10
       try clear c10b0
       try clear c10b1
       try clear hcz17_0
       try clear hcz5_0
       try clear hfz17_0
       try clear hfz5_0
       try clear p2
       obtain ⟨x6_2, x30_2, rfl, HA, HK2, HO_6, HO_7, BK131, HB⟩ := hrel
       cases gk with
       | zero => exact absurd HA.out (by simp [impl_PlainCode.l0])
       | succ k2 =>
        have H := HA.out; clear HA
        simp only [impl_PlainCode.l0] at H
        by_cases c18 : x30_2 < (l0.length : Int)
        ·rw [if_pos c18] at H
         have c18b0 : decide (x30_2 < (l0.length : Int)) = true := decide_eq_true c18
         clear c18
         by_cases c19 : x6_2.length < 17592186044416
         ·rw [if_pos c19] at H
          have LMc19 := Aside0.mk c19; clear c19
          obtain ⟨y140, hy140⟩ : ∃ y_ : List Int, y_ = (x6_2 ++ [x30_2]) := ⟨_, rfl⟩
          replace H : (impl_PlainCode.l0 k2 y140 y137 0 (l0.length : Int) (wrap64 (x30_2 + 1)) l0) = some (r1, r2) := by first | (rw [hy140]; with_reducible exact H) | (have H2_ := (Option.bind_some _ _).symm.trans H; rw [hy140]; with_reducible exact H2_) | (have H2_ := (Option.bind_some _ _).symm.trans H; with_reducible exact H2_) | with_reducible exact H | (rw [hy140]; exact H) | exact H
          have Ny140 := Aside0.mk hy140; clear hy140
          have H' := Aside0.mk H
          clear H
          go_wp2_with (first | ((with_reducible refine gate_builtin (b := .append) (xs := #[.tmp 33, .tmp 35]) rfl ?_); at_builtin; refine Kd.R_append (Kd.int .i64) (w0 := w) w.heap.size rfl (.tmp 33) (.tmp 35) 22 3 (.int .i64 0) 8 rfl Try.underlying22 info3 rfl (by decide) (by omega) u6 x6_2 x30_2 [.int .i64 x30_2] (fun _ => True) (fun _ => False) rfl rfl ?aP (fun _ hk => hk.elim) ?aF ?aO ?aB ?aS ?aL ?_; (case aP => exact rfl); (case aB => exact ax17); (case aF => exact (fun _ _ => trivial)); (case aO => exact ax22); (case aS => exact (below_size ax17)); (case aL => have := LMc19.out; omega); intro v141 w20 ho hb hg hat; rw [← Ny140.out] at ho; have n0_ := Aside0.mk (Kd.R_over' ax23 (Kd.R_typed ax22) (by decide) hg); have n1_ := Aside0.mk (blk_grown (g := gb131) (o := .cells #[.slice A0 l0.length c0] 22 (0, 0)) ax18 hg (Kd.R_ne HO_6.out BK131.out (by decide))); have n2_ := Aside0.mk (hb); have n3_ := Aside0.mk (ho); clear HO_7; clear BK131; clear HB; clear HO_6; have HO_7 := n0_; have BK131 := n1_; have HB := n2_; have HO142 := n3_; clear n0_ n1_ n2_ n3_; clear ho hb hg hat))
          go_roundg k2
          case measure => have := HJ2.out; have := HK2.out; omega
          case rel => exact ⟨(y140), (wrap64 (x30_2 + 1)), ax6, H', ⟨(by have := HJ2.out; have := HK2.out; omega)⟩, ⟨(by (with_reducible repeat (first | apply Kd.R_alloc | apply Kd.R_drewN | apply Kd.R_drew)); exact HO142.out)⟩, ⟨ax23⟩, ⟨ax18⟩, ⟨ax17⟩⟩
         ·rw [if_neg c19] at H
          exact absurd H (by simp)
        ·rw [if_neg c18] at H
         have c18b0 : decide (x30_2 < (l0.length : Int)) = false := decide_eq_false c18
         have c18b9 := Int.not_lt.1 c18; clear c18
         obtain ⟨t143, A21, H⟩ := bs H
         have H' := Aside0.mk H
         clear H
         obtain ⟨Ao22, co22, eo22⟩ := Kd.R_slice HO_6.out
         subst eo22
         go_wp2_with (first | (refine gd 40 22 ?_; refine gc 40 Try.func22 #[.slice Ao22 x6_2.length co22, .func (.func 23) #[] #[.pointer (some ⟨gb131, 0, none⟩)]] (slices_SortStableFunc_int_int.calls (fun k_ => some k_ = (.slice Ao22 x6_2.length co22 : Value).ownBlock) (.slice Ao22 x6_2.length co22) x6_2 (fun z_ z2_ => impl_PlainCode_1.f z_ z2_ l0) t143 w _ ax17 (Kd.R_tight rfl HO_6.out) (enters_of Try.func23 (by kernel_rfl) rfl) (by intro x_ x2_ W_ r_ hW_ h_; have b0_ := blk_kept (g := gb131) (o := .cells #[.slice A0 l0.length c0] 22 (0, 0)) ax18 hW_ (fun hs_ => (Kd.R_ne HO_6.out BK131.out (by decide)) hs_.1); exact impl_PlainCode_1.calls x_ x2_ gb131 _ _ l0 r_ W_ ((blk_cell b0_ 0).trans rfl) (Kd.C_kept_came (Kd.heap_int .i64) HR0.out ax17 (fun _ hs_ => hs_.2) W_ hW_) (by exact HC0.out) h_) A21.out) ?_; rintro e w23 ⟨rfl, hy0, hb, hkp⟩; refine ⟨_, rfl, ?_⟩; replace HO_7 := Aside0.mk (Kd.R_mono (ok' := fun k_ => True) (Kd.R_keptB ((Kd.R_apart' HO_7.out (Kd.R_typed HO_6.out) (by decide))) hkp (fun k_ hk_ hs_ => (hk_.2) hs_)) (fun k_ hk_ => trivial)); replace BK131 := Aside0.mk (blk_kept ax18 hkp (fun hs_ => (fun e_ => (Kd.R_ne HO_6.out BK131.out (by decide)) e_) hs_)); replace HO_6 := Aside0.mk (Kd.R_reok rfl hy0 (fun k_ e_ => HO_6.out.1 k_ e_)); replace HB := Aside0.mk (hb); (try clear hb); (try clear hkp); (try clear hy0)))
         go_loopg [8, 43] k2 (fun kq v8 v43 w' => ∃ (x7_3 : List ByteArray) (x8_3 : Int) (x43_3 : Int), v8 = .int .i64 x8_3 ∧ v43 = .int .i64 x43_3 ∧ Aside0 (impl_PlainCode.l1 kq x7_3 x8_3 t143 (x6_2.length : Int) x43_3 l0 = some (r1, r2)) ∧ Aside0 (kq ≤ k2) ∧ Aside0 (Kd.R Kd.string 9 w' w.heap.size (fun _ => True) v138 x7_3) ∧ Aside0 (Kd.R (Kd.int .i64) 3 w' w.heap.size (fun _ => True) (.slice Ao22 x6_2.length co22) t143) ∧ Aside0 (w'.heap[gb131]? = some (.cells #[(.slice A0 l0.length c0)] 22 (0, 0))) ∧ Aside0 (Below w.heap.size w w'))
         case atStart => exact ⟨(y137), (0), (0), ax6, ax6, H', ⟨Nat.le_refl _⟩, ⟨ax23⟩, ⟨ax22⟩, ⟨ax18⟩, ⟨ax17⟩⟩
         case round =>
          clear H'
          try clear c1
          try clear c2
          try clear p2
          try clear p6
          try clear c7
          try clear c8
          try clear c9
          try clear c9b0
          try clear c9b1
          try clear c10
          try clear c10b0
          try clear c10b1
          try clear c18
          try clear c18b0
          try clear c19
          try clear c21
          try clear c22
          try clear c23
          try clear hcz17_0
          try clear hcz5_0
          try clear hfz17_0
          try clear hfz5_0
          try clear p2
          obtain ⟨x7_3, x8_3, x43_3, rfl, rfl, HA, HK3, HO_7, HO_41, BK131, HB⟩ := hrel
          have hl41_3 := (Kd.R_reads' HO_41.out).1
          rw [hl41_3] at HO_41
          (try simp only [hl41_3])
          (try simp only [hl41_3] at BK131)
          (try simp only [hl41_3] at HO_7)
          cases gk with
          | zero => exact absurd HA.out (by simp [impl_PlainCode.l1])
          | succ k3 =>
           have H := HA.out; clear HA
           simp only [impl_PlainCode.l1] at H
           by_cases c24 : x43_3 < (x6_2.length : Int)
           ·rw [if_pos c24] at H
            have c24b0 : decide (x43_3 < (x6_2.length : Int)) = true := decide_eq_true c24
            clear c24
            by_cases c25 : 0 ≤ x43_3
            ·rw [if_pos c25] at H
             have c25b0 : decide (0 ≤ x43_3) = true := decide_eq_true c25
             clear c25
             by_cases c26 : x43_3 < (t143.length : Int)
             ·rw [if_pos c26] at H
              have c26b0 : decide (x43_3 < (t143.length : Int)) = true := decide_eq_true c26
              clear c26
              by_cases c27 : 0 ≤ (rd t143 x43_3)
              ·rw [if_pos c27] at H
               have c27b0 : decide (0 ≤ (rd t143 x43_3)) = true := decide_eq_true c27
               clear c27
               by_cases c28 : (rd t143 x43_3) < (l0.length : Int)
               ·rw [if_pos c28] at H
                have c28b0 : decide ((rd t143 x43_3) < (l0.length : Int)) = true := decide_eq_true c28
                clear c28
                have H' := Aside0.mk H
                clear H
                have p144 : 0 ≤ (x43_3 : Int) := of_decide_eq_true ax8
                have q144 : x43_3 < (t143.length : Int) := of_decide_eq_true ax8
                obtain ⟨ad144, e144, hx144_0⟩ := Kd.at_int (Kd.R_reads' HO_41.out).2.2 x43_3 p144 q144
                cases e144; replace p144 := eq_true p144; replace q144 := eq_true q144; have hcz29_0 := bc (.slice A0 l0.length c0) BK131 0; have hfz29_0 := blk_frozen BK131.out 0
                have p145 : 0 ≤ ((rd t143 x43_3) : Int) := of_decide_eq_true ax8
                have q145 : (rd t143 x43_3) < (l0.length : Int) := of_decide_eq_true ax8
                obtain ⟨ad145, e145, hx145_0⟩ := Kd.at_int HR0.out (rd t143 x43_3) p145 q145
                cases e145; replace hx145_0 := (HB.out.cell (World.block_lt_of_cell? w _ hx145_0)).trans hx145_0; replace p145 := eq_true p145; replace q145 := eq_true q145
                go_wp2
                go_loopg [51] k3 (fun kq v51 w' => ∃ (x7_4 : List ByteArray) (x51_4 : Int), v51 = .int .i64 x51_4 ∧ Aside0 (impl_PlainCode.l2 kq x7_4 x8_3 (rd t143 x43_3) t143 (x6_2.length : Int) x43_3 (rd l0 (rd t143 x43_3)) x51_4 l0 = some (r1, r2)) ∧ Aside0 (kq ≤ k3) ∧ Aside0 (Kd.R Kd.string 9 w' w.heap.size (fun _ => True) v138 x7_4) ∧ Aside0 (Kd.R (Kd.int .i64) 3 w' w.heap.size (fun _ => True) (.slice (some ad144) t143.length co22) t143) ∧ Aside0 (w'.heap[gb131]? = some (.cells #[(.slice (some ad145) l0.length c0)] 22 (0, 0))) ∧ Aside0 (Below w.heap.size w w'))
                case atStart => exact ⟨(x7_3), (0), ax6, H', ⟨Nat.le_refl _⟩, ⟨ax24⟩, ⟨ax25⟩, ⟨ax26⟩, ⟨ax17⟩⟩
                case round =>
                 clear H'
                 try clear c1
                 try clear p1
                 try clear q1
                 try clear hx1
                 try clear c2
                 try clear p2
                 try clear p6
                 try clear c7
                 try clear c8
                 try clear c9
                 try clear c9b0
                 try clear c9b1
                 try clear c10
                 try clear c10b0
                 try clear c10b1
                 try clear p14
                 try clear q14
                 try clear hx14
                 try clear c18
                 try clear c18b0
                 try clear c19
                 try clear c21
                 try clear c22
                 try clear c23
                 try clear c24
                 try clear c24b0
                 try clear c25
                 try clear c25b0
                 try clear c26
                 try clear c26b0
                 try clear c27
                 try clear c27b0
                 try clear c28
                 try clear c28b0
                 try clear hcz17_0
                 try clear hcz29_0
                 try clear hcz5_0
                 try clear hfz17_0
                 try clear hfz29_0
                 try clear hfz5_0
                 try clear hx144_0
                 try clear hx145_0
                 try clear p144
                 try clear p145
                 try clear p2
                 try clear p6
                 try clear q144
                 try clear q145
                 obtain ⟨x7_4, x51_4, rfl, HA, HK4, HO_7, HO_41, BK131, HB⟩ := hrel
                 cases gk with
                 | zero => exact absurd HA.out (by simp [impl_PlainCode.l2])
                 | succ k4 =>
                  have H := HA.out; clear HA
                  simp only [impl_PlainCode.l2] at H
                  by_cases c30 : x51_4 < (rd l0 (rd t143 x43_3))
                  ·rw [if_pos c30] at H
                   have c30b0 : decide (x51_4 < (rd l0 (rd t143 x43_3))) = true := decide_eq_true c30
                   clear c30
                   by_cases c31 : 0 ≤ (rd t143 x43_3)
                   ·rw [if_pos c31] at H
                    have c31b0 : decide (0 ≤ (rd t143 x43_3)) = true := decide_eq_true c31
                    clear c31
                    by_cases c32 : (rd t143 x43_3) < (x7_4.length : Int)
                    ·rw [if_pos c32] at H
                     have c32b0 : decide ((rd t143 x43_3) < (x7_4.length : Int)) = true := decide_eq_true c32
                     clear c32
                     obtain ⟨ji33, hji33⟩ : ∃ j_ : Int, (wrap64 (13 - x51_4)) = j_ := ⟨_, rfl⟩
                     replace H : (if 0 ≤ (ji33) then ((some (([(wrap64 (48 + (Go.bits .and .i64 (shr .i64 x8_3 (ji33)) 1))) % 256] : List Int) : List Int)).bind fun y147 => (if (rdOf ByteArray.empty x7_4 (rd t143 x43_3)).size + (strOfNums y147).size ≤ 9223372036854775807 then (impl_PlainCode.l2 k4 (x7_4.set ((rd t143 x43_3) : Int).toNat ((rdOf ByteArray.empty x7_4 (rd t143 x43_3)) ++ (strOfNums y147))) x8_3 (rd t143 x43_3) t143 (x6_2.length : Int) x43_3 (rd l0 (rd t143 x43_3)) (wrap64 (x51_4 + 1)) l0) else (none))) else (none)) = some (r1, r2) := by first | (rw [hji33] at H; exact H) | (simp only [hji33] at H ⊢; exact H)
                     have hji33w : (IntKind.i64.wrap (13 - x51_4)) = ji33 := (i64_w _).trans hji33
                     by_cases c34 : 0 ≤ (ji33)
                     ·rw [if_pos c34] at H
                      have c34b0 := eq_true c34
                      have c34b1 : decide (0 ≤ (ji33)) = true := decide_eq_true c34
                      clear c34
                      obtain ⟨ji35, hji35⟩ : ∃ j_ : Int, (shr .i64 x8_3 (ji33)) = j_ := ⟨_, rfl⟩
                      replace H : ((some (([(wrap64 (48 + (Go.bits .and .i64 (ji35) 1))) % 256] : List Int) : List Int)).bind fun y147 => (if (rdOf ByteArray.empty x7_4 (rd t143 x43_3)).size + (strOfNums y147).size ≤ 9223372036854775807 then (impl_PlainCode.l2 k4 (x7_4.set ((rd t143 x43_3) : Int).toNat ((rdOf ByteArray.empty x7_4 (rd t143 x43_3)) ++ (strOfNums y147))) x8_3 (rd t143 x43_3) t143 (x6_2.length : Int) x43_3 (rd l0 (rd t143 x43_3)) (wrap64 (x51_4 + 1)) l0) else (none))) = some (r1, r2) := by first | (rw [hji35] at H; exact H) | (simp only [hji35] at H ⊢; exact H)
                      have hji35_ : (x8_3 / 2 ^ min (ji33).toNat 64) = ji35 := hji35
                      have hji35z : (ji33) ≤ 64 → (x8_3 / 2 ^ (ji33).toNat) = ji35 := shr_small hji35
                      obtain ⟨y147, hy147⟩ : ∃ y_ : List Int, y_ = (([(wrap64 (48 + (Go.bits .and .i64 (ji35) 1))) % 256] : List Int)) := ⟨_, rfl⟩
                      replace H : (if (rdOf ByteArray.empty x7_4 (rd t143 x43_3)).size + (strOfNums y147).size ≤ 9223372036854775807 then (impl_PlainCode.l2 k4 (x7_4.set ((rd t143 x43_3) : Int).toNat ((rdOf ByteArray.empty x7_4 (rd t143 x43_3)) ++ (strOfNums y147))) x8_3 (rd t143 x43_3) t143 (x6_2.length : Int) x43_3 (rd l0 (rd t143 x43_3)) (wrap64 (x51_4 + 1)) l0) else (none)) = some (r1, r2) := by first | (rw [hy147]; with_reducible exact H) | (have H2_ := (Option.bind_some _ _).symm.trans H; rw [hy147]; with_reducible exact H2_) | (have H2_ := (Option.bind_some _ _).symm.trans H; with_reducible exact H2_) | with_reducible exact H | (rw [hy147]; exact H) | exact H
                      have Ny147 := Aside0.mk hy147; clear hy147
                      by_cases c36 : (rdOf ByteArray.empty x7_4 (rd t143 x43_3)).size + (strOfNums y147).size ≤ 9223372036854775807
                      ·rw [if_pos c36] at H
                       have c36b0 := eq_true c36
                       have c36b1 : decide ((rdOf ByteArray.empty x7_4 (rd t143 x43_3)).size + (strOfNums y147).size ≤ 9223372036854775807) = true := decide_eq_true c36
                       try have c36b2 : (9223372036854775807 < (rdOf ByteArray.empty x7_4 (rd t143 x43_3)).size + (strOfNums y147).size) = False := eq_false (Nat.not_lt.2 c36)
                       clear c36
                       obtain ⟨js37, hjs37⟩ : ∃ j_ : ByteArray, ((rdOf ByteArray.empty x7_4 (rd t143 x43_3)) ++ (strOfNums y147)) = j_ := ⟨_, rfl⟩
                       replace H : (impl_PlainCode.l2 k4 (x7_4.set ((rd t143 x43_3) : Int).toNat js37) x8_3 (rd t143 x43_3) t143 (x6_2.length : Int) x43_3 (rd l0 (rd t143 x43_3)) (wrap64 (x51_4 + 1)) l0) = some (r1, r2) := by first | (rw [hjs37] at H; exact H) | (simp only [hjs37] at H ⊢; exact H)
                       obtain ⟨y150, hy150⟩ : ∃ y_ : List ByteArray, y_ = (x7_4.set ((rd t143 x43_3) : Int).toNat js37) := ⟨_, rfl⟩
                       replace H : (impl_PlainCode.l2 k4 y150 x8_3 (rd t143 x43_3) t143 (x6_2.length : Int) x43_3 (rd l0 (rd t143 x43_3)) (wrap64 (x51_4 + 1)) l0) = some (r1, r2) := by first | (rw [hy150]; with_reducible exact H) | (have H2_ := (Option.bind_some _ _).symm.trans H; rw [hy150]; with_reducible exact H2_) | (have H2_ := (Option.bind_some _ _).symm.trans H; with_reducible exact H2_) | with_reducible exact H | (rw [hy150]; exact H) | exact H
                       have Ny150 := Aside0.mk hy150; clear hy150
                       have H' := Aside0.mk H
                       clear H
                       try go_wp2
                       replace HO_7 := Aside0.mk (Kd.R_drew HO_7.out); replace HO_41 := Aside0.mk (Kd.R_drew HO_41.out); replace BK131 := Aside0.mk (blk_drew BK131.out); replace HB := Aside0.mk (below_drew1 HB.out)
                       obtain ⟨Ao40, co40, eo40⟩ := Kd.R_slice HO_7.out
                       (first | subst eo40 | (injection eo40 with f1_ f2_ f3_; have f4_ := f1_.symm; have f5_ := f3_.symm; clear f1_ f2_ f3_; subst f4_; subst f5_))
                       have p146 : 0 ≤ ((rd t143 x43_3) : Int) := of_decide_eq_true ax8
                       have q146 : (rd t143 x43_3) < (x7_4.length : Int) := of_decide_eq_true ax8
                       obtain ⟨ad146, e146, hx146_0⟩ := Kd.at_string (Kd.R_reads' HO_7.out).2.2 (rd t143 x43_3) p146 q146
                       cases e146; replace p146 := eq_true p146; replace q146 := eq_true q146
                       refine start_ (n := 16) (S := fun w' => w'.cell? (ad146.add ((rd t143 x43_3)).toNat) = some (.string (rdOf ByteArray.empty x7_4 (rd t143 x43_3)))) (ds := [15]) (ob 16 0) (by kernel_rfl) rfl rfl (hx146_0) (fun hHeld => ?_); refine with_tabW impl_PlainCode.tab17 impl_PlainCode.bits17 (fun HT_ HW_ => ?_)
                       generalize wr.drew = w39 at HO_7 HO_41 BK131 HB hx146_0 hHeld ⊢
                       refine pu 0 54 ?_; refine pu 1 55 ?_; refine pu 2 56 ?_; refine pu 4 58 ?_; refine pu 5 59 ?_; refine pu 6 60 ?_; refine pu 7 61 ?_; refine pu 8 62 ?_; refine pu 9 63 ?_; refine pu 10 64 ?_
                       refine take_ (i := 3) (N := some 57) (v := ?_) (a' := ?_) (ob 16 2047) rfl rfl (take_ofW HT_.out HW_.out (by kernel_rfl)) (fun _ _ _ h => h) (Or.inl ⟨by rfl, ?_⟩) hHeld ?_ ?_
                       rotate_left
                       ·intro w' s0
                        go_simp
                        with_reducible rfl
                       rotate_left
                       ·exact ax4
                       refine one_ (i := 11) (N := some 65) (ob 16 4095) rfl rfl (one_of HT_.out (by kernel_rfl)) (by decide) (fun K hK => ?_)
                       refine Kd.R_lit_step (Kd.int .u8) _ 5 ?hg (N := 65) ?hd (xs := ([(wrap64 (48 + (Go.bits .and .i64 (ji35) 1))) % 256] : List Int)) (inner := [.int .u8 ((wrap64 (48 + (Go.bits .and .i64 (ji35) 1))) % 256)]) (ok := fun _ => True) (okp := fun _ => True) ?hr ?hp (fun _ hk => hk) trivial (Below.refl _ _) (Nat.le_refl _) (by simp) ?_; (case hd => rfl); (case hg => rfl); (case hr => exact ax12); (case hp => exact (Reps.one (show Kd.M (Kd.int .u8) _ _ _ ((wrap64 (48 + (Go.bits .and .i64 (ji35) 1))) % 256) [.int .u8 ((wrap64 (48 + (Go.bits .and .i64 (ji35) 1))) % 256)] from rfl) (Reps.none _ _)))
                       intro v148 w41 ho42 hb hg_ hnew_
                       have HS0_ := (hb.cell (World.block_lt_of_cell? _ _ (hHeld))).trans (hHeld); clear hg_ hnew_
                       (first | rw [← Ny147.out] at ho42 | (simp only [Int.reduceToNat] at ho42; rw [← Ny147.out] at ho42))
                       replace HO_7 := uR HO_7 hb; replace HO_41 := uR HO_41 hb; have HO149 := Aside0.mk (Kd.R_lower ho42 (below_size ax17)); replace BK131 := ub BK131 hb; replace HB := Aside0.mk (below_step ax17 hb); clear hb ho42
                       have p38 : 0 ≤ ((rd t143 x43_3) : Int) := of_decide_eq_true ax8
                       have q38 : ((rd t143 x43_3) : Int) < ((x7_4.length : Int) : Int) := of_decide_eq_true ax8
                       obtain ⟨go38, co38, eo38, gb38, gl38, cl38, HG38⟩ := Kd.R_form HO_7.out (by omega)
                       (first | cases eo38 | (injection eo38 with ea_ en_ ec_; (first | subst ea_ | (injection ea_ with ea_; subst ea_)); subst ec_; clear en_))
                       have GB38 := Aside0.mk gb38; have GG38 := Aside0.mk HG38; clear gb38 gl38 HG38
                       (first | simp only [add_plain] at hx146_0 | skip)
                       obtain ⟨hx38_0, hf38_0⟩ := Kd.R_celln (⟨#[]⟩ : ByteArray) HO_7.out ((rd t143 x43_3) : Int) p38 q38
                       replace p38 := eq_true p38; replace q38 := eq_true q38; have HP44 := Kd.R_putn HO_7.out ((rd t143 x43_3) : Int) js37
                       rw [← Ny150.out] at HP44
                       have HQ44 := Aside0.mk HP44; clear HP44
                       refine hK.out _ _ (HS0_) (fun hHeld => ?_)
                       clear hK K
                       refine nm 65 ?_
                       refine one_ (i := 12) (N := some 66) (ob 16 8191) rfl rfl (one_of HT_.out (by kernel_rfl)) (by decide) (fun K hK => ?_)
                       have hcv43 := own_string (P := Try.prog) Try.underlying41 Try.underlying5 Try.underlying9 (Kd.own_of_R HO149.out)
                       refine value_ (w1 := ?_) (v := ?_) (by rfl) rfl ?_ ?_
                       rotate_left 2
                       ·go_simp
                        constructor
                        ·rfl
                        ·rfl
                       clear hcv43
                       refine hK.out _ _ (hHeld) (fun hHeld => ?_)
                       clear hK K
                       refine nm 66 ?_
                       refine pu 13 67 ?_; refine pu 14 68 ?_
                       refine last_ (i := 15) (N := none) (ob 16 65535) rfl rfl (one_of HT_.out (by kernel_rfl)) (by decide) (fun K hK => ?_)
                       refine skip_ (w1 := ?_) (by rfl) rfl ?_ ?_
                       rotate_left
                       ·go_simp
                        rfl
                       refine hK.out _ _ ?_
                       clear hK K
                       refine dn ?_
                       try go_wp2
                       go_roundg k4
                       case measure => have := HJ2.out; have := HK2.out; have := HK3.out; have := HK4.out; omega
                       case rel => exact ⟨(y150), (wrap64 (x51_4 + 1)), ax6, H', ⟨ax27⟩, ⟨(by (try simp only [hl41_3]); (with_reducible repeat (first | apply Kd.R_alloc | apply Kd.R_drewN | apply Kd.R_drew)); exact HQ44.out)⟩, ⟨(by (try simp only [hl41_3]); (with_reducible repeat (first | apply Kd.R_alloc | apply Kd.R_drewN | apply Kd.R_drew)); exact Kd.R_mono (Kd.R_far (p := ⟨go38, ((rd t143 x43_3) : Int).toNat, none⟩) (Kd.R_types HO_41.out GG38.out (by decide)) (fun _ hk => hk.2) (.string js37)) (fun _ hk => trivial))⟩, ⟨(by (try simp only [hl41_3]); (with_reducible repeat (first | refine blk_drewN ?_ _ | refine blk_drew ?_ | refine blk_alloc ?_ _)); refine blk_far ?_ (by have h_ := Kd.R_ne HO_7.out BK131.out (by decide); intro e_; exact h_ (by rw [e_]; rfl)) _; (with_reducible repeat (first | refine blk_drewN ?_ _ | refine blk_drew ?_ | refine blk_alloc ?_ _)); exact BK131.out)⟩, ⟨(by repeat (first | (with_reducible first | exact HB.out | apply below_alloc | apply pw_below_drewN | apply below_drew1 | refine below_set ?_ GB38.out | refine below_set ?_ GE131.out) | exact HB.out))⟩⟩
                      ·rw [if_neg c36] at H
                       exact absurd H (by simp)
                     ·rw [if_neg c34] at H
                      exact absurd H (by simp)
                    ·rw [if_neg c32] at H
                     exact absurd H (by simp)
                   ·rw [if_neg c31] at H
                    exact absurd H (by simp)
                  ·rw [if_neg c30] at H
                   have c30b0 : decide (x51_4 < (rd l0 (rd t143 x43_3))) = false := decide_eq_false c30
                   clear c30
                   by_cases c45 : 0 ≤ (rd t143 x43_3)
                   ·rw [if_pos c45] at H
                    have c45b0 : decide (0 ≤ (rd t143 x43_3)) = true := decide_eq_true c45
                    clear c45
                    by_cases c46 : (rd t143 x43_3) < (l0.length : Int)
                    ·rw [if_pos c46] at H
                     have c46b0 : decide ((rd t143 x43_3) < (l0.length : Int)) = true := decide_eq_true c46
                     clear c46
                     obtain ⟨ji47, hji47⟩ : ∃ j_ : Int, (wrap64 (14 - (rd l0 (rd t143 x43_3)))) = j_ := ⟨_, rfl⟩
                     replace H : (if 0 ≤ (ji47) then (impl_PlainCode.l1 k4 x7_4 (wrap64 (x8_3 + (shl .i64 1 (ji47)))) t143 (x6_2.length : Int) (wrap64 (x43_3 + 1)) l0) else (none)) = some (r1, r2) := by first | (rw [hji47] at H; exact H) | (simp only [hji47] at H ⊢; exact H)
                     have hji47w : (IntKind.i64.wrap (14 - (rd l0 (rd t143 x43_3)))) = ji47 := (i64_w _).trans hji47
                     by_cases c48 : 0 ≤ (ji47)
                     ·rw [if_pos c48] at H
                      have c48b0 := eq_true c48
                      have c48b1 : decide (0 ≤ (ji47)) = true := decide_eq_true c48
                      clear c48
                      obtain ⟨ji49, hji49⟩ : ∃ j_ : Int, (shl .i64 1 (ji47)) = j_ := ⟨_, rfl⟩
                      replace H : (impl_PlainCode.l1 k4 x7_4 (wrap64 (x8_3 + (ji49))) t143 (x6_2.length : Int) (wrap64 (x43_3 + 1)) l0) = some (r1, r2) := by first | (rw [hji49] at H; exact H) | (simp only [hji49] at H ⊢; exact H)
                      have hji49_ : (IntKind.i64.wrap (1 * 2 ^ min (ji47).toNat 64)) = ji49 := hji49
                      have hji49z : (ji47) ≤ 64 → (IntKind.i64.wrap (1 * 2 ^ (ji47).toNat)) = ji49 := shl_small hji49
                      have hji49u : (IntKind.i64.wrap (2 ^ min (ji47).toNat 64)) = ji49 := by have h_ := hji49_; rw [Int.one_mul] at h_; exact h_
                      have hji49v : (ji47) ≤ 64 → (IntKind.i64.wrap (2 ^ (ji47).toNat)) = ji49 := fun hle_ => by have h_ := hji49z hle_; rw [Int.one_mul] at h_; exact h_
                      have hji49y : (wrap64 (1 * 2 ^ min (ji47).toNat 64)) = ji49 := (i64_w _).symm.trans hji49_
                      have hji49x : (ji47) ≤ 64 → (wrap64 (1 * 2 ^ (ji47).toNat)) = ji49 := fun h_ => (i64_w _).symm.trans (hji49z h_)
                      have H' := Aside0.mk H
                      clear H; have hcz50_0 := bc (.slice (some ad145) l0.length c0) BK131 0; have hfz50_0 := blk_frozen BK131.out 0
                      have p151 : 0 ≤ ((rd t143 x43_3) : Int) := of_decide_eq_true ax8
                      have q151 : (rd t143 x43_3) < (l0.length : Int) := of_decide_eq_true ax8
                      obtain ⟨ad151, e151, hx151_0⟩ := Kd.at_int HR0.out (rd t143 x43_3) p151 q151
                      obtain rfl : ad145 = ad151 := (by injection e151)
                      replace hx151_0 := (HB.out.cell (World.block_lt_of_cell? w _ hx151_0)).trans hx151_0; replace p151 := eq_true p151; replace q151 := eq_true q151
                      go_wp2
                      (try simp only [← hl41_3])
                      go_roundg k4
                      case measure => have := HJ2.out; have := HK2.out; have := HK3.out; have := HK4.out; omega
                      case rel => exact ⟨(x7_4), (wrap64 (x8_3 + (ji49))), (wrap64 (x43_3 + 1)), (by first | rfl | (simp; done) | (simp only [← hji49] <;> (first | rfl | simp)) | (simp [*]; done)), ax6, H', ⟨ax27⟩, ⟨ax24⟩, ⟨ax25⟩, ⟨ax26⟩, ⟨ax17⟩⟩
                     ·rw [if_neg c48] at H
                      exact absurd H (by simp)
                    ·rw [if_neg c46] at H
                     exact absurd H (by simp)
                   ·rw [if_neg c45] at H
                    exact absurd H (by simp)
               ·rw [if_neg c28] at H
                exact absurd H (by simp)
              ·rw [if_neg c27] at H
               exact absurd H (by simp)
             ·rw [if_neg c26] at H
              exact absurd H (by simp)
            ·rw [if_neg c25] at H
             exact absurd H (by simp)
           ·rw [if_neg c24] at H
            have c24b0 : decide (x43_3 < (x6_2.length : Int)) = false := decide_eq_false c24
            have c24b9 := Int.not_lt.1 c24; clear c24
            simp only [Option.some.injEq, Prod.mk.injEq] at H
            obtain ⟨rfl, rfl⟩ := H
            go_wp2
            go_ret2
            exact ⟨_, by first | rfl | (simp [errW_none, errW_some] <;> rfl) | (simp [*, errW_none, errW_some] <;> rfl), by (with_reducible repeat (first | apply Kd.R_alloc | apply Kd.R_drewN | apply Kd.R_drew)); exact HO_7.out, by repeat (first | (with_reducible first | exact HB.out | apply below_alloc | apply pw_below_drewN | apply below_drew1 | refine below_set ?_ GE131.out) | exact HB.out)⟩
     ·rw [if_neg c10] at H
      exact absurd H (by simp)
    ·rw [if_neg c9] at H
     exact absurd H (by simp)

end Go.Proofs.Ytknonolfgpknjaa.X

-- By gen.py (the session's own program over the kit's printer): functions of the program, each with its contract. Lean checks it.
import Derived.Test.YtnjjchbhbicmoaaDoorX0
import Derived.Test.YtnjjchbhbicmoaaDoorX3
import Derived.Test.YtnjjchbhbicmoaaDoorX5
namespace Go.Proofs.YtnjjchbhbicmoaaDoor.X
open Go.RowKit Go.Proofs.YtnjjchbhbicmoaaDoorW.PrintWords Go.Proofs.YtnjjchbhbicmoaaDoorW.PrintLast Go.Proofs.YtnjjchbhbicmoaaDoorW.PrintMore
attribute [local go_sem] max2_int min2_int max_two min_two max_three min_three max_four min_four   -- for this text's walks alone
set_option linter.unusedVariables false
set_option linter.unusedSimpArgs false

/-! ### spec_l12Open: function 47 -/
mutual
def spec_l12Open.l0 : Nat → ByteArray → List (S33) → Int → Option ((List (S33)) × Int)
 | 0, _, _, _ => none
 | k + 1, x0, x4, x5 => if x5 < (x0.size : Int) then (spec_l12Open.j1 k x0 x4 x5 (decide ((x4.length : Int) < 40))) else (spec_l12Open.j1 k x0 x4 x5 false)
def spec_l12Open.j1 : Nat → ByteArray → List (S33) → Int → Bool → Option ((List (S33)) × Int)
 | 0, _, _, _, _ => none
 | k + 1, x0, x4, x5, x18 => if x18 = true then (if 0 ≤ x5 then (if x5 ≤ (x0.size : Int) then ((spec_l1Split.f k (x0.extract (x5 : Int).toNat x0.size) 10).bind fun t141 => (if 0 < (t141.length : Int) then ((spec_l12Decode.f k (rdOf ByteArray.empty t141 0) (x4.length : Int)).bind fun bt145 => (if (t141.length : Int) < 2 then (some (x4, x5)) else (if bt145.2.2 = true then (if x4.length < 4398046511104 then (spec_l12Open.l0 k x0 (x4 ++ [(⟨bt145.1, bt145.2.1⟩ : S33)]) (wrap64 ((wrap64 (x5 + ((rdOf ByteArray.empty t141 0).size : Int))) + 1))) else (none)) else (some (x4, x5))))) else (none))) else (none)) else (none)) else (some (x4, x5))
end
def spec_l12Open.f (k : Nat) (a0 : ByteArray) : Option ((List (S33)) × Int) := spec_l12Open.l0 k a0 (([] : List (S33))) 0
theorem spec_l12Open.mono_l : ∀ k, (∀ y0 y1 y2, LeO (spec_l12Open.l0 k y0 y1 y2) (spec_l12Open.l0 (k + 1) y0 y1 y2)) ∧ (∀ y0 y1 y2 y3, LeO (spec_l12Open.j1 k y0 y1 y2 y3) (spec_l12Open.j1 (k + 1) y0 y1 y2 y3))
 | 0 => ⟨fun _ _ _ r h => by simp [spec_l12Open.l0] at h, fun _ _ _ _ r h => by simp [spec_l12Open.j1] at h⟩
 | k + 1 => by
  obtain ⟨ih0, ih1⟩ := spec_l12Open.mono_l k
  refine ⟨?_, ?_⟩ <;> intros
  all_goals (first | unfold spec_l12Open.l0 | unfold spec_l12Open.j1)
  all_goals (repeat' first | (with_reducible first | exact ih0 .. | exact ih1 .. | exact spec_l12Decode.mono .. | exact spec_l1Split.mono .. | exact LeO.refl _ | exact LeO.none _ | refine LeO.ite ?_ ?_ | refine LeO.bind ?_ (fun _ => ?_)) | exact ih0 .. | exact ih1 .. | exact spec_l12Decode.mono .. | exact spec_l1Split.mono .. | exact LeO.none _ | refine LeO.ite ?_ ?_ | refine LeO.bind ?_ (fun _ => ?_))
theorem spec_l12Open.mono : ∀ a0 k, LeO (spec_l12Open.f k a0) (spec_l12Open.f (k + 1) a0) := by
 intro a0 k
 obtain ⟨ih0, ih1⟩ := spec_l12Open.mono_l k
 unfold spec_l12Open.f
 repeat' first | (with_reducible first | exact ih0 .. | exact ih1 .. | exact spec_l12Decode.mono .. | exact spec_l1Split.mono .. | exact LeO.refl _ | exact LeO.none _ | refine LeO.ite ?_ ?_ | refine LeO.bind ?_ (fun _ => ?_)) | exact ih0 .. | exact ih1 .. | exact spec_l12Decode.mono .. | exact spec_l1Split.mono .. | exact LeO.none _ | refine LeO.ite ?_ ?_ | refine LeO.bind ?_ (fun _ => ?_)
set_option maxHeartbeats 8000000 in
set_option maxRecDepth 100000 in
theorem spec_l12Open.calls (k : Nat) (a0 : ByteArray) (r1 : List (S33)) (r2 : Int) (w : World) (h : spec_l12Open.f k a0 = some (r1, r2)) :
  Calls Tryd.prog 47 #[.string a0] w fun e w' => ∃ v0_ : Value, e = .returned (.tuple #[v0_, .int .i64 r2]) ∧ Kd.R k33 33 w' w.heap.size (fun _ => True) v0_ r1 ∧ Below w.heap.size w w' := by
 have hu33 := Tryd.underlying33; have HB := Aside0.mk (Below.refl w.heap.size w)
 have H : (spec_l12Open.l0 k a0 (([] : List (S33))) 0) = some (r1, r2) := h
 clear h
 obtain ⟨y138, hy138⟩ : ∃ y_ : List (S33), y_ = (([] : List (S33))) := ⟨_, rfl⟩
 replace H : (spec_l12Open.l0 k a0 y138 0) = some (r1, r2) := by first | (rw [hy138]; with_reducible exact H) | (have H2_ := (Option.bind_some _ _).symm.trans H; rw [hy138]; with_reducible exact H2_) | (have H2_ := (Option.bind_some _ _).symm.trans H; with_reducible exact H2_) | with_reducible exact H | (rw [hy138]; exact H) | exact H
 have Ny138 := Aside0.mk hy138; clear hy138
 have H' := Aside0.mk H
 clear H
 go_enter Tryd.func47, Tryd.ntmps47
 go_wp2_with (first | ((with_reducible refine gate_dst (N := 9) rfl ?_); (try (refine gate_guard (by rfl) ?_; dsimp only)); refine Kd.R_lit k33 _ 33 ?hg (N := 9) ?hd (xs := ([] : List (S33))) (inner := []) (ok := fun _ => True) (okp := fun _ => True) ?hr ?hp (fun _ hk => hk) trivial (Below.refl _ _) (Nat.le_refl _) (by simp) ?_; (case hd => rfl); (case hg => rfl); (case hr => exact ax9); (case hp => exact (Reps.none _ _)); intro v139 w2 ho3 hb hg_ hnew_; clear hg_ hnew_; (first | rw [← Ny138.out] at ho3 | (simp only [Int.reduceToNat] at ho3; rw [← Ny138.out] at ho3)); have HO140 := uL ho3 HB; replace HB := uB HB hb; clear hb ho3))
 go_loopg [4, 5] k (fun kq v4 v5 w' => ∃ (x4_1 : List (S33)) (x5_1 : Int), v5 = .int .i64 x5_1 ∧ Aside0 (spec_l12Open.l0 kq a0 x4_1 x5_1 = some (r1, r2)) ∧ Aside0 (kq ≤ k) ∧ Aside0 (Kd.R k33 33 w' w.heap.size (fun _ => True) v4 x4_1) ∧ Aside0 (Below w.heap.size w w'))
 case atStart => exact ⟨(y138), (0), ax10, H', ⟨Nat.le_refl _⟩, ⟨(by (with_reducible repeat (first | apply Kd.R_alloc | apply Kd.R_drewN | apply Kd.R_drew)); exact HO140.out)⟩, ⟨ax11⟩⟩
 case round =>
  clear H'
  try clear p2
  obtain ⟨x4_1, x5_1, rfl, HA, HK1, HO_4, HB⟩ := hrel
  cases gk with
  | zero => exact absurd HA.out (by simp [spec_l12Open.l0])
  | succ k1 =>
   have H := HA.out; clear HA
   simp only [spec_l12Open.l0] at H
   have HC4 := Aside0.mk H; clear H
   go_upto_region 3 with (fail)
   go_cut [18] (fun v18 wc => ∃ (kq : Nat) (x18_3 : Bool), v18 = .bool x18_3 ∧ Aside0 (spec_l12Open.j1 kq a0 x4_1 x5_1 x18_3 = some (r1, r2)) ∧ Aside0 (kq ≤ k1) ∧ Aside0 (Kd.R k33 33 wc w.heap.size (fun _ => True) u4 x4_1) ∧ Aside0 (Below w.heap.size w wc))
   case first =>
    have H := HC4.out; clear HC4
    by_cases c5 : x5_1 < (a0.size : Int)
    ·rw [if_pos c5] at H
     have c5b0 : decide (x5_1 < (a0.size : Int)) = true := decide_eq_true c5
     clear c5
     (first | rw [c5b0] | (simp only [i64_w, i32_w]; rw [c5b0]) | skip)
     have H' := Aside0.mk H
     clear H
     obtain ⟨Ao6, co6, eo6⟩ := Kd.R_slice HO_4.out
     subst eo6
     go_wp2
     go_meet
     case rel => exact ⟨_, (decide ((x4_1.length : Int) < 40)), ax10, H', ⟨ax33⟩, ⟨ax34⟩, ⟨ax11⟩⟩
    ·rw [if_neg c5] at H
     have c5b0 : decide (x5_1 < (a0.size : Int)) = false := decide_eq_false c5
     clear c5
     (first | rw [c5b0] | (simp only [i64_w, i32_w]; rw [c5b0]) | skip)
     have H' := Aside0.mk H
     clear H
     go_wp2
     go_meet
     case rel => exact ⟨_, (false), ax10, H', ⟨ax33⟩, ⟨ax34⟩, ⟨ax11⟩⟩
   case rest =>
    clear HC4
    try clear p2
    try clear c4
    try clear c5
    try clear c5b0
    try clear p2
    obtain ⟨kq, x18_3, rfl, HA, HJ3, HO_4, HB⟩ := hcut
    cases kq with
    | zero => exact absurd HA.out (by simp [spec_l12Open.j1])
    | succ kj3 =>
     have H := HA.out; clear HA
     simp only [spec_l12Open.j1] at H
     by_cases c7 : x18_3 = true
     ·subst c7
      rw [if_pos rfl] at H
      by_cases c8 : 0 ≤ x5_1
      ·rw [if_pos c8] at H
       have c8b0 := eq_true c8
       have c8b1 : decide (0 ≤ x5_1) = true := decide_eq_true c8
       clear c8
       by_cases c9 : x5_1 ≤ (a0.size : Int)
       ·rw [if_pos c9] at H
        have c9b0 := eq_true c9
        have c9b1 : decide (x5_1 ≤ (a0.size : Int)) = true := decide_eq_true c9
        clear c9
        obtain ⟨js10, hjs10⟩ : ∃ j_ : ByteArray, (a0.extract (x5_1 : Int).toNat a0.size) = j_ := ⟨_, rfl⟩
        replace H : ((spec_l1Split.f kj3 js10 10).bind fun t141 => (if 0 < (t141.length : Int) then ((spec_l12Decode.f kj3 (rdOf ByteArray.empty t141 0) (x4_1.length : Int)).bind fun bt145 => (if (t141.length : Int) < 2 then (some (x4_1, x5_1)) else (if bt145.2.2 = true then (if x4_1.length < 4398046511104 then (spec_l12Open.l0 kj3 a0 (x4_1 ++ [(⟨bt145.1, bt145.2.1⟩ : S33)]) (wrap64 ((wrap64 (x5_1 + ((rdOf ByteArray.empty t141 0).size : Int))) + 1))) else (none)) else (some (x4_1, x5_1))))) else (none))) = some (r1, r2) := by first | (rw [hjs10] at H; exact H) | (simp only [hjs10] at H ⊢; exact H)
        obtain ⟨t141, A11, H⟩ := bs H
        by_cases c12 : 0 < (t141.length : Int)
        ·rw [if_pos c12] at H
         have c12b0 : decide (0 < (t141.length : Int)) = true := decide_eq_true c12
         have c12b1 : decide (0 < t141.length) = true := decide_eq_true (by omega)
         clear c12
         obtain ⟨⟨t145, t146, t147⟩, A13, H⟩ := bs H
         by_cases c14 : (t141.length : Int) < 2
         ·rw [if_pos c14] at H
          have c14b0 : decide ((t141.length : Int) < 2) = true := decide_eq_true c14
          have c14b1 : decide (t141.length < 2) = true := decide_eq_true (by omega)
          clear c14
          simp only [Option.some.injEq, Prod.mk.injEq] at H
          obtain ⟨rfl, rfl⟩ := H
          go_wp2_with (first | (refine gd 22 61 ?_; refine gc 22 Tryd.func61 #[.string js10, .int .u8 10] (spec_l1Split.calls kj3 js10 10 t141 _ A11.out) ?_; rintro e w15 ⟨v142, rfl, ho0, hb⟩; refine ⟨_, rfl, ?_⟩; replace HO_4 := uR HO_4 hb; have HO143 := uL ho0 HB; replace HB := uB HB hb; (try clear hb); (try clear hb2); (try clear hk); (try clear hi); (try clear ho0); obtain ⟨Ao16, co16, eo16⟩ := Kd.R_slice HO143.out; subst eo16; have p144 : 0 ≤ (0 : Int) := (by omega); have q144 : 0 < (t141.length : Int) := of_decide_eq_true ax12; obtain ⟨ad144, e144, hx144_0⟩ := Kd.at_string (Kd.R_reads' HO143.out).2.2 0 p144 q144; cases e144; have qi144 : (0 < t141.length) = True := eq_true (by omega); (try rw [show ((0 : Int)).toNat = 0 from rfl] at hx144_0); (try rw [Addr.add_zero'] at hx144_0); replace p144 := eq_true p144; replace q144 := eq_true q144; obtain ⟨Ao17, co17, eo17⟩ := Kd.R_slice HO_4.out; subst eo17) | (refine gd 29 62 ?_; refine gc 29 Tryd.func62 #[.string (rdOf ByteArray.empty t141 0), .int .i64 (x4_1.length : Int)] (spec_l12Decode.calls kj3 (rdOf ByteArray.empty t141 0) (x4_1.length : Int) t145 t146 t147 _ A13.out) ?_; rintro e w18 ⟨rfl, hb⟩; refine ⟨_, rfl, ?_⟩; replace HO_4 := uR HO_4 hb; replace HO143 := uR HO143 hb; replace HB := uB HB hb; (try clear hb); (try clear hb2); (try clear hk); (try clear hi)) | ((with_reducible refine gate_dst (N := 7) rfl ?_); (try (refine gate_guard (by rfl) ?_; dsimp only)); refine box_event ?hg (N := 7) ?hd (cs := #[.string (⟨#[]⟩ : ByteArray), .string (⟨#[]⟩ : ByteArray)]) (t := 33) ?hr ?_; (case hd => rfl); (case hg => rfl); (case hr => exact ax9); intro gb148 hg w19 hbox hb; replace HO_4 := Aside0.mk (Kd.R_below (Kd.R_elderB ax34 gb148 (Nat.le_of_eq hg.symm)) hb); replace HO143 := uR HO143 hb; have BK148 := Aside0.mk (hbox); have GW148 := uG hg HB; have GE148 := uG hg HB; replace HB := uB HB hb; clear hb hbox hg; have hcz20_0 := bc (.string (⟨#[]⟩ : ByteArray)) BK148 0; have hcz20_1 := bc (.string (⟨#[]⟩ : ByteArray)) BK148 1; have hfz20_0 := blk_frozen BK148.out 0; have hfz20_1 := blk_frozen BK148.out 1))
          go_ret2
          exact ⟨_, by first | rfl | (simp [errW_none, errW_some] <;> rfl) | (simp only [← hjs10]; first | rfl | (simp [errW_none, errW_some] <;> rfl)) | (simp [*, errW_none, errW_some] <;> rfl), by (with_reducible repeat (first | apply Kd.R_alloc | apply Kd.R_drewN | apply Kd.R_drew)); exact Kd.R_mono (Kd.R_far (p := ⟨gb148, 1, none⟩) (Kd.R_far (p := ⟨gb148, 0, none⟩) (Kd.R_mono HO_4.out (fun k_ hk => (⟨hk, hk.2⟩ : _ ∧ k_ ≠ gb148))) (fun _ hk => hk.2) (.string t145)) (fun _ hk => hk.2) (.string t146)) (fun _ hk => trivial), by repeat (first | (with_reducible first | exact HB.out | apply below_alloc | apply pw_below_drewN | apply below_drew1 | refine below_set ?_ GE148.out) | exact HB.out)⟩
         ·rw [if_neg c14] at H
          have c14b0 : decide ((t141.length : Int) < 2) = false := decide_eq_false c14
          have c14b1 : decide (t141.length < 2) = false := decide_eq_false (by omega)
          clear c14
          by_cases c21 : t147 = true
          ·subst c21
           rw [if_pos rfl] at H
           by_cases c22 : x4_1.length < 4398046511104
           ·rw [if_pos c22] at H
            have LMc22 := Aside0.mk c22; clear c22
            obtain ⟨y149, hy149⟩ : ∃ y_ : List (S33), y_ = (x4_1 ++ [(⟨t145, t146⟩ : S33)]) := ⟨_, rfl⟩
            replace H : (spec_l12Open.l0 kj3 a0 y149 (wrap64 ((wrap64 (x5_1 + ((rdOf ByteArray.empty t141 0).size : Int))) + 1))) = some (r1, r2) := by first | (rw [hy149]; with_reducible exact H) | (have H2_ := (Option.bind_some _ _).symm.trans H; rw [hy149]; with_reducible exact H2_) | (have H2_ := (Option.bind_some _ _).symm.trans H; with_reducible exact H2_) | with_reducible exact H | (rw [hy149]; exact H) | exact H
            have Ny149 := Aside0.mk hy149; clear hy149
            have H' := Aside0.mk H
            clear H
            go_wp2_with (first | (refine gd 22 61 ?_; refine gc 22 Tryd.func61 #[.string js10, .int .u8 10] (spec_l1Split.calls kj3 js10 10 t141 _ A11.out) ?_; rintro e w23 ⟨v142, rfl, ho0, hb⟩; refine ⟨_, rfl, ?_⟩; replace HO_4 := uR HO_4 hb; have HO143 := uL ho0 HB; replace HB := uB HB hb; (try clear hb); (try clear hb2); (try clear hk); (try clear hi); (try clear ho0); obtain ⟨Ao24, co24, eo24⟩ := Kd.R_slice HO143.out; subst eo24; have p144 : 0 ≤ (0 : Int) := (by omega); have q144 : 0 < (t141.length : Int) := of_decide_eq_true ax12; obtain ⟨ad144, e144, hx144_0⟩ := Kd.at_string (Kd.R_reads' HO143.out).2.2 0 p144 q144; cases e144; have qi144 : (0 < t141.length) = True := eq_true (by omega); (try rw [show ((0 : Int)).toNat = 0 from rfl] at hx144_0); (try rw [Addr.add_zero'] at hx144_0); replace p144 := eq_true p144; replace q144 := eq_true q144; obtain ⟨Ao25, co25, eo25⟩ := Kd.R_slice HO_4.out; subst eo25) | (refine gd 29 62 ?_; refine gc 29 Tryd.func62 #[.string (rdOf ByteArray.empty t141 0), .int .i64 (x4_1.length : Int)] (spec_l12Decode.calls kj3 (rdOf ByteArray.empty t141 0) (x4_1.length : Int) t145 t146 true _ A13.out) ?_; rintro e w26 ⟨rfl, hb⟩; refine ⟨_, rfl, ?_⟩; replace HO_4 := uR HO_4 hb; replace HO143 := uR HO143 hb; replace HB := uB HB hb; (try clear hb); (try clear hb2); (try clear hk); (try clear hi)) | ((with_reducible refine gate_dst (N := 7) rfl ?_); (try (refine gate_guard (by rfl) ?_; dsimp only)); refine box_event ?hg (N := 7) ?hd (cs := #[.string (⟨#[]⟩ : ByteArray), .string (⟨#[]⟩ : ByteArray)]) (t := 33) ?hr ?_; (case hd => rfl); (case hg => rfl); (case hr => exact ax9); intro gb148 hg w27 hbox hb; replace HO_4 := Aside0.mk (Kd.R_below (Kd.R_elderB ax34 gb148 (Nat.le_of_eq hg.symm)) hb); replace HO143 := uR HO143 hb; have BK148 := Aside0.mk (hbox); have GW148 := uG hg HB; have GE148 := uG hg HB; replace HB := uB HB hb; clear hb hbox hg; have hcz28_0 := bc (.string (⟨#[]⟩ : ByteArray)) BK148 0; have hcz28_1 := bc (.string (⟨#[]⟩ : ByteArray)) BK148 1; have hfz28_0 := blk_frozen BK148.out 0; have hfz28_1 := blk_frozen BK148.out 1) | ((with_reducible refine gate_builtin (b := .append) (xs := #[.tmp 39, .tmp 41]) rfl ?_); (try (refine gate_guard (by rfl) ?_; dsimp only)); at_builtin; refine Kd.R_append k33 (w0 := w) w.heap.size rfl (.tmp 39) (.tmp 41) 48 33 (.agg #[(.string ⟨#[]⟩), (.string ⟨#[]⟩)]) 32 rfl Tryd.underlying48 info33 rfl (by decide) (by omega) (.slice Ao25 x4_1.length co25) x4_1 (⟨t145, t146⟩ : S33) [.string t145, .string t146] (fun k_ => k_ ≠ gb148) (fun _ => False) rfl ax9 ?aP (fun _ hk => hk.elim) ?aF ?aO ?aB ?aS ?aL ?_; (case aP => exact k33_mkM _ _ _ (⟨t145, t146⟩ : S33)); (case aB => exact ax35); (case aF => exact (fun k_ hk => Kd.freshB (g := gb148) (o := .cells #[.string t145, .string t146] 33 (0, 0)) ax36 k_ hk)); (case aO => exact (by (with_reducible repeat (first | apply Kd.R_alloc | apply Kd.R_drewN | apply Kd.R_drew)); exact Kd.R_mono (Kd.R_far (p := ⟨gb148, 1, none⟩) (Kd.R_far (p := ⟨gb148, 0, none⟩) (Kd.R_mono HO_4.out (fun k_ hk => (⟨hk, hk.2⟩ : _ ∧ k_ ≠ gb148))) (fun _ hk => hk.2) (.string t145)) (fun _ hk => hk.2) (.string t146)) (fun _ hk => hk.1.2))); (case aS => exact (below_size ax35)); (case aL => have := LMc22.out; omega); intro v150 w29 ho hb hg hat; rw [← Ny149.out] at ho; have n0_ := Aside0.mk (Kd.R_over' (by (with_reducible repeat (first | apply Kd.R_alloc | apply Kd.R_drewN | apply Kd.R_drew)); exact (Kd.R_mono (Kd.R_far (p := ⟨gb148, 1, none⟩) (Kd.R_far (p := ⟨gb148, 0, none⟩) (Kd.R_types HO143.out BK148.out (by decide)) (fun _ hk => hk.2) (.string t145)) (fun _ hk => hk.2) (.string t146)) (fun _ h_ => h_.1))) (Kd.R_typed (by (with_reducible repeat (first | apply Kd.R_alloc | apply Kd.R_drewN | apply Kd.R_drew)); exact (Kd.R_mono (Kd.R_far (p := ⟨gb148, 1, none⟩) (Kd.R_far (p := ⟨gb148, 0, none⟩) (Kd.R_mono HO_4.out (fun k_ hk => (⟨hk, hk.2⟩ : _ ∧ k_ ≠ gb148))) (fun _ hk => hk.2) (.string t145)) (fun _ hk => hk.2) (.string t146)) (fun _ h_ => h_.1)))) (by decide) hg); have n1_ := Aside0.mk (blk_grown (g := gb148) (o := .cells #[.string t145, .string t146] 33 (0, 0)) ax36 hg (Kd.R_away HO_4.out (fun _ hk => hk.2))); have n2_ := Aside0.mk (hb); have n3_ := Aside0.mk (ho); clear HO143; clear BK148; clear HB; clear HO_4; have HO143 := n0_; have BK148 := n1_; have HB := n2_; have HO151 := n3_; clear n0_ n1_ n2_ n3_; clear ho hb hg hat; have p152 : 0 ≤ (0 : Int) := (by omega); have q152 : 0 < (t141.length : Int) := of_decide_eq_true ax12; obtain ⟨ad152, e152, hx152_0⟩ := Kd.at_string (Kd.R_reads' HO143.out).2.2 0 p152 q152; obtain rfl : ad144 = ad152 := (by injection e152); have qi152 : (0 < t141.length) = True := eq_true (by omega); (try rw [show ((0 : Int)).toNat = 0 from rfl] at hx152_0); (try rw [Addr.add_zero'] at hx152_0); replace p152 := eq_true p152; replace q152 := eq_true q152))
            go_roundg kj3
            case measure => have := HK1.out; have := HJ3.out; omega
            case rel => exact ⟨(y149), (wrap64 ((wrap64 (x5_1 + ((rdOf ByteArray.empty t141 0).size : Int))) + 1)), ax10, H', ⟨(by have := HK1.out; have := HJ3.out; omega)⟩, ⟨(by (with_reducible repeat (first | apply Kd.R_alloc | apply Kd.R_drewN | apply Kd.R_drew)); exact Kd.R_mono HO151.out (fun _ hk => trivial))⟩, ⟨ax35⟩⟩
           ·rw [if_neg c22] at H
            exact absurd H (by simp)
          ·replace c21 := Bool.eq_false_iff.mpr c21
           subst c21
           rw [if_neg (show ¬ (false = true) by decide)] at H
           simp only [Option.some.injEq, Prod.mk.injEq] at H
           obtain ⟨rfl, rfl⟩ := H
           go_wp2_with (first | (refine gd 22 61 ?_; refine gc 22 Tryd.func61 #[.string js10, .int .u8 10] (spec_l1Split.calls kj3 js10 10 t141 _ A11.out) ?_; rintro e w30 ⟨v142, rfl, ho0, hb⟩; refine ⟨_, rfl, ?_⟩; replace HO_4 := uR HO_4 hb; have HO143 := uL ho0 HB; replace HB := uB HB hb; (try clear hb); (try clear hb2); (try clear hk); (try clear hi); (try clear ho0); obtain ⟨Ao31, co31, eo31⟩ := Kd.R_slice HO143.out; subst eo31; have p144 : 0 ≤ (0 : Int) := (by omega); have q144 : 0 < (t141.length : Int) := of_decide_eq_true ax12; obtain ⟨ad144, e144, hx144_0⟩ := Kd.at_string (Kd.R_reads' HO143.out).2.2 0 p144 q144; cases e144; have qi144 : (0 < t141.length) = True := eq_true (by omega); (try rw [show ((0 : Int)).toNat = 0 from rfl] at hx144_0); (try rw [Addr.add_zero'] at hx144_0); replace p144 := eq_true p144; replace q144 := eq_true q144; obtain ⟨Ao32, co32, eo32⟩ := Kd.R_slice HO_4.out; subst eo32) | (refine gd 29 62 ?_; refine gc 29 Tryd.func62 #[.string (rdOf ByteArray.empty t141 0), .int .i64 (x4_1.length : Int)] (spec_l12Decode.calls kj3 (rdOf ByteArray.empty t141 0) (x4_1.length : Int) t145 t146 false _ A13.out) ?_; rintro e w33 ⟨rfl, hb⟩; refine ⟨_, rfl, ?_⟩; replace HO_4 := uR HO_4 hb; replace HO143 := uR HO143 hb; replace HB := uB HB hb; (try clear hb); (try clear hb2); (try clear hk); (try clear hi)) | ((with_reducible refine gate_dst (N := 7) rfl ?_); (try (refine gate_guard (by rfl) ?_; dsimp only)); refine box_event ?hg (N := 7) ?hd (cs := #[.string (⟨#[]⟩ : ByteArray), .string (⟨#[]⟩ : ByteArray)]) (t := 33) ?hr ?_; (case hd => rfl); (case hg => rfl); (case hr => exact ax9); intro gb148 hg w34 hbox hb; replace HO_4 := Aside0.mk (Kd.R_below (Kd.R_elderB ax34 gb148 (Nat.le_of_eq hg.symm)) hb); replace HO143 := uR HO143 hb; have BK148 := Aside0.mk (hbox); have GW148 := uG hg HB; have GE148 := uG hg HB; replace HB := uB HB hb; clear hb hbox hg; have hcz35_0 := bc (.string (⟨#[]⟩ : ByteArray)) BK148 0; have hcz35_1 := bc (.string (⟨#[]⟩ : ByteArray)) BK148 1; have hfz35_0 := blk_frozen BK148.out 0; have hfz35_1 := blk_frozen BK148.out 1))
           go_ret2
           exact ⟨_, by first | rfl | (simp [errW_none, errW_some] <;> rfl) | (simp only [← hjs10]; first | rfl | (simp [errW_none, errW_some] <;> rfl)) | (simp [*, errW_none, errW_some] <;> rfl), by (with_reducible repeat (first | apply Kd.R_alloc | apply Kd.R_drewN | apply Kd.R_drew)); exact Kd.R_mono (Kd.R_far (p := ⟨gb148, 1, none⟩) (Kd.R_far (p := ⟨gb148, 0, none⟩) (Kd.R_mono HO_4.out (fun k_ hk => (⟨hk, hk.2⟩ : _ ∧ k_ ≠ gb148))) (fun _ hk => hk.2) (.string t145)) (fun _ hk => hk.2) (.string t146)) (fun _ hk => trivial), by repeat (first | (with_reducible first | exact HB.out | apply below_alloc | apply pw_below_drewN | apply below_drew1 | refine below_set ?_ GE148.out) | exact HB.out)⟩
        ·rw [if_neg c12] at H
         exact absurd H (by simp)
       ·rw [if_neg c9] at H
        exact absurd H (by simp)
      ·rw [if_neg c8] at H
       exact absurd H (by simp)
     ·replace c7 := Bool.eq_false_iff.mpr c7
      subst c7
      rw [if_neg (show ¬ (false = true) by decide)] at H
      simp only [Option.some.injEq, Prod.mk.injEq] at H
      obtain ⟨rfl, rfl⟩ := H
      go_wp2
      go_ret2
      exact ⟨_, by first | rfl | (simp [errW_none, errW_some] <;> rfl) | (simp [*, errW_none, errW_some] <;> rfl), by (with_reducible repeat (first | apply Kd.R_alloc | apply Kd.R_drewN | apply Kd.R_drew)); exact HO_4.out, by repeat (first | (with_reducible first | exact HB.out | apply below_alloc | apply pw_below_drewN | apply below_drew1) | exact HB.out)⟩

/-! ### spec_l12Valid: function 33 -/
def spec_l12Valid.f (k : Nat) (a0_0 : ByteArray) (a0_1 : ByteArray) (a0_2 : Int) : Option (Bool) := if (wrap64 ((a0_0.size : Int) + (a0_1.size : Int))) > 30000 then (some false) else (if a0_0.size + a0_1.size ≤ 9223372036854775807 then ((spec_l12Open.f k (a0_0 ++ a0_1)).bind fun bt154 => ((spec_l12Open.f k a0_0).bind fun bt158 => (if bt154.2 = (wrap64 ((a0_0.size : Int) + (a0_1.size : Int))) then (if bt158.2 = (a0_0.size : Int) then (some ((bt154.1.length : Int) == a0_2)) else (some false)) else (some false)))) else (none))
theorem spec_l12Valid.mono : ∀ a0 a1 a2 k, LeO (spec_l12Valid.f k a0 a1 a2) (spec_l12Valid.f (k + 1) a0 a1 a2) := by
 intro a0 a1 a2 k
 unfold spec_l12Valid.f
 repeat' first | (with_reducible first | exact spec_l12Open.mono .. | exact LeO.refl _ | exact LeO.none _ | refine LeO.ite ?_ ?_ | refine LeO.bind ?_ (fun _ => ?_)) | exact spec_l12Open.mono .. | exact LeO.none _ | refine LeO.ite ?_ ?_ | refine LeO.bind ?_ (fun _ => ?_)
set_option maxHeartbeats 8000000 in
set_option maxRecDepth 100000 in
theorem spec_l12Valid.calls (k : Nat) (a0_0 : ByteArray) (a0_1 : ByteArray) (a0_2 : Int) (r : Bool) (w : World) (h : spec_l12Valid.f k a0_0 a0_1 a0_2 = some r) :
  Calls Tryd.prog 33 #[.agg #[.string a0_0, .string a0_1, .int .i64 a0_2]] w fun e w' => e = .returned (.bool r) ∧ Below w.heap.size w w' := by
 have hu27 := Tryd.underlying27; have HB := Aside0.mk (Below.refl w.heap.size w)
 have H : (if (wrap64 ((a0_0.size : Int) + (a0_1.size : Int))) > 30000 then (some false) else (if a0_0.size + a0_1.size ≤ 9223372036854775807 then ((spec_l12Open.f k (a0_0 ++ a0_1)).bind fun bt154 => ((spec_l12Open.f k a0_0).bind fun bt158 => (if bt154.2 = (wrap64 ((a0_0.size : Int) + (a0_1.size : Int))) then (if bt158.2 = (a0_0.size : Int) then (some ((bt154.1.length : Int) == a0_2)) else (some false)) else (some false)))) else (none))) = some r := h
 clear h
 by_cases c2 : (wrap64 ((a0_0.size : Int) + (a0_1.size : Int))) > 30000
 ·rw [if_pos c2] at H
  have c2b0 : decide (30000 < (wrap64 ((a0_0.size : Int) + (a0_1.size : Int)))) = true := decide_eq_true c2
  clear c2
  obtain rfl := Option.some.inj H
  go_enter Tryd.func33, Tryd.ntmps33
  go_wp2_with (first | ((with_reducible refine gate_dst (N := 1) rfl ?_); (try (refine gate_guard (by rfl) ?_; dsimp only)); refine box_event ?hg (N := 1) ?hd (cs := #[.string a0_0, .string a0_1, .int .i64 a0_2]) (t := 27) ?hr ?_; (case hd => rfl); (case hg => rfl); (case hr => exact ax9); intro gb153 hg w3 hbox hb; have BK153 := Aside0.mk (hbox); have GW153 := uG hg HB; have GE153 := uG hg HB; replace HB := uB HB hb; clear hb hbox hg; have hcz4_0 := bc (.string a0_0) BK153 0; have hcz4_1 := bc (.string a0_1) BK153 1; have hcz4_2 := bc (.int .i64 a0_2) BK153 2; have hfz4_0 := blk_frozen BK153.out 0; have hfz4_1 := blk_frozen BK153.out 1; have hfz4_2 := blk_frozen BK153.out 2))
  go_ret
  exact ⟨ax18, by repeat (first | (with_reducible first | exact HB.out | apply below_alloc | apply pw_below_drewN | apply below_drew1 | refine below_set ?_ GE153.out) | exact HB.out)⟩
 ·rw [if_neg c2] at H
  have c2b0 : decide (30000 < (wrap64 ((a0_0.size : Int) + (a0_1.size : Int)))) = false := decide_eq_false c2
  clear c2
  by_cases c5 : a0_0.size + a0_1.size ≤ 9223372036854775807
  ·rw [if_pos c5] at H
   have c5b0 := eq_true c5
   have c5b1 : decide (a0_0.size + a0_1.size ≤ 9223372036854775807) = true := decide_eq_true c5
   try have c5b2 : (9223372036854775807 < a0_0.size + a0_1.size) = False := eq_false (Nat.not_lt.2 c5)
   clear c5
   obtain ⟨js6, hjs6⟩ : ∃ j_ : ByteArray, (a0_0 ++ a0_1) = j_ := ⟨_, rfl⟩
   replace H : ((spec_l12Open.f k js6).bind fun bt154 => ((spec_l12Open.f k a0_0).bind fun bt158 => (if bt154.2 = (wrap64 ((a0_0.size : Int) + (a0_1.size : Int))) then (if bt158.2 = (a0_0.size : Int) then (some ((bt154.1.length : Int) == a0_2)) else (some false)) else (some false)))) = some r := by first | (rw [hjs6] at H; exact H) | (simp only [hjs6] at H ⊢; exact H)
   obtain ⟨⟨t154, t155⟩, A7, H⟩ := bs H
   obtain ⟨⟨t158, t159⟩, A8, H⟩ := bs H
   by_cases c9 : t155 = (wrap64 ((a0_0.size : Int) + (a0_1.size : Int)))
   ·rw [if_pos c9] at H
    have c9b0 : (t155 == (wrap64 ((a0_0.size : Int) + (a0_1.size : Int)))) = true := beq_iff_eq.mpr c9
    have c9b1 : (t155 != (wrap64 ((a0_0.size : Int) + (a0_1.size : Int)))) = false := bne_eq_false_iff_eq.mpr c9
    clear c9
    by_cases c10 : t159 = (a0_0.size : Int)
    ·rw [if_pos c10] at H
     have c10b0 : (t159 == (a0_0.size : Int)) = true := beq_iff_eq.mpr c10
     have c10b1 : (t159 != (a0_0.size : Int)) = false := bne_eq_false_iff_eq.mpr c10
     clear c10
     obtain rfl := Option.some.inj H
     go_enter Tryd.func33, Tryd.ntmps33
     go_wp2_with (first | ((with_reducible refine gate_dst (N := 1) rfl ?_); (try (refine gate_guard (by rfl) ?_; dsimp only)); refine box_event ?hg (N := 1) ?hd (cs := #[.string a0_0, .string a0_1, .int .i64 a0_2]) (t := 27) ?hr ?_; (case hd => rfl); (case hg => rfl); (case hr => exact ax9); intro gb153 hg w11 hbox hb; have BK153 := Aside0.mk (hbox); have GW153 := uG hg HB; have GE153 := uG hg HB; replace HB := uB HB hb; clear hb hbox hg; have hcz12_0 := bc (.string a0_0) BK153 0; have hcz12_1 := bc (.string a0_1) BK153 1; have hcz12_2 := bc (.int .i64 a0_2) BK153 2; have hfz12_0 := blk_frozen BK153.out 0; have hfz12_1 := blk_frozen BK153.out 1; have hfz12_2 := blk_frozen BK153.out 2) | (refine gd 21 47 ?_; refine gc 21 Tryd.func47 #[.string js6] (spec_l12Open.calls k js6 t154 t155 _ A7.out) ?_; rintro e w13 ⟨v156, rfl, ho0, hb⟩; refine ⟨_, rfl, ?_⟩; have HO157 := Aside0.mk (Kd.R_lower ho0 (below_size ax37)); replace BK153 := ub BK153 hb; replace HB := Aside0.mk (below_step ax37 hb); (try clear hb); (try clear hb2); (try clear hk); (try clear hi); (try clear ho0); have hcz14_0 := bc (.string a0_0) BK153 0; have hcz14_1 := bc (.string a0_1) BK153 1; have hcz14_2 := bc (.int .i64 a0_2) BK153 2; have hfz14_0 := blk_frozen BK153.out 0; have hfz14_1 := blk_frozen BK153.out 1; have hfz14_2 := blk_frozen BK153.out 2) | (refine gd 27 47 ?_; refine gc 27 Tryd.func47 #[.string a0_0] (spec_l12Open.calls k a0_0 t158 t159 _ A8.out) ?_; rintro e w15 ⟨v160, rfl, ho0, hb⟩; refine ⟨_, rfl, ?_⟩; have HO161 := Aside0.mk (Kd.R_lower (Kd.R_new' ho0 (Kd.R_lt ax38)) (below_size ax37)); replace HO157 := Aside0.mk (Kd.R_elder' ax38 (Kd.R_base ho0) hb); replace BK153 := ub BK153 hb; replace HB := Aside0.mk (below_step ax37 hb); (try clear hb); (try clear hb2); (try clear hk); (try clear hi); (try clear ho0); have hcz16_0 := bc (.string a0_0) BK153 0; have hcz16_1 := bc (.string a0_1) BK153 1; have hcz16_2 := bc (.int .i64 a0_2) BK153 2; have hfz16_0 := blk_frozen BK153.out 0; have hfz16_1 := blk_frozen BK153.out 1; have hfz16_2 := blk_frozen BK153.out 2; obtain ⟨Ao17, co17, eo17⟩ := Kd.R_slice HO157.out; subst eo17))
     go_ret
     exact ⟨ax19, by repeat (first | (with_reducible first | exact HB.out | apply below_alloc | apply pw_below_drewN | apply below_drew1 | refine below_set ?_ GE153.out) | exact HB.out)⟩
    ·rw [if_neg c10] at H
     have c10b0 : (t159 == (a0_0.size : Int)) = false := beq_eq_false_iff_ne.mpr c10
     have c10b1 : (t159 != (a0_0.size : Int)) = true := bne_iff_ne.mpr c10
     obtain rfl := Option.some.inj H
     go_enter Tryd.func33, Tryd.ntmps33
     go_wp2_with (first | ((with_reducible refine gate_dst (N := 1) rfl ?_); (try (refine gate_guard (by rfl) ?_; dsimp only)); refine box_event ?hg (N := 1) ?hd (cs := #[.string a0_0, .string a0_1, .int .i64 a0_2]) (t := 27) ?hr ?_; (case hd => rfl); (case hg => rfl); (case hr => exact ax9); intro gb153 hg w18 hbox hb; have BK153 := Aside0.mk (hbox); have GW153 := uG hg HB; have GE153 := uG hg HB; replace HB := uB HB hb; clear hb hbox hg; have hcz19_0 := bc (.string a0_0) BK153 0; have hcz19_1 := bc (.string a0_1) BK153 1; have hcz19_2 := bc (.int .i64 a0_2) BK153 2; have hfz19_0 := blk_frozen BK153.out 0; have hfz19_1 := blk_frozen BK153.out 1; have hfz19_2 := blk_frozen BK153.out 2) | (refine gd 21 47 ?_; refine gc 21 Tryd.func47 #[.string js6] (spec_l12Open.calls k js6 t154 t155 _ A7.out) ?_; rintro e w20 ⟨v156, rfl, ho0, hb⟩; refine ⟨_, rfl, ?_⟩; have HO157 := Aside0.mk (Kd.R_lower ho0 (below_size ax37)); replace BK153 := ub BK153 hb; replace HB := Aside0.mk (below_step ax37 hb); (try clear hb); (try clear hb2); (try clear hk); (try clear hi); (try clear ho0); have hcz21_0 := bc (.string a0_0) BK153 0; have hcz21_1 := bc (.string a0_1) BK153 1; have hcz21_2 := bc (.int .i64 a0_2) BK153 2; have hfz21_0 := blk_frozen BK153.out 0; have hfz21_1 := blk_frozen BK153.out 1; have hfz21_2 := blk_frozen BK153.out 2) | (refine gd 27 47 ?_; refine gc 27 Tryd.func47 #[.string a0_0] (spec_l12Open.calls k a0_0 t158 t159 _ A8.out) ?_; rintro e w22 ⟨v160, rfl, ho0, hb⟩; refine ⟨_, rfl, ?_⟩; have HO161 := Aside0.mk (Kd.R_lower (Kd.R_new' ho0 (Kd.R_lt ax38)) (below_size ax37)); replace HO157 := Aside0.mk (Kd.R_elder' ax38 (Kd.R_base ho0) hb); replace BK153 := ub BK153 hb; replace HB := Aside0.mk (below_step ax37 hb); (try clear hb); (try clear hb2); (try clear hk); (try clear hi); (try clear ho0); have hcz23_0 := bc (.string a0_0) BK153 0; have hcz23_1 := bc (.string a0_1) BK153 1; have hcz23_2 := bc (.int .i64 a0_2) BK153 2; have hfz23_0 := blk_frozen BK153.out 0; have hfz23_1 := blk_frozen BK153.out 1; have hfz23_2 := blk_frozen BK153.out 2))
     go_ret
     exact ⟨ax19, by repeat (first | (with_reducible first | exact HB.out | apply below_alloc | apply pw_below_drewN | apply below_drew1 | refine below_set ?_ GE153.out) | exact HB.out)⟩
   ·rw [if_neg c9] at H
    have c9b0 : (t155 == (wrap64 ((a0_0.size : Int) + (a0_1.size : Int)))) = false := beq_eq_false_iff_ne.mpr c9
    have c9b1 : (t155 != (wrap64 ((a0_0.size : Int) + (a0_1.size : Int)))) = true := bne_iff_ne.mpr c9
    obtain rfl := Option.some.inj H
    go_enter Tryd.func33, Tryd.ntmps33
    go_wp2_with (first | ((with_reducible refine gate_dst (N := 1) rfl ?_); (try (refine gate_guard (by rfl) ?_; dsimp only)); refine box_event ?hg (N := 1) ?hd (cs := #[.string a0_0, .string a0_1, .int .i64 a0_2]) (t := 27) ?hr ?_; (case hd => rfl); (case hg => rfl); (case hr => exact ax9); intro gb153 hg w24 hbox hb; have BK153 := Aside0.mk (hbox); have GW153 := uG hg HB; have GE153 := uG hg HB; replace HB := uB HB hb; clear hb hbox hg; have hcz25_0 := bc (.string a0_0) BK153 0; have hcz25_1 := bc (.string a0_1) BK153 1; have hcz25_2 := bc (.int .i64 a0_2) BK153 2; have hfz25_0 := blk_frozen BK153.out 0; have hfz25_1 := blk_frozen BK153.out 1; have hfz25_2 := blk_frozen BK153.out 2) | (refine gd 21 47 ?_; refine gc 21 Tryd.func47 #[.string js6] (spec_l12Open.calls k js6 t154 t155 _ A7.out) ?_; rintro e w26 ⟨v156, rfl, ho0, hb⟩; refine ⟨_, rfl, ?_⟩; have HO157 := Aside0.mk (Kd.R_lower ho0 (below_size ax37)); replace BK153 := ub BK153 hb; replace HB := Aside0.mk (below_step ax37 hb); (try clear hb); (try clear hb2); (try clear hk); (try clear hi); (try clear ho0); have hcz27_0 := bc (.string a0_0) BK153 0; have hcz27_1 := bc (.string a0_1) BK153 1; have hcz27_2 := bc (.int .i64 a0_2) BK153 2; have hfz27_0 := blk_frozen BK153.out 0; have hfz27_1 := blk_frozen BK153.out 1; have hfz27_2 := blk_frozen BK153.out 2) | (refine gd 27 47 ?_; refine gc 27 Tryd.func47 #[.string a0_0] (spec_l12Open.calls k a0_0 t158 t159 _ A8.out) ?_; rintro e w28 ⟨v160, rfl, ho0, hb⟩; refine ⟨_, rfl, ?_⟩; have HO161 := Aside0.mk (Kd.R_lower (Kd.R_new' ho0 (Kd.R_lt ax38)) (below_size ax37)); replace HO157 := Aside0.mk (Kd.R_elder' ax38 (Kd.R_base ho0) hb); replace BK153 := ub BK153 hb; replace HB := Aside0.mk (below_step ax37 hb); (try clear hb); (try clear hb2); (try clear hk); (try clear hi); (try clear ho0); have hcz29_0 := bc (.string a0_0) BK153 0; have hcz29_1 := bc (.string a0_1) BK153 1; have hcz29_2 := bc (.int .i64 a0_2) BK153 2; have hfz29_0 := blk_frozen BK153.out 0; have hfz29_1 := blk_frozen BK153.out 1; have hfz29_2 := blk_frozen BK153.out 2))
    go_ret
    exact ⟨ax19, by repeat (first | (with_reducible first | exact HB.out | apply below_alloc | apply pw_below_drewN | apply below_drew1 | refine below_set ?_ GE153.out) | exact HB.out)⟩
  ·exact ax4
/-! ### impl_in: function 35 -/
def impl_in.f (a0 : Int) (a1 : Int) (a2 : Int) : Option (Bool) := if a0 ≥ a1 then (some (decide (a0 ≤ a2))) else (some false)
set_option maxHeartbeats 8000000 in
set_option maxRecDepth 100000 in
theorem impl_in.calls (a0 : Int) (a1 : Int) (a2 : Int) (r : Bool) (w : World) (h : impl_in.f a0 a1 a2 = some r) :
  Calls Tryd.prog 35 #[.int .i64 a0, .int .i64 a1, .int .i64 a2] w fun e w' => e = .returned (.bool r) ∧ Drawn0 w w' := by
 have H : (if a0 ≥ a1 then (some (decide (a0 ≤ a2))) else (some false)) = some r := h
 clear h
 by_cases c4 : a0 ≥ a1
 ·rw [if_pos c4] at H
  have c4b0 : decide (a1 ≤ a0) = true := decide_eq_true c4
  clear c4
  obtain rfl := Option.some.inj H
  go_enter Tryd.func35, Tryd.ntmps35
  go_wp2
  go_ret
  exact ⟨ax10, by repeat (first | exact Drawn0.refl _ | apply Drawn0.step)⟩
 ·rw [if_neg c4] at H
  have c4b0 : decide (a1 ≤ a0) = false := decide_eq_false c4
  clear c4
  obtain rfl := Option.some.inj H
  go_enter Tryd.func35, Tryd.ntmps35
  go_wp2
  go_ret
  exact ⟨ax10, by repeat (first | exact Drawn0.refl _ | apply Drawn0.step)⟩

/-! ### strings_IndexByte: function 60: a contract of our own -/
def strings_IndexByte.f (a0 : ByteArray) (a1 : Int) : Option Int := some (Lib.indexByte a0.data.toList a1.toNat.toUInt8)
theorem strings_IndexByte.calls (a0 : ByteArray) (a1 : Int) (r : Int) (w : World) (h : strings_IndexByte.f a0 a1 = some r) :
  Calls Tryd.prog 60 #[.string a0, .int .u8 a1] w fun e w' => e = .returned (.int .i64 r) ∧ Drawn0 w w' := by
 obtain rfl := Option.some.inj h
 refine (Tryd.strings_IndexByte a0 a1 w).mono ?_
 rintro e w' ⟨rfl, rfl⟩
 exact ⟨rfl, Drawn0.refl _⟩

/-! ### impl_isPlainText: function 45 -/
def impl_isPlainText.l0 : Nat → ByteArray → Int → Int → ByteArray → Int → Int → Option (Bool)
 | 0, _, _, _, _, _, _ => none
 | k + 1, x0, x1, x2, x3, x11, x12 => if x12 < x11 then (if 0 ≤ x12 then (if x12 < (x0.size : Int) then (if (bt x0 x12) < 32 then (some false) else (if (bt x0 x12) > 126 then (some false) else ((strings_IndexByte.f x3 (bt x0 x12)).bind fun t165 => (if t165 ≥ 0 then (some false) else (impl_isPlainText.l0 k x0 x1 x2 x3 x11 (wrap64 (x12 + 1))))))) else (none)) else (none)) else ((impl_in.f (x0.size : Int) x1 x2).bind fun t166 => (some t166))
def impl_isPlainText.f (k : Nat) (a0 : ByteArray) (a1 : Int) (a2 : Int) (a3 : ByteArray) : Option (Bool) := impl_isPlainText.l0 k a0 a1 a2 a3 (a0.size : Int) 0
theorem impl_isPlainText.mono_l : ∀ k, (∀ y0 y1 y2 y3 y4 y5, LeO (impl_isPlainText.l0 k y0 y1 y2 y3 y4 y5) (impl_isPlainText.l0 (k + 1) y0 y1 y2 y3 y4 y5))
 | 0 => fun _ _ _ _ _ _ r h => by simp [impl_isPlainText.l0] at h
 | k + 1 => by
  have ih0 := impl_isPlainText.mono_l k
  ·intro y0 y1 y2 y3 y4 y5
   unfold impl_isPlainText.l0
   repeat' first | (with_reducible first | exact ih0 .. | exact LeO.refl _ | exact LeO.none _ | refine LeO.ite ?_ ?_ | refine LeO.bind ?_ (fun _ => ?_)) | exact ih0 .. | exact LeO.none _ | refine LeO.ite ?_ ?_ | refine LeO.bind ?_ (fun _ => ?_)
theorem impl_isPlainText.mono : ∀ a0 a1 a2 a3 k, LeO (impl_isPlainText.f k a0 a1 a2 a3) (impl_isPlainText.f (k + 1) a0 a1 a2 a3) := by
 intro a0 a1 a2 a3 k
 have ih0 := impl_isPlainText.mono_l k
 unfold impl_isPlainText.f
 repeat' first | (with_reducible first | exact ih0 .. | exact LeO.refl _ | exact LeO.none _ | refine LeO.ite ?_ ?_ | refine LeO.bind ?_ (fun _ => ?_)) | exact ih0 .. | exact LeO.none _ | refine LeO.ite ?_ ?_ | refine LeO.bind ?_ (fun _ => ?_)
set_option maxHeartbeats 8000000 in
set_option maxRecDepth 100000 in
theorem impl_isPlainText.calls (k : Nat) (a0 : ByteArray) (a1 : Int) (a2 : Int) (a3 : ByteArray) (r : Bool) (w : World) (h : impl_isPlainText.f k a0 a1 a2 a3 = some r) :
  Calls Tryd.prog 45 #[.string a0, .int .i64 a1, .int .i64 a2, .string a3] w fun e w' => e = .returned (.bool r) ∧ Drawn0 w w' := by
 have H : (impl_isPlainText.l0 k a0 a1 a2 a3 (a0.size : Int) 0) = some r := h
 clear h
 have H' := Aside0.mk H
 clear H
 go_enter Tryd.func45, Tryd.ntmps45
 go_wp2
 go_loopg [12] k (fun kq v12 w' => ∃ (x12_1 : Int), v12 = .int .i64 x12_1 ∧ Aside0 (impl_isPlainText.l0 kq a0 a1 a2 a3 (a0.size : Int) x12_1 = some r) ∧ Aside0 (kq ≤ k) ∧ Drawn0 w w')
 case atStart => exact ⟨(0), ax10, H', ⟨Nat.le_refl _⟩, by repeat (first | exact Drawn0.refl _ | apply Drawn0.step)⟩
 case round =>
  clear H'
  try clear p2
  try clear c4
  obtain ⟨x12_1, rfl, HA, HK1, ⟨m1, rfl⟩⟩ := hrel
  cases gk with
  | zero => exact absurd HA.out (by simp [impl_isPlainText.l0])
  | succ k1 =>
   have H := HA.out; clear HA
   simp only [impl_isPlainText.l0] at H
   by_cases c5 : x12_1 < (a0.size : Int)
   ·rw [if_pos c5] at H
    have c5b0 : decide (x12_1 < (a0.size : Int)) = true := decide_eq_true c5
    clear c5
    by_cases c6 : 0 ≤ x12_1
    ·rw [if_pos c6] at H
     have c6b0 : decide (0 ≤ x12_1) = true := decide_eq_true c6
     clear c6
     by_cases c7 : x12_1 < (a0.size : Int)
     ·rw [if_pos c7] at H
      have c7b0 : decide (x12_1 < (a0.size : Int)) = true := decide_eq_true c7
      clear c7
      by_cases c9 : (bt a0 x12_1) < 32
      ·rw [if_pos c9] at H
       have c9b0 : decide ((bt a0 x12_1) < 32) = true := decide_eq_true c9
       clear c9
       obtain rfl := Option.some.inj H
       have p8 : 0 ≤ (x12_1 : Int) := of_decide_eq_true ax12
       have q8 : x12_1 < (a0.size : Int) := of_decide_eq_true ax12
       have hx8 := bt_at a0 x12_1; replace p8 := eq_true p8; replace q8 := eq_true q8
       go_wp2
       go_ret
       exact ⟨ax10, by repeat (first | exact Drawn0.refl _ | apply Drawn0.step)⟩
      ·rw [if_neg c9] at H
       have c9b0 : decide ((bt a0 x12_1) < 32) = false := decide_eq_false c9
       clear c9
       by_cases c11 : (bt a0 x12_1) > 126
       ·rw [if_pos c11] at H
        have c11b0 : decide (126 < (bt a0 x12_1)) = true := decide_eq_true c11
        clear c11
        obtain rfl := Option.some.inj H
        have p8 : 0 ≤ (x12_1 : Int) := of_decide_eq_true ax12
        have q8 : x12_1 < (a0.size : Int) := of_decide_eq_true ax12
        have hx8 := bt_at a0 x12_1; replace p8 := eq_true p8; replace q8 := eq_true q8
        have p10 : 0 ≤ (x12_1 : Int) := of_decide_eq_true ax12
        have q10 : x12_1 < (a0.size : Int) := of_decide_eq_true ax12
        have hx10 := bt_at a0 x12_1; replace p10 := eq_true p10; replace q10 := eq_true q10
        go_wp2
        go_ret
        exact ⟨ax10, by repeat (first | exact Drawn0.refl _ | apply Drawn0.step)⟩
       ·rw [if_neg c11] at H
        have c11b0 : decide (126 < (bt a0 x12_1)) = false := decide_eq_false c11
        clear c11
        obtain ⟨t165, A13, H⟩ := bs H
        by_cases c14 : t165 ≥ 0
        ·rw [if_pos c14] at H
         have c14b0 : decide (0 ≤ t165) = true := decide_eq_true c14
         clear c14
         obtain rfl := Option.some.inj H
         have p8 : 0 ≤ (x12_1 : Int) := of_decide_eq_true ax12
         have q8 : x12_1 < (a0.size : Int) := of_decide_eq_true ax12
         have hx8 := bt_at a0 x12_1; replace p8 := eq_true p8; replace q8 := eq_true q8
         have p10 : 0 ≤ (x12_1 : Int) := of_decide_eq_true ax12
         have q10 : x12_1 < (a0.size : Int) := of_decide_eq_true ax12
         have hx10 := bt_at a0 x12_1; replace p10 := eq_true p10; replace q10 := eq_true q10
         have p12 : 0 ≤ (x12_1 : Int) := of_decide_eq_true ax12
         have q12 : x12_1 < (a0.size : Int) := of_decide_eq_true ax12
         have hx12 := bt_at a0 x12_1; replace p12 := eq_true p12; replace q12 := eq_true q12
         go_wp2_with (first | (go_at_call 60; (with_reducible refine (strings_IndexByte.calls a3 (bt a0 x12_1) t165 _ A13.out).mono ?_); rintro e w' ⟨rfl, ⟨nd, rfl⟩⟩))
         go_ret
         exact ⟨ax10, by repeat (first | exact Drawn0.refl _ | apply Drawn0.step)⟩
        ·rw [if_neg c14] at H
         have c14b0 : decide (0 ≤ t165) = false := decide_eq_false c14
         clear c14
         have H' := Aside0.mk H
         clear H
         have p8 : 0 ≤ (x12_1 : Int) := of_decide_eq_true ax12
         have q8 : x12_1 < (a0.size : Int) := of_decide_eq_true ax12
         have hx8 := bt_at a0 x12_1; replace p8 := eq_true p8; replace q8 := eq_true q8
         have p10 : 0 ≤ (x12_1 : Int) := of_decide_eq_true ax12
         have q10 : x12_1 < (a0.size : Int) := of_decide_eq_true ax12
         have hx10 := bt_at a0 x12_1; replace p10 := eq_true p10; replace q10 := eq_true q10
         have p12 : 0 ≤ (x12_1 : Int) := of_decide_eq_true ax12
         have q12 : x12_1 < (a0.size : Int) := of_decide_eq_true ax12
         have hx12 := bt_at a0 x12_1; replace p12 := eq_true p12; replace q12 := eq_true q12
         go_wp2_with (first | (go_at_call 60; (with_reducible refine (strings_IndexByte.calls a3 (bt a0 x12_1) t165 _ A13.out).mono ?_); rintro e w' ⟨rfl, ⟨nd, rfl⟩⟩))
         go_roundg k1
         case measure => have := HK1.out; omega
         case rel => exact ⟨(wrap64 (x12_1 + 1)), ax10, H', ⟨by have := HK1.out; omega⟩, by repeat (first | exact Drawn0.refl _ | apply Drawn0.step)⟩
     ·exact ax5
    ·exact ax2
   ·rw [if_neg c5] at H
    have c5b0 : decide (x12_1 < (a0.size : Int)) = false := decide_eq_false c5
    clear c5
    obtain ⟨t166, A15, H⟩ := bs H
    obtain rfl := Option.some.inj H
    go_wp2_with (first | (refine gd 38 35 ?_; refine gc 38 Tryd.func35 #[.int .i64 (a0.size : Int), .int .i64 a1, .int .i64 a2] (impl_in.calls (a0.size : Int) a1 a2 t166 _ A15.out) ?_; rintro e w' ⟨rfl, ⟨nd, rfl⟩⟩; refine ⟨_, rfl, ?_⟩))
    go_ret
    exact ⟨ax10, by repeat (first | exact Drawn0.refl _ | apply Drawn0.step)⟩

/-! ### impl_IsValidRecord: function 20 -/
def impl_IsValidRecord.f (k : Nat) (a0_0 : ByteArray) (a0_1 : ByteArray) : Option (Bool) := (impl_isPlainText.f k a0_0 1 160 (⟨#[35, 64]⟩ : ByteArray)).bind fun t168 => (if t168 = true then ((impl_isPlainText.f k a0_1 0 520 (⟨#[35]⟩ : ByteArray)).bind fun t169 => (some t169)) else (some false))
theorem impl_IsValidRecord.mono : ∀ a0 a1 k, LeO (impl_IsValidRecord.f k a0 a1) (impl_IsValidRecord.f (k + 1) a0 a1) := by
 intro a0 a1 k
 unfold impl_IsValidRecord.f
 repeat' first | (with_reducible first | exact impl_isPlainText.mono .. | exact LeO.refl _ | exact LeO.none _ | refine LeO.ite ?_ ?_ | refine LeO.bind ?_ (fun _ => ?_)) | exact impl_isPlainText.mono .. | exact LeO.none _ | refine LeO.ite ?_ ?_ | refine LeO.bind ?_ (fun _ => ?_)
set_option maxHeartbeats 8000000 in
set_option maxRecDepth 100000 in
theorem impl_IsValidRecord.calls (k : Nat) (a0_0 : ByteArray) (a0_1 : ByteArray) (r : Bool) (w : World) (h : impl_IsValidRecord.f k a0_0 a0_1 = some r) :
  Calls Tryd.prog 20 #[.agg #[.string a0_0, .string a0_1]] w fun e w' => e = .returned (.bool r) ∧ Below w.heap.size w w' := by
 have hu33 := Tryd.underlying33; have HB := Aside0.mk (Below.refl w.heap.size w)
 have H : ((impl_isPlainText.f k a0_0 1 160 (⟨#[35, 64]⟩ : ByteArray)).bind fun t168 => (if t168 = true then ((impl_isPlainText.f k a0_1 0 520 (⟨#[35]⟩ : ByteArray)).bind fun t169 => (some t169)) else (some false))) = some r := h
 clear h
 obtain ⟨t168, A2, H⟩ := bs H
 by_cases c3 : t168 = true
 ·subst c3
  rw [if_pos rfl] at H
  obtain ⟨t169, A4, H⟩ := bs H
  obtain rfl := Option.some.inj H
  go_enter Tryd.func20, Tryd.ntmps20
  go_wp2_with (first | ((with_reducible refine gate_dst (N := 1) rfl ?_); refine box_event ?hg (N := 1) ?hd (cs := #[.string a0_0, .string a0_1]) (t := 33) ?hr ?_; (case hd => rfl); (case hg => rfl); (case hr => exact ax9); intro gb167 hg w5 hbox hb; have BK167 := Aside0.mk (hbox); have GW167 := uG hg HB; have GE167 := uG hg HB; replace HB := uB HB hb; clear hb hbox hg; have hcz6_0 := bc (.string a0_0) BK167 0; have hcz6_1 := bc (.string a0_1) BK167 1; have hfz6_0 := blk_frozen BK167.out 0; have hfz6_1 := blk_frozen BK167.out 1) | (refine gd 5 45 ?_; refine gc 5 Tryd.func45 #[.string a0_0, .int .i64 1, .int .i64 160, .string (⟨#[35, 64]⟩ : ByteArray)] (impl_isPlainText.calls k a0_0 1 160 (⟨#[35, 64]⟩ : ByteArray) true _ A2.out) ?_; rintro e w' ⟨rfl, ⟨nd, rfl⟩⟩; refine ⟨_, rfl, ?_⟩) | (go_at_call 45; (with_reducible refine (impl_isPlainText.calls k a0_1 0 520 (⟨#[35]⟩ : ByteArray) t169 _ A4.out).mono ?_); rintro e w' ⟨rfl, ⟨nd, rfl⟩⟩))
  go_ret
  exact ⟨ax18, by repeat (first | (with_reducible first | exact HB.out | apply below_alloc | apply pw_below_drewN | apply below_drew1 | refine below_set ?_ GE167.out) | exact HB.out)⟩
 ·replace c3 := Bool.eq_false_iff.mpr c3
  subst c3
  rw [if_neg (show ¬ (false = true) by decide)] at H
  obtain rfl := Option.some.inj H
  go_enter Tryd.func20, Tryd.ntmps20
  go_wp2_with (first | ((with_reducible refine gate_dst (N := 1) rfl ?_); refine box_event ?hg (N := 1) ?hd (cs := #[.string a0_0, .string a0_1]) (t := 33) ?hr ?_; (case hd => rfl); (case hg => rfl); (case hr => exact ax9); intro gb167 hg w7 hbox hb; have BK167 := Aside0.mk (hbox); have GW167 := uG hg HB; have GE167 := uG hg HB; replace HB := uB HB hb; clear hb hbox hg; have hcz8_0 := bc (.string a0_0) BK167 0; have hcz8_1 := bc (.string a0_1) BK167 1; have hfz8_0 := blk_frozen BK167.out 0; have hfz8_1 := blk_frozen BK167.out 1) | (refine gd 5 45 ?_; refine gc 5 Tryd.func45 #[.string a0_0, .int .i64 1, .int .i64 160, .string (⟨#[35, 64]⟩ : ByteArray)] (impl_isPlainText.calls k a0_0 1 160 (⟨#[35, 64]⟩ : ByteArray) false _ A2.out) ?_; rintro e w' ⟨rfl, ⟨nd, rfl⟩⟩; refine ⟨_, rfl, ?_⟩))
  go_ret
  exact ⟨ax18, by repeat (first | (with_reducible first | exact HB.out | apply below_alloc | apply pw_below_drewN | apply below_drew1 | refine below_set ?_ GE167.out) | exact HB.out)⟩

/-! ### strconv_Itoa: function 39: a contract of our own -/
def strconv_Itoa.f (a0 : Int) : Option ByteArray := if -9223372036854775808 ≤ a0 ∧ a0 ≤ 9223372036854775807 then some ⟨(Lib.itoa a0).toArray⟩ else none
theorem strconv_Itoa.calls (a0 : Int) (r : ByteArray) (w : World) (hG : GL w) (h : strconv_Itoa.f a0 = some r) :
  Calls Tryd.prog 39 #[.int .i64 a0] w fun e w' => e = .returned (.string r) ∧ Below w.heap.size w w' := by
 unfold strconv_Itoa.f at h
 by_cases hc : -9223372036854775808 ≤ a0 ∧ a0 ≤ 9223372036854775807
 ·rw [if_pos hc] at h
  obtain rfl := Option.some.inj h
  refine (Tryd.strconv_Itoa a0 hc.1 hc.2 w hG.pow10).mono ?_
  rintro e w' ⟨rfl, k, os, rfl⟩
  exact ⟨rfl, Lib.below_grow _ _ (Nat.le_refl _) k os⟩
 ·rw [if_neg hc] at h; cases h

/-! ### impl_checksum: function 52 -/
def impl_checksum.l0 : Nat → ByteArray → Int → Int → Int → Option (Int)
 | 0, _, _, _, _ => none
 | k + 1, x0, x3, x6, x7 => if x7 < x6 then (if 0 ≤ x7 then (if x7 < (x0.size : Int) then (impl_checksum.l0 k x0 (Int.tmod (wrap64 ((wrap64 ((wrap64 (41 * x3)) + (wrap64 (bt x0 x7)))) + 1)) 999979) x6 (wrap64 (x7 + 1))) else (none)) else (none)) else (some x3)
def impl_checksum.f (k : Nat) (a0 : ByteArray) : Option (Int) := impl_checksum.l0 k a0 7 (a0.size : Int) 0
theorem impl_checksum.mono_l : ∀ k, (∀ y0 y1 y2 y3, LeO (impl_checksum.l0 k y0 y1 y2 y3) (impl_checksum.l0 (k + 1) y0 y1 y2 y3))
 | 0 => fun _ _ _ _ r h => by simp [impl_checksum.l0] at h
 | k + 1 => by
  have ih0 := impl_checksum.mono_l k
  ·intro y0 y1 y2 y3
   unfold impl_checksum.l0
   repeat' first | (with_reducible first | exact ih0 .. | exact LeO.refl _ | exact LeO.none _ | refine LeO.ite ?_ ?_ | refine LeO.bind ?_ (fun _ => ?_)) | exact ih0 .. | exact LeO.none _ | refine LeO.ite ?_ ?_ | refine LeO.bind ?_ (fun _ => ?_)
theorem impl_checksum.mono : ∀ a0 k, LeO (impl_checksum.f k a0) (impl_checksum.f (k + 1) a0) := by
 intro a0 k
 have ih0 := impl_checksum.mono_l k
 unfold impl_checksum.f
 repeat' first | (with_reducible first | exact ih0 .. | exact LeO.refl _ | exact LeO.none _ | refine LeO.ite ?_ ?_ | refine LeO.bind ?_ (fun _ => ?_)) | exact ih0 .. | exact LeO.none _ | refine LeO.ite ?_ ?_ | refine LeO.bind ?_ (fun _ => ?_)
set_option maxHeartbeats 8000000 in
set_option maxRecDepth 100000 in
theorem impl_checksum.calls (k : Nat) (a0 : ByteArray) (r : Int) (w : World) (h : impl_checksum.f k a0 = some r) :
  Calls Tryd.prog 52 #[.string a0] w fun e w' => e = .returned (.int .i64 r) ∧ Drawn0 w w' := by
 have H : (impl_checksum.l0 k a0 7 (a0.size : Int) 0) = some r := h
 clear h
 have H' := Aside0.mk H
 clear H
 go_enter Tryd.func52, Tryd.ntmps52
 go_wp2
 go_loopg [3, 7] k (fun kq v3 v7 w' => ∃ (x3_1 : Int) (x7_1 : Int), v3 = .int .i64 x3_1 ∧ v7 = .int .i64 x7_1 ∧ Aside0 (impl_checksum.l0 kq a0 x3_1 (a0.size : Int) x7_1 = some r) ∧ Aside0 (kq ≤ k) ∧ Drawn0 w w')
 case atStart => exact ⟨(7), (0), ax10, ax10, H', ⟨Nat.le_refl _⟩, by repeat (first | exact Drawn0.refl _ | apply Drawn0.step)⟩
 case round =>
  clear H'
  obtain ⟨x3_1, x7_1, rfl, rfl, HA, HK1, ⟨m1, rfl⟩⟩ := hrel
  cases gk with
  | zero => exact absurd HA.out (by simp [impl_checksum.l0])
  | succ k1 =>
   have H := HA.out; clear HA
   simp only [impl_checksum.l0] at H
   by_cases c2 : x7_1 < (a0.size : Int)
   ·rw [if_pos c2] at H
    have c2b0 : decide (x7_1 < (a0.size : Int)) = true := decide_eq_true c2
    clear c2
    by_cases c3 : 0 ≤ x7_1
    ·rw [if_pos c3] at H
     have c3b0 : decide (0 ≤ x7_1) = true := decide_eq_true c3
     clear c3
     by_cases c4 : x7_1 < (a0.size : Int)
     ·rw [if_pos c4] at H
      have c4b0 : decide (x7_1 < (a0.size : Int)) = true := decide_eq_true c4
      clear c4
      have H' := Aside0.mk H
      clear H
      have p5 : 0 ≤ (x7_1 : Int) := of_decide_eq_true ax12
      have q5 : x7_1 < (a0.size : Int) := of_decide_eq_true ax12
      have hx5 := bt_at a0 x7_1; replace p5 := eq_true p5; replace q5 := eq_true q5
      go_wp2
      go_roundg k1
      case measure => have := HK1.out; omega
      case rel => exact ⟨(Int.tmod (wrap64 ((wrap64 ((wrap64 (41 * x3_1)) + (wrap64 (bt a0 x7_1)))) + 1)) 999979), (wrap64 (x7_1 + 1)), ax10, ax10, H', ⟨by have := HK1.out; omega⟩, by repeat (first | exact Drawn0.refl _ | apply Drawn0.step)⟩
     ·exact ax3
    ·rw [if_neg c3] at H
     exact absurd H (by simp)
   ·rw [if_neg c2] at H
    have c2b0 : decide (x7_1 < (a0.size : Int)) = false := decide_eq_false c2
    clear c2
    obtain rfl := Option.some.inj H
    go_wp2
    go_ret
    exact ⟨ax10, by repeat (first | exact Drawn0.refl _ | apply Drawn0.step)⟩

end Go.Proofs.YtnjjchbhbicmoaaDoor.X

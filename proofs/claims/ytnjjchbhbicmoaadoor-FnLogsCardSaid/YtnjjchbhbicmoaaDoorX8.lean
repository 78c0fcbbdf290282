-- By gen.py (the session's own program over the kit's printer): functions of the program, each with its contract. Lean checks it.
import Derived.Test.YtnjjchbhbicmoaaDoorX0
import Derived.Test.YtnjjchbhbicmoaaDoorX7
namespace Go.Proofs.YtnjjchbhbicmoaaDoor.X
open Go.RowKit Go.Proofs.YtnjjchbhbicmoaaDoorW.PrintWords Go.Proofs.YtnjjchbhbicmoaaDoorW.PrintLast Go.Proofs.YtnjjchbhbicmoaaDoorW.PrintMore
attribute [local go_sem] max2_int min2_int max_two min_two max_three min_three max_four min_four   -- for this text's walks alone
set_option linter.unusedVariables false
set_option linter.unusedSimpArgs false

/-! ### impl_readRecords: function 50 -/
def impl_readRecords.l0 : Nat → ByteArray → List (S33) → List Int → Int → Option ((List (S33)) × List Int)
 | 0, _, _, _, _ => none
 | k + 1, x0, x4, x5, x6 => if (x4.length : Int) < 40 then (if 0 ≤ x6 then (if x6 ≤ (x0.size : Int) then ((strings_Cut.f (x0.extract (x6 : Int).toNat x0.size) (⟨#[10]⟩ : ByteArray)).bind fun bt185 => (if bt185.2.2 = true then ((strings_Cut.f bt185.1 (⟨#[35]⟩ : ByteArray)).bind fun bt188 => ((strings_Cut.f bt188.1 (⟨#[32]⟩ : ByteArray)).bind fun bt191 => ((strings_Cut.f bt191.2.1 (⟨#[64]⟩ : ByteArray)).bind fun bt194 => ((impl_EncodeRecord.f k (x4.length : Int) bt194.1 bt194.2.1).bind fun bt198 => (if bt198.2 = true then (if bt185.1.size + 1 ≤ 9223372036854775807 then (if bt198.1.toList = (bt185.1 ++ (⟨#[10]⟩ : ByteArray)).toList then (if x4.length < 4398046511104 then (if x5.length < 17592186044416 then (impl_readRecords.l0 k x0 (x4 ++ [(⟨bt194.1, bt194.2.1⟩ : S33)]) (x5 ++ [wrap64 (x6 + (wrap64 ((bt185.1.size : Int) + 1)))]) (wrap64 (x6 + (wrap64 ((bt185.1.size : Int) + 1))))) else (none)) else (none)) else (some (x4, x5))) else (none)) else (some (x4, x5))))))) else (some (x4, x5)))) else (none)) else (none)) else (some (x4, x5))
def impl_readRecords.f (k : Nat) (a0 : ByteArray) : Option ((List (S33)) × List Int) := impl_readRecords.l0 k a0 (([] : List (S33))) (([0] : List Int)) 0
theorem impl_readRecords.mono_l : ∀ k, (∀ y0 y1 y2 y3, LeO (impl_readRecords.l0 k y0 y1 y2 y3) (impl_readRecords.l0 (k + 1) y0 y1 y2 y3))
 | 0 => fun _ _ _ _ r h => by simp [impl_readRecords.l0] at h
 | k + 1 => by
  have ih0 := impl_readRecords.mono_l k
  ·intro y0 y1 y2 y3
   unfold impl_readRecords.l0
   repeat' first | (with_reducible first | exact ih0 .. | exact impl_EncodeRecord.mono .. | exact LeO.refl _ | exact LeO.none _ | refine LeO.ite ?_ ?_ | refine LeO.bind ?_ (fun _ => ?_)) | exact ih0 .. | exact impl_EncodeRecord.mono .. | exact LeO.none _ | refine LeO.ite ?_ ?_ | refine LeO.bind ?_ (fun _ => ?_)
theorem impl_readRecords.mono : ∀ a0 k, LeO (impl_readRecords.f k a0) (impl_readRecords.f (k + 1) a0) := by
 intro a0 k
 have ih0 := impl_readRecords.mono_l k
 unfold impl_readRecords.f
 repeat' first | (with_reducible first | exact ih0 .. | exact impl_EncodeRecord.mono .. | exact LeO.refl _ | exact LeO.none _ | refine LeO.ite ?_ ?_ | refine LeO.bind ?_ (fun _ => ?_)) | exact ih0 .. | exact impl_EncodeRecord.mono .. | exact LeO.none _ | refine LeO.ite ?_ ?_ | refine LeO.bind ?_ (fun _ => ?_)
set_option maxHeartbeats 8000000 in
set_option maxRecDepth 100000 in
theorem impl_readRecords.calls (k : Nat) (a0 : ByteArray) (r1 : List (S33)) (r2 : List Int) (w : World) (hG : GL w) (h : impl_readRecords.f k a0 = some (r1, r2)) :
  Calls Tryd.prog 50 #[.string a0] w fun e w' => ∃ v0_ v1_ : Value, e = .returned (.tuple #[v0_, v1_]) ∧ Kd.R k33 33 w' w.heap.size (fun _ => True) v0_ r1 ∧ Kd.R (Kd.int .i64) 3 w' w.heap.size (fun _ => True) v1_ r2 ∧ Below w.heap.size w w' := by
 have hu33 := Tryd.underlying33; have HB := Aside0.mk (Below.refl w.heap.size w); have HG := Aside0.mk hG; clear hG
 have H : (impl_readRecords.l0 k a0 (([] : List (S33))) (([0] : List Int)) 0) = some (r1, r2) := h
 clear h
 obtain ⟨y179, hy179⟩ : ∃ y_ : List (S33), y_ = (([] : List (S33))) := ⟨_, rfl⟩
 replace H : (impl_readRecords.l0 k a0 y179 (([0] : List Int)) 0) = some (r1, r2) := by first | (rw [hy179]; with_reducible exact H) | (have H2_ := (Option.bind_some _ _).symm.trans H; rw [hy179]; with_reducible exact H2_) | (have H2_ := (Option.bind_some _ _).symm.trans H; with_reducible exact H2_) | with_reducible exact H | (rw [hy179]; exact H) | exact H
 have Ny179 := Aside0.mk hy179; clear hy179
 obtain ⟨y182, hy182⟩ : ∃ y_ : List Int, y_ = (([0] : List Int)) := ⟨_, rfl⟩
 replace H : (impl_readRecords.l0 k a0 y179 y182 0) = some (r1, r2) := by first | (rw [hy182]; with_reducible exact H) | (have H2_ := (Option.bind_some _ _).symm.trans H; rw [hy182]; with_reducible exact H2_) | (have H2_ := (Option.bind_some _ _).symm.trans H; with_reducible exact H2_) | with_reducible exact H | (rw [hy182]; exact H) | exact H
 have Ny182 := Aside0.mk hy182; clear hy182
 have H' := Aside0.mk H
 clear H
 go_enter Tryd.func50, Tryd.ntmps50
 go_wp2_with (first | ((with_reducible refine gate_dst (N := 22) rfl ?_); refine Kd.R_lit k33 _ 33 ?hg (N := 22) ?hd (xs := ([] : List (S33))) (inner := []) (ok := fun _ => True) (okp := fun _ => True) ?hr ?hp (fun _ hk => hk) trivial (Below.refl _ _) (Nat.le_refl _) (by simp) ?_; (case hd => rfl); (case hg => rfl); (case hr => exact ax9); (case hp => exact (Reps.none _ _)); intro v180 w2 ho3 hb hg_ hnew_; clear hg_ hnew_; (first | rw [← Ny179.out] at ho3 | (simp only [Int.reduceToNat] at ho3; rw [← Ny179.out] at ho3)); have HO181 := uL ho3 HB; replace HB := uB HB hb; clear hb ho3) | ((with_reducible refine gate_dst (N := 23) rfl ?_); refine Kd.R_lit (Kd.int .i64) _ 3 ?hg (N := 23) ?hd (xs := ([0] : List Int)) (inner := [.int .i64 0]) (ok := fun _ => True) (okp := fun _ => True) ?hr ?hp (fun _ hk => hk) trivial (Below.refl _ _) (Nat.le_refl _) (by simp) ?_; (case hd => rfl); (case hg => rfl); (case hr => exact ax9); (case hp => exact (Reps.one (show Kd.M (Kd.int .i64) _ _ _ 0 [.int .i64 0] from rfl) (Reps.none _ _))); intro v183 w4 ho5 hb hg_ hnew_; clear hg_ hnew_; (first | rw [← Ny182.out] at ho5 | (simp only [Int.reduceToNat] at ho5; rw [← Ny182.out] at ho5)); replace HO181 := uR HO181 hb; have HO184 := uL ho5 HB; replace HB := uB HB hb; clear hb ho5))
 go_loopg [4, 5, 6] k (fun kq v4 v5 v6 w' => ∃ (x4_1 : List (S33)) (x5_1 : List Int) (x6_1 : Int), v6 = .int .i64 x6_1 ∧ Aside0 (impl_readRecords.l0 kq a0 x4_1 x5_1 x6_1 = some (r1, r2)) ∧ Aside0 (kq ≤ k) ∧ Aside0 (Kd.R k33 33 w' w.heap.size (fun _ => True) v4 x4_1) ∧ Aside0 (Kd.R (Kd.int .i64) 3 w' w.heap.size (fun _ => True) v5 x5_1) ∧ Aside0 (Below w.heap.size w w'))
 case atStart => exact ⟨(y179), (y182), (0), ax10, H', ⟨Nat.le_refl _⟩, ⟨(by (with_reducible repeat (first | apply Kd.R_alloc | apply Kd.R_drewN | apply Kd.R_drew)); exact HO181.out)⟩, ⟨(by (with_reducible repeat (first | apply Kd.R_alloc | apply Kd.R_drewN | apply Kd.R_drew)); exact HO184.out)⟩, ⟨ax11⟩⟩
 case round =>
  clear H'
  try clear p2
  try clear c5
  obtain ⟨x4_1, x5_1, x6_1, rfl, HA, HK1, HO_4, HO_5, HB⟩ := hrel
  cases gk with
  | zero => exact absurd HA.out (by simp [impl_readRecords.l0])
  | succ k1 =>
   have H := HA.out; clear HA
   simp only [impl_readRecords.l0] at H
   by_cases c6 : (x4_1.length : Int) < 40
   ·rw [if_pos c6] at H
    have c6b0 : decide ((x4_1.length : Int) < 40) = true := decide_eq_true c6
    have c6b1 : decide (x4_1.length < 40) = true := decide_eq_true (by omega)
    clear c6
    by_cases c7 : 0 ≤ x6_1
    ·rw [if_pos c7] at H
     have c7b0 := eq_true c7
     have c7b1 : decide (0 ≤ x6_1) = true := decide_eq_true c7
     clear c7
     by_cases c8 : x6_1 ≤ (a0.size : Int)
     ·rw [if_pos c8] at H
      have c8b0 := eq_true c8
      have c8b1 : decide (x6_1 ≤ (a0.size : Int)) = true := decide_eq_true c8
      clear c8
      obtain ⟨js9, hjs9⟩ : ∃ j_ : ByteArray, (a0.extract (x6_1 : Int).toNat a0.size) = j_ := ⟨_, rfl⟩
      replace H : ((strings_Cut.f js9 (⟨#[10]⟩ : ByteArray)).bind fun bt185 => (if bt185.2.2 = true then ((strings_Cut.f bt185.1 (⟨#[35]⟩ : ByteArray)).bind fun bt188 => ((strings_Cut.f bt188.1 (⟨#[32]⟩ : ByteArray)).bind fun bt191 => ((strings_Cut.f bt191.2.1 (⟨#[64]⟩ : ByteArray)).bind fun bt194 => ((impl_EncodeRecord.f k1 (x4_1.length : Int) bt194.1 bt194.2.1).bind fun bt198 => (if bt198.2 = true then (if bt185.1.size + 1 ≤ 9223372036854775807 then (if bt198.1.toList = (bt185.1 ++ (⟨#[10]⟩ : ByteArray)).toList then (if x4_1.length < 4398046511104 then (if x5_1.length < 17592186044416 then (impl_readRecords.l0 k1 a0 (x4_1 ++ [(⟨bt194.1, bt194.2.1⟩ : S33)]) (x5_1 ++ [wrap64 (x6_1 + (wrap64 ((bt185.1.size : Int) + 1)))]) (wrap64 (x6_1 + (wrap64 ((bt185.1.size : Int) + 1))))) else (none)) else (none)) else (some (x4_1, x5_1))) else (none)) else (some (x4_1, x5_1))))))) else (some (x4_1, x5_1)))) = some (r1, r2) := by first | (rw [hjs9] at H; exact H) | (simp only [hjs9] at H ⊢; exact H)
      obtain ⟨⟨t185, t186, t187⟩, A10, H⟩ := bs H
      by_cases c11 : t187 = true
      ·subst c11
       rw [if_pos rfl] at H
       obtain ⟨⟨t188, t189, t190⟩, A12, H⟩ := bs H
       obtain ⟨⟨t191, t192, t193⟩, A13, H⟩ := bs H
       obtain ⟨⟨t194, t195, t196⟩, A14, H⟩ := bs H
       obtain ⟨⟨t198, t199⟩, A15, H⟩ := bs H
       by_cases c16 : t199 = true
       ·subst c16
        rw [if_pos rfl] at H
        by_cases c17 : t185.size + 1 ≤ 9223372036854775807
        ·rw [if_pos c17] at H
         have c17b0 := eq_true c17
         have c17b1 : decide (t185.size + 1 ≤ 9223372036854775807) = true := decide_eq_true c17
         try have c17b2 : (9223372036854775807 < t185.size + 1) = False := eq_false (Nat.not_lt.2 c17)
         clear c17
         obtain ⟨js18, hjs18⟩ : ∃ j_ : ByteArray, (t185 ++ (⟨#[10]⟩ : ByteArray)) = j_ := ⟨_, rfl⟩
         replace H : (if t198.toList = js18.toList then (if x4_1.length < 4398046511104 then (if x5_1.length < 17592186044416 then (impl_readRecords.l0 k1 a0 (x4_1 ++ [(⟨t194, t195⟩ : S33)]) (x5_1 ++ [wrap64 (x6_1 + (wrap64 ((t185.size : Int) + 1)))]) (wrap64 (x6_1 + (wrap64 ((t185.size : Int) + 1))))) else (none)) else (none)) else (some (x4_1, x5_1))) = some (r1, r2) := by first | (rw [hjs18] at H; exact H) | (simp only [hjs18] at H ⊢; exact H)
         by_cases c19 : t198.toList = js18.toList
         ·rw [if_pos c19] at H
          have c19b0 : (t198.toList == js18.toList) = true := beq_iff_eq.mpr c19
          have c19b1 : (t198.toList != js18.toList) = false := bne_eq_false_iff_eq.mpr c19
          clear c19
          by_cases c20 : x4_1.length < 4398046511104
          ·rw [if_pos c20] at H
           have LMc20 := Aside0.mk c20; clear c20
           obtain ⟨y200, hy200⟩ : ∃ y_ : List (S33), y_ = (x4_1 ++ [(⟨t194, t195⟩ : S33)]) := ⟨_, rfl⟩
           replace H : (if x5_1.length < 17592186044416 then (impl_readRecords.l0 k1 a0 y200 (x5_1 ++ [wrap64 (x6_1 + (wrap64 ((t185.size : Int) + 1)))]) (wrap64 (x6_1 + (wrap64 ((t185.size : Int) + 1))))) else (none)) = some (r1, r2) := by first | (rw [hy200]; with_reducible exact H) | (have H2_ := (Option.bind_some _ _).symm.trans H; rw [hy200]; with_reducible exact H2_) | (have H2_ := (Option.bind_some _ _).symm.trans H; with_reducible exact H2_) | with_reducible exact H | (rw [hy200]; exact H) | exact H
           have Ny200 := Aside0.mk hy200; clear hy200
           by_cases c21 : x5_1.length < 17592186044416
           ·rw [if_pos c21] at H
            have LMc21 := Aside0.mk c21; clear c21
            obtain ⟨y203, hy203⟩ : ∃ y_ : List Int, y_ = (x5_1 ++ [wrap64 (x6_1 + (wrap64 ((t185.size : Int) + 1)))]) := ⟨_, rfl⟩
            replace H : (impl_readRecords.l0 k1 a0 y200 y203 (wrap64 (x6_1 + (wrap64 ((t185.size : Int) + 1))))) = some (r1, r2) := by first | (rw [hy203]; with_reducible exact H) | (have H2_ := (Option.bind_some _ _).symm.trans H; rw [hy203]; with_reducible exact H2_) | (have H2_ := (Option.bind_some _ _).symm.trans H; with_reducible exact H2_) | with_reducible exact H | (rw [hy203]; exact H) | exact H
            have Ny203 := Aside0.mk hy203; clear hy203
            have H' := Aside0.mk H
            clear H
            obtain ⟨Ao22, co22, eo22⟩ := Kd.R_slice HO_4.out
            subst eo22
            go_wp2_with (first | (refine gd 31 63 ?_; refine gc 31 Tryd.func63 #[.string js9, .string (⟨#[10]⟩ : ByteArray)] (strings_Cut.calls js9 (⟨#[10]⟩ : ByteArray) t185 t186 true _ (GL.below HG.out ax11) A10.out) ?_; rintro e w' ⟨rfl, ⟨nd, rfl⟩⟩; refine ⟨_, rfl, ?_⟩; (try (rw [drewN_self wr]; generalize hq_ : World.drewN wr _ = wr; have n0_ : Aside0 (Kd.R k33 33 wr w.heap.size (fun _ => True) (.slice Ao22 x4_1.length co22) x4_1) := ⟨ax42⟩; have n1_ : Aside0 (Kd.R (Kd.int .i64) 3 wr w.heap.size (fun _ => True) u5 x5_1) := ⟨ax43⟩; have n2_ : Aside0 (Below w.heap.size w wr) := ⟨ax44⟩; clear HO_4 HO_5 HB hq_; have HO_4 := n0_; have HO_5 := n1_; have HB := n2_; clear n0_ n1_ n2_))) | (refine gd 39 63 ?_; refine gc 39 Tryd.func63 #[.string t185, .string (⟨#[35]⟩ : ByteArray)] (strings_Cut.calls t185 (⟨#[35]⟩ : ByteArray) t188 t189 t190 _ (GL.below HG.out ax11) A12.out) ?_; rintro e w' ⟨rfl, ⟨nd, rfl⟩⟩; refine ⟨_, rfl, ?_⟩; (try (rw [drewN_self wr]; generalize hq_ : World.drewN wr _ = wr; have n0_ : Aside0 (Kd.R k33 33 wr w.heap.size (fun _ => True) (.slice Ao22 x4_1.length co22) x4_1) := ⟨ax42⟩; have n1_ : Aside0 (Kd.R (Kd.int .i64) 3 wr w.heap.size (fun _ => True) u5 x5_1) := ⟨ax43⟩; have n2_ : Aside0 (Below w.heap.size w wr) := ⟨ax44⟩; clear HO_4 HO_5 HB hq_; have HO_4 := n0_; have HO_5 := n1_; have HB := n2_; clear n0_ n1_ n2_))) | (refine gd 45 63 ?_; refine gc 45 Tryd.func63 #[.string t188, .string (⟨#[32]⟩ : ByteArray)] (strings_Cut.calls t188 (⟨#[32]⟩ : ByteArray) t191 t192 t193 _ (GL.below HG.out ax11) A13.out) ?_; rintro e w' ⟨rfl, ⟨nd, rfl⟩⟩; refine ⟨_, rfl, ?_⟩; (try (rw [drewN_self wr]; generalize hq_ : World.drewN wr _ = wr; have n0_ : Aside0 (Kd.R k33 33 wr w.heap.size (fun _ => True) (.slice Ao22 x4_1.length co22) x4_1) := ⟨ax42⟩; have n1_ : Aside0 (Kd.R (Kd.int .i64) 3 wr w.heap.size (fun _ => True) u5 x5_1) := ⟨ax43⟩; have n2_ : Aside0 (Below w.heap.size w wr) := ⟨ax44⟩; clear HO_4 HO_5 HB hq_; have HO_4 := n0_; have HO_5 := n1_; have HB := n2_; clear n0_ n1_ n2_))) | (refine gd 51 63 ?_; refine gc 51 Tryd.func63 #[.string t192, .string (⟨#[64]⟩ : ByteArray)] (strings_Cut.calls t192 (⟨#[64]⟩ : ByteArray) t194 t195 t196 _ (GL.below HG.out ax11) A14.out) ?_; rintro e w' ⟨rfl, ⟨nd, rfl⟩⟩; refine ⟨_, rfl, ?_⟩; (try (rw [drewN_self wr]; generalize hq_ : World.drewN wr _ = wr; have n0_ : Aside0 (Kd.R k33 33 wr w.heap.size (fun _ => True) (.slice Ao22 x4_1.length co22) x4_1) := ⟨ax42⟩; have n1_ : Aside0 (Kd.R (Kd.int .i64) 3 wr w.heap.size (fun _ => True) u5 x5_1) := ⟨ax43⟩; have n2_ : Aside0 (Below w.heap.size w wr) := ⟨ax44⟩; clear HO_4 HO_5 HB hq_; have HO_4 := n0_; have HO_5 := n1_; have HB := n2_; clear n0_ n1_ n2_))) | ((with_reducible refine gate_dst (N := 19) rfl ?_); refine box_event ?hg (N := 19) ?hd (cs := #[.string (⟨#[]⟩ : ByteArray), .string (⟨#[]⟩ : ByteArray)]) (t := 33) ?hr ?_; (case hd => rfl); (case hg => rfl); (case hr => exact ax9); intro gb197 hg w23 hbox hb; replace HO_4 := Aside0.mk (Kd.R_below (Kd.R_elderB ax34 gb197 (Nat.le_of_eq hg.symm)) hb); replace HO_5 := uR HO_5 hb; have BK197 := Aside0.mk (hbox); have GW197 := uG hg HB; have GE197 := uG hg HB; replace HB := uB HB hb; clear hb hbox hg; have hcz24_0 := bc (.string (⟨#[]⟩ : ByteArray)) BK197 0; have hcz24_1 := bc (.string (⟨#[]⟩ : ByteArray)) BK197 1; have hfz24_0 := blk_frozen BK197.out 0; have hfz24_1 := blk_frozen BK197.out 1) | (refine gd 62 14 ?_; refine gc 62 Tryd.func14 #[.int .i64 (x4_1.length : Int), .agg #[.string t194, .string t195]] (impl_EncodeRecord.calls k1 (x4_1.length : Int) t194 t195 t198 true _ (GL.below HG.out ax45) A15.out) ?_; rintro e w25 ⟨rfl, hb⟩; refine ⟨_, rfl, ?_⟩; replace HO_4 := Aside0.mk (Kd.R_below ax46 hb); replace HO_5 := Aside0.mk (Kd.R_below ax47 hb); replace BK197 := Aside0.mk (blk_below (g := gb197) (o := .cells #[.string t194, .string t195] 33 (0, 0)) ax48 hb); replace HB := Aside0.mk (below_step ax45 hb); (try clear hb); (try clear hb2); (try clear hk); (try clear hi); have hcz26_0 := bc (.string t194) BK197 0; have hcz26_1 := bc (.string t195) BK197 1; have hfz26_0 := blk_frozen BK197.out 0; have hfz26_1 := blk_frozen BK197.out 1) | ((with_reducible refine gate_builtin (b := .append) (xs := #[.tmp 78, .tmp 80]) rfl ?_); at_builtin; refine Kd.R_append k33 (w0 := w) w.heap.size rfl (.tmp 78) (.tmp 80) 48 33 (.agg #[(.string ⟨#[]⟩), (.string ⟨#[]⟩)]) 32 rfl Tryd.underlying48 info33 rfl (by decide) (by omega) (.slice Ao22 x4_1.length co22) x4_1 (⟨t194, t195⟩ : S33) [.string t194, .string t195] (fun k_ => k_ ≠ gb197) (fun _ => False) rfl rfl ?aP (fun _ hk => hk.elim) ?aF ?aO ?aB ?aS ?aL ?_; (case aP => exact k33_mkM _ _ _ (⟨t194, t195⟩ : S33)); (case aB => exact ax49); (case aF => exact (fun k_ hk => Kd.freshB (g := gb197) (o := .cells #[.string t194, .string t195] 33 (0, 0)) ax50 k_ hk)); (case aO => exact (by (with_reducible repeat (first | apply Kd.R_alloc | apply Kd.R_drewN | apply Kd.R_drew)); exact Kd.R_mono HO_4.out (fun _ hk => hk.2))); (case aS => exact ax51); (case aL => have := LMc20.out; omega); intro v201 w27 ho hb hg hat; rw [← Ny200.out] at ho; have n0_ := Aside0.mk (Kd.R_over' ax17 (Kd.R_typed ax34) (by decide) hg); have n1_ := Aside0.mk (blk_grown (g := gb197) (o := .cells #[.string t194, .string t195] 33 (0, 0)) ax50 hg (Kd.R_away HO_4.out (fun _ hk => hk.2))); have n2_ := Aside0.mk (hb); have n3_ := Aside0.mk (ho); clear HO_5; clear BK197; clear HB; clear HO_4; have HO_5 := n0_; have BK197 := n1_; have HB := n2_; have HO202 := n3_; clear n0_ n1_ n2_ n3_; clear ho hb hg hat) | ((with_reducible refine gate_builtin (b := .append) (xs := #[.tmp 82, .tmp 84]) rfl ?_); at_builtin; refine Kd.R_append (Kd.int .i64) (w0 := w) w.heap.size rfl (.tmp 82) (.tmp 84) 63 3 (.int .i64 0) 8 rfl Tryd.underlying63 info3 rfl (by decide) (by omega) u5 x5_1 (wrap64 (x6_1 + (wrap64 ((t185.size : Int) + 1)))) [.int .i64 (wrap64 (x6_1 + (wrap64 ((t185.size : Int) + 1))))] (fun _ => True) (fun _ => False) rfl rfl ?aP (fun _ hk => hk.elim) ?aF ?aO ?aB ?aS ?aL ?_; (case aP => exact rfl); (case aB => exact ax49); (case aF => exact ax14); (case aO => exact ax15); (case aS => exact ax51); (case aL => have := LMc21.out; omega); intro v204 w28 ho hb hg hat; rw [← Ny203.out] at ho; have n0_ := Aside0.mk (blk_grown (g := gb197) (o := .cells #[.string t194, .string t195] 33 (0, 0)) ax50 hg (Kd.R_ne HO_5.out BK197.out (by decide))); have n1_ := Aside0.mk (Kd.R_over' (by (with_reducible repeat (first | apply Kd.R_alloc | apply Kd.R_drewN | apply Kd.R_drew)); exact HO202.out) (Kd.R_typed ax17) (by decide) hg); have n2_ := Aside0.mk (hb); have n3_ := Aside0.mk (ho); clear BK197; clear HO202; clear HB; clear HO_5; have BK197 := n0_; have HO202 := n1_; have HB := n2_; have HO205 := n3_; clear n0_ n1_ n2_ n3_; clear ho hb hg hat))
            go_roundg k1
            case measure => have := HK1.out; omega
            case rel => exact ⟨(y200), (y203), (wrap64 (x6_1 + (wrap64 ((t185.size : Int) + 1)))), ax10, H', ⟨by have := HK1.out; omega⟩, ⟨(by (with_reducible repeat (first | apply Kd.R_alloc | apply Kd.R_drewN | apply Kd.R_drew)); exact Kd.R_mono HO202.out (fun _ hk => trivial))⟩, ⟨(by (with_reducible repeat (first | apply Kd.R_alloc | apply Kd.R_drewN | apply Kd.R_drew)); exact HO205.out)⟩, ⟨ax45⟩⟩
           ·rw [if_neg c21] at H
            exact absurd H (by simp)
          ·rw [if_neg c20] at H
           exact absurd H (by simp)
         ·rw [if_neg c19] at H
          have c19b0 : (t198.toList == js18.toList) = false := beq_eq_false_iff_ne.mpr c19
          have c19b1 : (t198.toList != js18.toList) = true := bne_iff_ne.mpr c19
          simp only [Option.some.injEq, Prod.mk.injEq] at H
          obtain ⟨rfl, rfl⟩ := H
          obtain ⟨Ao29, co29, eo29⟩ := Kd.R_slice HO_4.out
          subst eo29
          go_wp2_with (first | (refine gd 31 63 ?_; refine gc 31 Tryd.func63 #[.string js9, .string (⟨#[10]⟩ : ByteArray)] (strings_Cut.calls js9 (⟨#[10]⟩ : ByteArray) t185 t186 true _ (GL.below HG.out ax11) A10.out) ?_; rintro e w' ⟨rfl, ⟨nd, rfl⟩⟩; refine ⟨_, rfl, ?_⟩; (try (rw [drewN_self wr]; generalize hq_ : World.drewN wr _ = wr; have n0_ : Aside0 (Kd.R k33 33 wr w.heap.size (fun _ => True) (.slice Ao29 x4_1.length co29) x4_1) := ⟨ax42⟩; have n1_ : Aside0 (Kd.R (Kd.int .i64) 3 wr w.heap.size (fun _ => True) u5 x5_1) := ⟨ax43⟩; have n2_ : Aside0 (Below w.heap.size w wr) := ⟨ax44⟩; clear HO_4 HO_5 HB hq_; have HO_4 := n0_; have HO_5 := n1_; have HB := n2_; clear n0_ n1_ n2_))) | (refine gd 39 63 ?_; refine gc 39 Tryd.func63 #[.string t185, .string (⟨#[35]⟩ : ByteArray)] (strings_Cut.calls t185 (⟨#[35]⟩ : ByteArray) t188 t189 t190 _ (GL.below HG.out ax11) A12.out) ?_; rintro e w' ⟨rfl, ⟨nd, rfl⟩⟩; refine ⟨_, rfl, ?_⟩; (try (rw [drewN_self wr]; generalize hq_ : World.drewN wr _ = wr; have n0_ : Aside0 (Kd.R k33 33 wr w.heap.size (fun _ => True) (.slice Ao29 x4_1.length co29) x4_1) := ⟨ax42⟩; have n1_ : Aside0 (Kd.R (Kd.int .i64) 3 wr w.heap.size (fun _ => True) u5 x5_1) := ⟨ax43⟩; have n2_ : Aside0 (Below w.heap.size w wr) := ⟨ax44⟩; clear HO_4 HO_5 HB hq_; have HO_4 := n0_; have HO_5 := n1_; have HB := n2_; clear n0_ n1_ n2_))) | (refine gd 45 63 ?_; refine gc 45 Tryd.func63 #[.string t188, .string (⟨#[32]⟩ : ByteArray)] (strings_Cut.calls t188 (⟨#[32]⟩ : ByteArray) t191 t192 t193 _ (GL.below HG.out ax11) A13.out) ?_; rintro e w' ⟨rfl, ⟨nd, rfl⟩⟩; refine ⟨_, rfl, ?_⟩; (try (rw [drewN_self wr]; generalize hq_ : World.drewN wr _ = wr; have n0_ : Aside0 (Kd.R k33 33 wr w.heap.size (fun _ => True) (.slice Ao29 x4_1.length co29) x4_1) := ⟨ax42⟩; have n1_ : Aside0 (Kd.R (Kd.int .i64) 3 wr w.heap.size (fun _ => True) u5 x5_1) := ⟨ax43⟩; have n2_ : Aside0 (Below w.heap.size w wr) := ⟨ax44⟩; clear HO_4 HO_5 HB hq_; have HO_4 := n0_; have HO_5 := n1_; have HB := n2_; clear n0_ n1_ n2_))) | (refine gd 51 63 ?_; refine gc 51 Tryd.func63 #[.string t192, .string (⟨#[64]⟩ : ByteArray)] (strings_Cut.calls t192 (⟨#[64]⟩ : ByteArray) t194 t195 t196 _ (GL.below HG.out ax11) A14.out) ?_; rintro e w' ⟨rfl, ⟨nd, rfl⟩⟩; refine ⟨_, rfl, ?_⟩; (try (rw [drewN_self wr]; generalize hq_ : World.drewN wr _ = wr; have n0_ : Aside0 (Kd.R k33 33 wr w.heap.size (fun _ => True) (.slice Ao29 x4_1.length co29) x4_1) := ⟨ax42⟩; have n1_ : Aside0 (Kd.R (Kd.int .i64) 3 wr w.heap.size (fun _ => True) u5 x5_1) := ⟨ax43⟩; have n2_ : Aside0 (Below w.heap.size w wr) := ⟨ax44⟩; clear HO_4 HO_5 HB hq_; have HO_4 := n0_; have HO_5 := n1_; have HB := n2_; clear n0_ n1_ n2_))) | ((with_reducible refine gate_dst (N := 19) rfl ?_); refine box_event ?hg (N := 19) ?hd (cs := #[.string (⟨#[]⟩ : ByteArray), .string (⟨#[]⟩ : ByteArray)]) (t := 33) ?hr ?_; (case hd => rfl); (case hg => rfl); (case hr => exact ax9); intro gb197 hg w30 hbox hb; replace HO_4 := Aside0.mk (Kd.R_below (Kd.R_elderB ax34 gb197 (Nat.le_of_eq hg.symm)) hb); replace HO_5 := uR HO_5 hb; have BK197 := Aside0.mk (hbox); have GW197 := uG hg HB; have GE197 := uG hg HB; replace HB := uB HB hb; clear hb hbox hg; have hcz31_0 := bc (.string (⟨#[]⟩ : ByteArray)) BK197 0; have hcz31_1 := bc (.string (⟨#[]⟩ : ByteArray)) BK197 1; have hfz31_0 := blk_frozen BK197.out 0; have hfz31_1 := blk_frozen BK197.out 1) | (refine gd 62 14 ?_; refine gc 62 Tryd.func14 #[.int .i64 (x4_1.length : Int), .agg #[.string t194, .string t195]] (impl_EncodeRecord.calls k1 (x4_1.length : Int) t194 t195 t198 true _ (GL.below HG.out ax45) A15.out) ?_; rintro e w32 ⟨rfl, hb⟩; refine ⟨_, rfl, ?_⟩; replace HO_4 := Aside0.mk (Kd.R_below ax46 hb); replace HO_5 := Aside0.mk (Kd.R_below ax47 hb); replace BK197 := Aside0.mk (blk_below (g := gb197) (o := .cells #[.string t194, .string t195] 33 (0, 0)) ax48 hb); replace HB := Aside0.mk (below_step ax45 hb); (try clear hb); (try clear hb2); (try clear hk); (try clear hi)))
          go_ret2
          exact ⟨_, _, by first | rfl | (simp [errW_none, errW_some] <;> rfl) | (simp only [← hjs9, ← hjs18]; first | rfl | (simp [errW_none, errW_some] <;> rfl)) | (simp [*, errW_none, errW_some] <;> rfl), by (with_reducible repeat (first | apply Kd.R_alloc | apply Kd.R_drewN | apply Kd.R_drew)); exact Kd.R_mono HO_4.out (fun _ hk => trivial), by (with_reducible repeat (first | apply Kd.R_alloc | apply Kd.R_drewN | apply Kd.R_drew)); exact HO_5.out, by repeat (first | (with_reducible first | exact HB.out | apply below_alloc | apply pw_below_drewN | apply below_drew1 | refine below_set ?_ GE197.out) | exact HB.out)⟩
        ·rw [if_neg c17] at H
         exact absurd H (by simp)
       ·replace c16 := Bool.eq_false_iff.mpr c16
        subst c16
        rw [if_neg (show ¬ (false = true) by decide)] at H
        simp only [Option.some.injEq, Prod.mk.injEq] at H
        obtain ⟨rfl, rfl⟩ := H
        obtain ⟨Ao33, co33, eo33⟩ := Kd.R_slice HO_4.out
        subst eo33
        go_wp2_with (first | (refine gd 31 63 ?_; refine gc 31 Tryd.func63 #[.string js9, .string (⟨#[10]⟩ : ByteArray)] (strings_Cut.calls js9 (⟨#[10]⟩ : ByteArray) t185 t186 true _ (GL.below HG.out ax11) A10.out) ?_; rintro e w' ⟨rfl, ⟨nd, rfl⟩⟩; refine ⟨_, rfl, ?_⟩; (try (rw [drewN_self wr]; generalize hq_ : World.drewN wr _ = wr; have n0_ : Aside0 (Kd.R k33 33 wr w.heap.size (fun _ => True) (.slice Ao33 x4_1.length co33) x4_1) := ⟨ax42⟩; have n1_ : Aside0 (Kd.R (Kd.int .i64) 3 wr w.heap.size (fun _ => True) u5 x5_1) := ⟨ax43⟩; have n2_ : Aside0 (Below w.heap.size w wr) := ⟨ax44⟩; clear HO_4 HO_5 HB hq_; have HO_4 := n0_; have HO_5 := n1_; have HB := n2_; clear n0_ n1_ n2_))) | (refine gd 39 63 ?_; refine gc 39 Tryd.func63 #[.string t185, .string (⟨#[35]⟩ : ByteArray)] (strings_Cut.calls t185 (⟨#[35]⟩ : ByteArray) t188 t189 t190 _ (GL.below HG.out ax11) A12.out) ?_; rintro e w' ⟨rfl, ⟨nd, rfl⟩⟩; refine ⟨_, rfl, ?_⟩; (try (rw [drewN_self wr]; generalize hq_ : World.drewN wr _ = wr; have n0_ : Aside0 (Kd.R k33 33 wr w.heap.size (fun _ => True) (.slice Ao33 x4_1.length co33) x4_1) := ⟨ax42⟩; have n1_ : Aside0 (Kd.R (Kd.int .i64) 3 wr w.heap.size (fun _ => True) u5 x5_1) := ⟨ax43⟩; have n2_ : Aside0 (Below w.heap.size w wr) := ⟨ax44⟩; clear HO_4 HO_5 HB hq_; have HO_4 := n0_; have HO_5 := n1_; have HB := n2_; clear n0_ n1_ n2_))) | (refine gd 45 63 ?_; refine gc 45 Tryd.func63 #[.string t188, .string (⟨#[32]⟩ : ByteArray)] (strings_Cut.calls t188 (⟨#[32]⟩ : ByteArray) t191 t192 t193 _ (GL.below HG.out ax11) A13.out) ?_; rintro e w' ⟨rfl, ⟨nd, rfl⟩⟩; refine ⟨_, rfl, ?_⟩; (try (rw [drewN_self wr]; generalize hq_ : World.drewN wr _ = wr; have n0_ : Aside0 (Kd.R k33 33 wr w.heap.size (fun _ => True) (.slice Ao33 x4_1.length co33) x4_1) := ⟨ax42⟩; have n1_ : Aside0 (Kd.R (Kd.int .i64) 3 wr w.heap.size (fun _ => True) u5 x5_1) := ⟨ax43⟩; have n2_ : Aside0 (Below w.heap.size w wr) := ⟨ax44⟩; clear HO_4 HO_5 HB hq_; have HO_4 := n0_; have HO_5 := n1_; have HB := n2_; clear n0_ n1_ n2_))) | (refine gd 51 63 ?_; refine gc 51 Tryd.func63 #[.string t192, .string (⟨#[64]⟩ : ByteArray)] (strings_Cut.calls t192 (⟨#[64]⟩ : ByteArray) t194 t195 t196 _ (GL.below HG.out ax11) A14.out) ?_; rintro e w' ⟨rfl, ⟨nd, rfl⟩⟩; refine ⟨_, rfl, ?_⟩; (try (rw [drewN_self wr]; generalize hq_ : World.drewN wr _ = wr; have n0_ : Aside0 (Kd.R k33 33 wr w.heap.size (fun _ => True) (.slice Ao33 x4_1.length co33) x4_1) := ⟨ax42⟩; have n1_ : Aside0 (Kd.R (Kd.int .i64) 3 wr w.heap.size (fun _ => True) u5 x5_1) := ⟨ax43⟩; have n2_ : Aside0 (Below w.heap.size w wr) := ⟨ax44⟩; clear HO_4 HO_5 HB hq_; have HO_4 := n0_; have HO_5 := n1_; have HB := n2_; clear n0_ n1_ n2_))) | ((with_reducible refine gate_dst (N := 19) rfl ?_); refine box_event ?hg (N := 19) ?hd (cs := #[.string (⟨#[]⟩ : ByteArray), .string (⟨#[]⟩ : ByteArray)]) (t := 33) ?hr ?_; (case hd => rfl); (case hg => rfl); (case hr => exact ax9); intro gb197 hg w34 hbox hb; replace HO_4 := Aside0.mk (Kd.R_below (Kd.R_elderB ax34 gb197 (Nat.le_of_eq hg.symm)) hb); replace HO_5 := uR HO_5 hb; have BK197 := Aside0.mk (hbox); have GW197 := uG hg HB; have GE197 := uG hg HB; replace HB := uB HB hb; clear hb hbox hg; have hcz35_0 := bc (.string (⟨#[]⟩ : ByteArray)) BK197 0; have hcz35_1 := bc (.string (⟨#[]⟩ : ByteArray)) BK197 1; have hfz35_0 := blk_frozen BK197.out 0; have hfz35_1 := blk_frozen BK197.out 1) | (refine gd 62 14 ?_; refine gc 62 Tryd.func14 #[.int .i64 (x4_1.length : Int), .agg #[.string t194, .string t195]] (impl_EncodeRecord.calls k1 (x4_1.length : Int) t194 t195 t198 false _ (GL.below HG.out ax45) A15.out) ?_; rintro e w36 ⟨rfl, hb⟩; refine ⟨_, rfl, ?_⟩; replace HO_4 := Aside0.mk (Kd.R_below ax46 hb); replace HO_5 := Aside0.mk (Kd.R_below ax47 hb); replace BK197 := Aside0.mk (blk_below (g := gb197) (o := .cells #[.string t194, .string t195] 33 (0, 0)) ax48 hb); replace HB := Aside0.mk (below_step ax45 hb); (try clear hb); (try clear hb2); (try clear hk); (try clear hi)))
        go_ret2
        exact ⟨_, _, by first | rfl | (simp [errW_none, errW_some] <;> rfl) | (simp only [← hjs9]; first | rfl | (simp [errW_none, errW_some] <;> rfl)) | (simp [*, errW_none, errW_some] <;> rfl), by (with_reducible repeat (first | apply Kd.R_alloc | apply Kd.R_drewN | apply Kd.R_drew)); exact Kd.R_mono HO_4.out (fun _ hk => trivial), by (with_reducible repeat (first | apply Kd.R_alloc | apply Kd.R_drewN | apply Kd.R_drew)); exact HO_5.out, by repeat (first | (with_reducible first | exact HB.out | apply below_alloc | apply pw_below_drewN | apply below_drew1 | refine below_set ?_ GE197.out) | exact HB.out)⟩
      ·replace c11 := Bool.eq_false_iff.mpr c11
       subst c11
       rw [if_neg (show ¬ (false = true) by decide)] at H
       simp only [Option.some.injEq, Prod.mk.injEq] at H
       obtain ⟨rfl, rfl⟩ := H
       obtain ⟨Ao37, co37, eo37⟩ := Kd.R_slice HO_4.out
       subst eo37
       go_wp2_with (first | (refine gd 31 63 ?_; refine gc 31 Tryd.func63 #[.string js9, .string (⟨#[10]⟩ : ByteArray)] (strings_Cut.calls js9 (⟨#[10]⟩ : ByteArray) t185 t186 false _ (GL.below HG.out ax11) A10.out) ?_; rintro e w' ⟨rfl, ⟨nd, rfl⟩⟩; refine ⟨_, rfl, ?_⟩))
       go_ret2
       exact ⟨_, _, by first | rfl | (simp [errW_none, errW_some] <;> rfl) | (simp only [← hjs9]; first | rfl | (simp [errW_none, errW_some] <;> rfl)) | (simp [*, errW_none, errW_some] <;> rfl), by (with_reducible repeat (first | apply Kd.R_alloc | apply Kd.R_drewN | apply Kd.R_drew)); exact HO_4.out, by (with_reducible repeat (first | apply Kd.R_alloc | apply Kd.R_drewN | apply Kd.R_drew)); exact HO_5.out, by repeat (first | (with_reducible first | exact HB.out | apply below_alloc | apply pw_below_drewN | apply below_drew1) | exact HB.out)⟩
     ·rw [if_neg c8] at H
      exact absurd H (by simp)
    ·exact ax5
   ·rw [if_neg c6] at H
    have c6b0 : decide ((x4_1.length : Int) < 40) = false := decide_eq_false c6
    have c6b1 : decide (x4_1.length < 40) = false := decide_eq_false (by omega)
    clear c6
    simp only [Option.some.injEq, Prod.mk.injEq] at H
    obtain ⟨rfl, rfl⟩ := H
    obtain ⟨Ao38, co38, eo38⟩ := Kd.R_slice HO_4.out
    subst eo38
    go_wp2
    go_ret2
    exact ⟨_, _, by first | rfl | (simp [errW_none, errW_some] <;> rfl) | (simp [*, errW_none, errW_some] <;> rfl), by (with_reducible repeat (first | apply Kd.R_alloc | apply Kd.R_drewN | apply Kd.R_drew)); exact HO_4.out, by (with_reducible repeat (first | apply Kd.R_alloc | apply Kd.R_drewN | apply Kd.R_drew)); exact HO_5.out, by repeat (first | (with_reducible first | exact HB.out | apply below_alloc | apply pw_below_drewN | apply below_drew1) | exact HB.out)⟩

/-! ### impl_Log_records: function 46 -/
mutual
def impl_Log_records.j0 : Nat → List (S33) → List Int → Bool → ByteArray → ByteArray → Int → Option ((List (S33)) × Bool)
 | 0, _, _, _, _, _, _ => none
 | k + 1, x5, x6, x36, x207000, x207001, x207002 => if x36 = true then (some (([] : List (S33)), false)) else (impl_Log_records.l0 k x5 x6 (x6.length : Int) 0 x207000 x207001 x207002)
def impl_Log_records.l0 : Nat → List (S33) → List Int → Int → Int → ByteArray → ByteArray → Int → Option ((List (S33)) × Bool)
 | 0, _, _, _, _, _, _, _ => none
 | k + 1, x5, x37, x38, x39, x207000, x207001, x207002 => if x39 < x38 then (if 0 ≤ x39 then (if x39 < (x37.length : Int) then (if (rd x37 x39) = (x207000.size : Int) then (some (x5, true)) else (impl_Log_records.l0 k x5 x37 x38 (wrap64 (x39 + 1)) x207000 x207001 x207002)) else (none)) else (none)) else (some (([] : List (S33)), false))
end
def impl_Log_records.f (k : Nat) (a0_0 : ByteArray) (a0_1 : ByteArray) (a0_2 : Int) : Option ((List (S33)) × Bool) := if a0_0.size + a0_1.size ≤ 9223372036854775807 then (if ((a0_0 ++ a0_1).size : Int) > 30000 then (some (([] : List (S33)), false)) else ((impl_readRecords.f k (a0_0 ++ a0_1)).bind fun bt207 => (if 0 ≤ (bt207.1.length : Int) then (if (bt207.1.length : Int) < (bt207.2.length : Int) then (if (rd bt207.2 (bt207.1.length : Int)) = ((a0_0 ++ a0_1).size : Int) then (impl_Log_records.j0 k bt207.1 bt207.2 ((bt207.1.length : Int) != a0_2) a0_0 a0_1 a0_2) else (impl_Log_records.j0 k bt207.1 bt207.2 true a0_0 a0_1 a0_2)) else (none)) else (none)))) else (none)
theorem impl_Log_records.mono_l : ∀ k, (∀ y0 y1 y2 y3 y4 y5, LeO (impl_Log_records.j0 k y0 y1 y2 y3 y4 y5) (impl_Log_records.j0 (k + 1) y0 y1 y2 y3 y4 y5)) ∧ (∀ y0 y1 y2 y3 y4 y5 y6, LeO (impl_Log_records.l0 k y0 y1 y2 y3 y4 y5 y6) (impl_Log_records.l0 (k + 1) y0 y1 y2 y3 y4 y5 y6))
 | 0 => ⟨fun _ _ _ _ _ _ r h => by simp [impl_Log_records.j0] at h, fun _ _ _ _ _ _ _ r h => by simp [impl_Log_records.l0] at h⟩
 | k + 1 => by
  obtain ⟨ih0, ih1⟩ := impl_Log_records.mono_l k
  refine ⟨?_, ?_⟩ <;> intros
  all_goals (first | unfold impl_Log_records.j0 | unfold impl_Log_records.l0)
  all_goals (repeat' first | (with_reducible first | exact ih0 .. | exact ih1 .. | exact impl_readRecords.mono .. | exact LeO.refl _ | exact LeO.none _ | refine LeO.ite ?_ ?_ | refine LeO.bind ?_ (fun _ => ?_)) | exact ih0 .. | exact ih1 .. | exact impl_readRecords.mono .. | exact LeO.none _ | refine LeO.ite ?_ ?_ | refine LeO.bind ?_ (fun _ => ?_))
theorem impl_Log_records.mono : ∀ a0 a1 a2 k, LeO (impl_Log_records.f k a0 a1 a2) (impl_Log_records.f (k + 1) a0 a1 a2) := by
 intro a0 a1 a2 k
 obtain ⟨ih0, ih1⟩ := impl_Log_records.mono_l k
 unfold impl_Log_records.f
 repeat' first | (with_reducible first | exact ih0 .. | exact ih1 .. | exact impl_readRecords.mono .. | exact LeO.refl _ | exact LeO.none _ | refine LeO.ite ?_ ?_ | refine LeO.bind ?_ (fun _ => ?_)) | exact ih0 .. | exact ih1 .. | exact impl_readRecords.mono .. | exact LeO.none _ | refine LeO.ite ?_ ?_ | refine LeO.bind ?_ (fun _ => ?_)
set_option maxHeartbeats 8000000 in
set_option maxRecDepth 100000 in
theorem impl_Log_records.calls (k : Nat) (a0_0 : ByteArray) (a0_1 : ByteArray) (a0_2 : Int) (r1 : List (S33)) (r2 : Bool) (w : World) (hG : GL w) (h : impl_Log_records.f k a0_0 a0_1 a0_2 = some (r1, r2)) :
  Calls Tryd.prog 46 #[.agg #[.string a0_0, .string a0_1, .int .i64 a0_2]] w fun e w' => ∃ v0_ : Value, e = .returned (.tuple #[v0_, .bool r2]) ∧ Kd.R k33 33 w' w.heap.size (fun _ => True) v0_ r1 ∧ Below w.heap.size w w' := by
 have hu27 := Tryd.underlying27; have HB := Aside0.mk (Below.refl w.heap.size w); have HG := Aside0.mk hG; clear hG
 have H : (if a0_0.size + a0_1.size ≤ 9223372036854775807 then (if ((a0_0 ++ a0_1).size : Int) > 30000 then (some (([] : List (S33)), false)) else ((impl_readRecords.f k (a0_0 ++ a0_1)).bind fun bt207 => (if 0 ≤ (bt207.1.length : Int) then (if (bt207.1.length : Int) < (bt207.2.length : Int) then (if (rd bt207.2 (bt207.1.length : Int)) = ((a0_0 ++ a0_1).size : Int) then (impl_Log_records.j0 k bt207.1 bt207.2 ((bt207.1.length : Int) != a0_2) a0_0 a0_1 a0_2) else (impl_Log_records.j0 k bt207.1 bt207.2 true a0_0 a0_1 a0_2)) else (none)) else (none)))) else (none)) = some (r1, r2) := h
 clear h
 by_cases c2 : a0_0.size + a0_1.size ≤ 9223372036854775807
 ·rw [if_pos c2] at H
  have c2b0 := eq_true c2
  have c2b1 : decide (a0_0.size + a0_1.size ≤ 9223372036854775807) = true := decide_eq_true c2
  try have c2b2 : (9223372036854775807 < a0_0.size + a0_1.size) = False := eq_false (Nat.not_lt.2 c2)
  clear c2
  obtain ⟨js3, hjs3⟩ : ∃ j_ : ByteArray, (a0_0 ++ a0_1) = j_ := ⟨_, rfl⟩
  replace H : (if (js3.size : Int) > 30000 then (some (([] : List (S33)), false)) else ((impl_readRecords.f k js3).bind fun bt207 => (if 0 ≤ (bt207.1.length : Int) then (if (bt207.1.length : Int) < (bt207.2.length : Int) then (if (rd bt207.2 (bt207.1.length : Int)) = (js3.size : Int) then (impl_Log_records.j0 k bt207.1 bt207.2 ((bt207.1.length : Int) != a0_2) a0_0 a0_1 a0_2) else (impl_Log_records.j0 k bt207.1 bt207.2 true a0_0 a0_1 a0_2)) else (none)) else (none)))) = some (r1, r2) := by first | (rw [hjs3] at H; exact H) | (simp only [hjs3] at H ⊢; exact H)
  by_cases c4 : (js3.size : Int) > 30000
  ·rw [if_pos c4] at H
   have c4b0 : decide (30000 < (js3.size : Int)) = true := decide_eq_true c4
   have c4b1 : decide (30000 < js3.size) = true := decide_eq_true (by omega)
   clear c4
   simp only [Option.some.injEq, Prod.mk.injEq] at H
   obtain ⟨rfl, rfl⟩ := H
   go_enter Tryd.func46, Tryd.ntmps46
   go_wp2_with (first | ((with_reducible refine gate_dst (N := 1) rfl ?_); (try (refine gate_guard (by rfl) ?_; dsimp only)); refine box_event ?hg (N := 1) ?hd (cs := #[.string a0_0, .string a0_1, .int .i64 a0_2]) (t := 27) ?hr ?_; (case hd => rfl); (case hg => rfl); (case hr => exact ax9); intro gb206 hg w5 hbox hb; have BK206 := Aside0.mk (hbox); have GW206 := uG hg HB; have GE206 := uG hg HB; replace HB := uB HB hb; clear hb hbox hg; have hcz6_0 := bc (.string a0_0) BK206 0; have hcz6_1 := bc (.string a0_1) BK206 1; have hcz6_2 := bc (.int .i64 a0_2) BK206 2; have hfz6_0 := blk_frozen BK206.out 0; have hfz6_1 := blk_frozen BK206.out 1; have hfz6_2 := blk_frozen BK206.out 2))
   go_ret2
   exact ⟨_, by first | rfl | (simp [errW_none, errW_some] <;> rfl) | (simp only [← hjs3]; first | rfl | (simp [errW_none, errW_some] <;> rfl)) | (simp [*, errW_none, errW_some] <;> rfl), by first | exact Kd.R_nil _ _ _ _ _ | exact Kd.N_nil _ _ _ _ _ | exact Kd.V_nil _ _ _ _ _ | exact Kd.Q_nil _ _ _ _ _ | exact Kd.S_nil _ _ _ _ _, by repeat (first | (with_reducible first | exact HB.out | apply below_alloc | apply pw_below_drewN | apply below_drew1 | refine below_set ?_ GE206.out) | exact HB.out)⟩
  ·rw [if_neg c4] at H
   have c4b0 : decide (30000 < (js3.size : Int)) = false := decide_eq_false c4
   have c4b1 : decide (30000 < js3.size) = false := decide_eq_false (by omega)
   clear c4
   obtain ⟨⟨t207, t208⟩, A7, H⟩ := bs H
   have HC8 := Aside0.mk H; clear H
   go_enter Tryd.func46, Tryd.ntmps46
   go_upto_region 5 with (first | ((with_reducible refine gate_dst (N := 1) rfl ?_); (try (refine gate_guard (by rfl) ?_; dsimp only)); refine box_event ?hg (N := 1) ?hd (cs := #[.string a0_0, .string a0_1, .int .i64 a0_2]) (t := 27) ?hr ?_; (case hd => rfl); (case hg => rfl); (case hr => exact ax9); intro gb206 hg w9 hbox hb; have BK206 := Aside0.mk (hbox); have GW206 := uG hg HB; have GE206 := uG hg HB; replace HB := uB HB hb; clear hb hbox hg; have hcz10_0 := bc (.string a0_0) BK206 0; have hcz10_1 := bc (.string a0_1) BK206 1; have hcz10_2 := bc (.int .i64 a0_2) BK206 2; have hfz10_0 := blk_frozen BK206.out 0; have hfz10_1 := blk_frozen BK206.out 1; have hfz10_2 := blk_frozen BK206.out 2) | (refine gd 19 50 ?_; refine gc 19 Tryd.func50 #[.string js3] (impl_readRecords.calls k js3 t207 t208 _ (GL.below HG.out ax52) A7.out) ?_; rintro e w11 ⟨v209, v211, rfl, ho0, ho1, hb⟩; refine ⟨_, rfl, ?_⟩; have HO210 := Aside0.mk (Kd.R_lower ho0 (below_size ax52)); have HO212 := Aside0.mk (Kd.R_lower ho1 (below_size ax52)); replace BK206 := ub BK206 hb; replace HB := Aside0.mk (below_step ax52 hb); (try clear hb); (try clear hb2); (try clear hk); (try clear hi); (try clear ho0); (try clear ho1)))
   (try simp only [Act.put, List.setIfInBounds_toArray, List.set_cons_zero, List.set_cons_succ])
   go_cut [36] (fun v36 wc => ∃ (kq : Nat) (x36_7 : Bool), v36 = .bool x36_7 ∧ Aside0 (impl_Log_records.j0 kq t207 t208 x36_7 a0_0 a0_1 a0_2 = some (r1, r2)) ∧ Aside0 (kq ≤ k) ∧ Aside0 (Kd.R k33 33 wc w.heap.size (fun _ => True) v209 t207) ∧ Aside0 (Kd.R (Kd.int .i64) 3 wc w.heap.size (fun _ => True) v211 t208) ∧ Aside0 (wc.heap[gb206]? = some (.cells #[.string a0_0, .string a0_1, .int .i64 a0_2] 27 (0, 0))) ∧ Aside0 (Below w.heap.size w wc))
   case first =>
    have H := HC8.out; clear HC8
    by_cases c12 : 0 ≤ (t207.length : Int)
    ·rw [if_pos c12] at H
     have c12b0 : decide (0 ≤ (t207.length : Int)) = true := decide_eq_true c12
     have c12b1 : decide (0 ≤ t207.length) = true := decide_eq_true (by omega)
     clear c12
     (first | rw [c12b0] | (simp only [i64_w, i32_w]; rw [c12b0]) | skip)
     by_cases c13 : (t207.length : Int) < (t208.length : Int)
     ·rw [if_pos c13] at H
      have c13b0 : decide ((t207.length : Int) < (t208.length : Int)) = true := decide_eq_true c13
      have c13b1 : decide (t207.length < t208.length) = true := decide_eq_true (Int.ofNat_lt.mp c13)
      clear c13
      by_cases c14 : (rd t208 (t207.length : Int)) = (js3.size : Int)
      ·rw [if_pos c14] at H
       have c14b0 : ((rd t208 (t207.length : Int)) == (js3.size : Int)) = true := beq_iff_eq.mpr c14
       have c14b1 : ((rd t208 (t207.length : Int)) != (js3.size : Int)) = false := bne_eq_false_iff_eq.mpr c14
       clear c14
       have H' := Aside0.mk H
       clear H
       obtain ⟨Ao15, co15, eo15⟩ := Kd.R_slice HO210.out
       subst eo15
       obtain ⟨Ao16, co16, eo16⟩ := Kd.R_slice HO212.out
       subst eo16
       have p213 : 0 ≤ ((t207.length : Int) : Int) := of_decide_eq_true ax12
       have q213 : (t207.length : Int) < (t208.length : Int) := of_decide_eq_true ax12
       obtain ⟨ad213, e213, hx213_0⟩ := Kd.at_int (Kd.R_reads' HO212.out).2.2 (t207.length : Int) p213 q213
       cases e213
       (try simp only [Go.IntWalk.toNatUp] at hx213_0)
       replace p213 := eq_true p213; replace q213 := eq_true q213; have hcz17_0 := bc (.string a0_0) BK206 0; have hcz17_1 := bc (.string a0_1) BK206 1; have hcz17_2 := bc (.int .i64 a0_2) BK206 2; have hfz17_0 := blk_frozen BK206.out 0; have hfz17_1 := blk_frozen BK206.out 1; have hfz17_2 := blk_frozen BK206.out 2
       go_wp2
       go_meet
       case rel => exact ⟨_, (((t207.length : Int) != a0_2)), ax10, H', ⟨by first | omega | exact Nat.le_refl _⟩, ⟨ax53⟩, ⟨ax54⟩, ⟨ax55⟩, ⟨ax52⟩⟩
      ·rw [if_neg c14] at H
       have c14b0 : ((rd t208 (t207.length : Int)) == (js3.size : Int)) = false := beq_eq_false_iff_ne.mpr c14
       have c14b1 : ((rd t208 (t207.length : Int)) != (js3.size : Int)) = true := bne_iff_ne.mpr c14
       have H' := Aside0.mk H
       clear H
       obtain ⟨Ao18, co18, eo18⟩ := Kd.R_slice HO210.out
       subst eo18
       obtain ⟨Ao19, co19, eo19⟩ := Kd.R_slice HO212.out
       subst eo19
       have p213 : 0 ≤ ((t207.length : Int) : Int) := of_decide_eq_true ax12
       have q213 : (t207.length : Int) < (t208.length : Int) := of_decide_eq_true ax12
       obtain ⟨ad213, e213, hx213_0⟩ := Kd.at_int (Kd.R_reads' HO212.out).2.2 (t207.length : Int) p213 q213
       cases e213
       (try simp only [Go.IntWalk.toNatUp] at hx213_0)
       replace p213 := eq_true p213; replace q213 := eq_true q213
       go_wp2
       go_meet
       case rel => exact ⟨_, (true), ax10, H', ⟨by first | omega | exact Nat.le_refl _⟩, ⟨ax53⟩, ⟨ax54⟩, ⟨ax55⟩, ⟨ax52⟩⟩
     ·exact ax1
    ·rw [if_neg c12] at H
     exact absurd H (by simp)
   case rest =>
    clear HC8
    try clear c1
    try clear c2
    try clear c2b0
    try clear c2b1
    try clear c2b2
    try clear p2
    try clear q2
    try clear hx2
    try clear c4
    try clear c4b0
    try clear c4b1
    try clear c5
    try clear c12
    try clear c12b0
    try clear c12b1
    try clear c13
    try clear c13b0
    try clear c13b1
    try clear c14
    try clear c14b0
    try clear c14b1
    try clear hcz10_0
    try clear hcz10_1
    try clear hcz10_2
    try clear hcz17_0
    try clear hcz17_1
    try clear hcz17_2
    try clear hcz6_0
    try clear hcz6_1
    try clear hcz6_2
    try clear hfz10_0
    try clear hfz10_1
    try clear hfz10_2
    try clear hfz17_0
    try clear hfz17_1
    try clear hfz17_2
    try clear hfz6_0
    try clear hfz6_1
    try clear hfz6_2
    try clear hx213_0
    try clear p213
    try clear q213
    obtain ⟨kq, x36_7, rfl, HA, HJ7, HO_5, HO_6, BK206, HB⟩ := hcut
    cases kq with
    | zero => exact absurd HA.out (by simp [impl_Log_records.j0])
    | succ kj7 =>
     have H := HA.out; clear HA
     simp only [impl_Log_records.j0] at H
     by_cases c20 : x36_7 = true
     ·subst c20
      rw [if_pos rfl] at H
      simp only [Option.some.injEq, Prod.mk.injEq] at H
      obtain ⟨rfl, rfl⟩ := H
      go_wp2
      go_ret2
      exact ⟨_, by first | rfl | (simp [errW_none, errW_some] <;> rfl) | (simp only [← hjs3]; first | rfl | (simp [errW_none, errW_some] <;> rfl)) | (simp [*, errW_none, errW_some] <;> rfl), by first | exact Kd.R_nil _ _ _ _ _ | exact Kd.N_nil _ _ _ _ _ | exact Kd.V_nil _ _ _ _ _ | exact Kd.Q_nil _ _ _ _ _ | exact Kd.S_nil _ _ _ _ _, by repeat (first | (with_reducible first | exact HB.out | apply below_alloc | apply pw_below_drewN | apply below_drew1 | refine below_set ?_ GE206.out) | exact HB.out)⟩
     ·replace c20 := Bool.eq_false_iff.mpr c20
      subst c20
      rw [if_neg (show ¬ (false = true) by decide)] at H
      have H' := Aside0.mk H
      clear H
      obtain ⟨Ao21, co21, eo21⟩ := Kd.R_slice HO_6.out
      subst eo21
      go_wp2
      go_loopg [39] kj7 (fun kq v39 w' => ∃ (x39_2 : Int), v39 = .int .i64 x39_2 ∧ Aside0 (impl_Log_records.l0 kq t207 t208 (t208.length : Int) x39_2 a0_0 a0_1 a0_2 = some (r1, r2)) ∧ Aside0 (kq ≤ kj7) ∧ Aside0 (Kd.R k33 33 w' w.heap.size (fun _ => True) v209 t207) ∧ Aside0 (Kd.R (Kd.int .i64) 3 w' w.heap.size (fun _ => True) (.slice Ao21 t208.length co21) t208) ∧ Aside0 (w'.heap[gb206]? = some (.cells #[.string a0_0, .string a0_1, .int .i64 a0_2] 27 (0, 0))) ∧ Aside0 (Below w.heap.size w w'))
      case atStart => exact ⟨(0), ax10, H', ⟨Nat.le_refl _⟩, ⟨ax17⟩, ⟨(by (with_reducible repeat (first | apply Kd.R_alloc | apply Kd.R_drewN | apply Kd.R_drew)); exact HO_6.out)⟩, ⟨ax55⟩, ⟨ax52⟩⟩
      case round =>
       clear H'
       try clear c1
       try clear c2
       try clear c2b0
       try clear c2b1
       try clear c2b2
       try clear p2
       try clear q2
       try clear hx2
       try clear c4
       try clear c4b0
       try clear c4b1
       try clear c5
       try clear c12
       try clear c12b0
       try clear c12b1
       try clear c13
       try clear c13b0
       try clear c13b1
       try clear c14
       try clear c14b0
       try clear c14b1
       try clear c20
       try clear p21
       try clear q21
       try clear hx21
       try clear hcz10_0
       try clear hcz10_1
       try clear hcz10_2
       try clear hcz17_0
       try clear hcz17_1
       try clear hcz17_2
       try clear hcz6_0
       try clear hcz6_1
       try clear hcz6_2
       try clear hfz10_0
       try clear hfz10_1
       try clear hfz10_2
       try clear hfz17_0
       try clear hfz17_1
       try clear hfz17_2
       try clear hfz6_0
       try clear hfz6_1
       try clear hfz6_2
       try clear hx213_0
       try clear p2
       try clear p213
       try clear q2
       try clear q213
       obtain ⟨x39_2, rfl, HA, HK2, HO_5, HO_37, BK206, HB⟩ := hrel
       cases gk with
       | zero => exact absurd HA.out (by simp [impl_Log_records.l0])
       | succ k2 =>
        have H := HA.out; clear HA
        simp only [impl_Log_records.l0] at H
        by_cases c22 : x39_2 < (t208.length : Int)
        ·rw [if_pos c22] at H
         have c22b0 : decide (x39_2 < (t208.length : Int)) = true := decide_eq_true c22
         clear c22
         by_cases c23 : 0 ≤ x39_2
         ·rw [if_pos c23] at H
          have c23b0 : decide (0 ≤ x39_2) = true := decide_eq_true c23
          clear c23
          by_cases c24 : x39_2 < (t208.length : Int)
          ·rw [if_pos c24] at H
           have c24b0 : decide (x39_2 < (t208.length : Int)) = true := decide_eq_true c24
           clear c24
           by_cases c25 : (rd t208 x39_2) = (a0_0.size : Int)
           ·rw [if_pos c25] at H
            have c25b0 : ((rd t208 x39_2) == (a0_0.size : Int)) = true := beq_iff_eq.mpr c25
            have c25b1 : ((rd t208 x39_2) != (a0_0.size : Int)) = false := bne_eq_false_iff_eq.mpr c25
            clear c25
            simp only [Option.some.injEq, Prod.mk.injEq] at H
            obtain ⟨rfl, rfl⟩ := H
            have p214 : 0 ≤ (x39_2 : Int) := of_decide_eq_true ax12
            have q214 : x39_2 < (t208.length : Int) := of_decide_eq_true ax12
            obtain ⟨ad214, e214, hx214_0⟩ := Kd.at_int (Kd.R_reads' HO_37.out).2.2 x39_2 p214 q214
            cases e214; replace p214 := eq_true p214; replace q214 := eq_true q214; have hcz26_0 := bc (.string a0_0) BK206 0; have hcz26_1 := bc (.string a0_1) BK206 1; have hcz26_2 := bc (.int .i64 a0_2) BK206 2; have hfz26_0 := blk_frozen BK206.out 0; have hfz26_1 := blk_frozen BK206.out 1; have hfz26_2 := blk_frozen BK206.out 2
            go_wp2
            go_ret2
            exact ⟨_, by first | rfl | (simp [errW_none, errW_some] <;> rfl) | (simp only [← hjs3]; first | rfl | (simp [errW_none, errW_some] <;> rfl)) | (simp [*, errW_none, errW_some] <;> rfl), by (with_reducible repeat (first | apply Kd.R_alloc | apply Kd.R_drewN | apply Kd.R_drew)); exact HO_5.out, by repeat (first | (with_reducible first | exact HB.out | apply below_alloc | apply pw_below_drewN | apply below_drew1 | refine below_set ?_ GE206.out) | exact HB.out)⟩
           ·rw [if_neg c25] at H
            have c25b0 : ((rd t208 x39_2) == (a0_0.size : Int)) = false := beq_eq_false_iff_ne.mpr c25
            have c25b1 : ((rd t208 x39_2) != (a0_0.size : Int)) = true := bne_iff_ne.mpr c25
            have H' := Aside0.mk H
            clear H
            have p214 : 0 ≤ (x39_2 : Int) := of_decide_eq_true ax12
            have q214 : x39_2 < (t208.length : Int) := of_decide_eq_true ax12
            obtain ⟨ad214, e214, hx214_0⟩ := Kd.at_int (Kd.R_reads' HO_37.out).2.2 x39_2 p214 q214
            cases e214; replace p214 := eq_true p214; replace q214 := eq_true q214; have hcz27_0 := bc (.string a0_0) BK206 0; have hcz27_1 := bc (.string a0_1) BK206 1; have hcz27_2 := bc (.int .i64 a0_2) BK206 2; have hfz27_0 := blk_frozen BK206.out 0; have hfz27_1 := blk_frozen BK206.out 1; have hfz27_2 := blk_frozen BK206.out 2
            go_wp2
            go_roundg k2
            case measure => have := HJ7.out; have := HK2.out; omega
            case rel => exact ⟨(wrap64 (x39_2 + 1)), ax10, H', ⟨(by have := HJ7.out; have := HK2.out; omega)⟩, ⟨ax17⟩, ⟨(by (with_reducible repeat (first | apply Kd.R_alloc | apply Kd.R_drewN | apply Kd.R_drew)); exact HO_37.out)⟩, ⟨ax55⟩, ⟨ax52⟩⟩
          ·rw [if_neg c24] at H
           exact absurd H (by simp)
         ·rw [if_neg c23] at H
          exact absurd H (by simp)
        ·rw [if_neg c22] at H
         have c22b0 : decide (x39_2 < (t208.length : Int)) = false := decide_eq_false c22
         clear c22
         simp only [Option.some.injEq, Prod.mk.injEq] at H
         obtain ⟨rfl, rfl⟩ := H
         go_wp2
         go_ret2
         exact ⟨_, by first | rfl | (simp [errW_none, errW_some] <;> rfl) | (simp only [← hjs3]; first | rfl | (simp [errW_none, errW_some] <;> rfl)) | (simp [*, errW_none, errW_some] <;> rfl), by first | exact Kd.R_nil _ _ _ _ _ | exact Kd.N_nil _ _ _ _ _ | exact Kd.V_nil _ _ _ _ _ | exact Kd.Q_nil _ _ _ _ _ | exact Kd.S_nil _ _ _ _ _, by repeat (first | (with_reducible first | exact HB.out | apply below_alloc | apply pw_below_drewN | apply below_drew1 | refine below_set ?_ GE206.out) | exact HB.out)⟩
 ·rw [if_neg c2] at H
  exact absurd H (by simp)

/-! ### impl_IsValidLog: function 22 -/
def impl_IsValidLog.f (k : Nat) (a0_0 : ByteArray) (a0_1 : ByteArray) (a0_2 : Int) : Option (Bool) := (impl_Log_records.f k a0_0 a0_1 a0_2).bind fun bt216 => (some bt216.2)
theorem impl_IsValidLog.mono : ∀ a0 a1 a2 k, LeO (impl_IsValidLog.f k a0 a1 a2) (impl_IsValidLog.f (k + 1) a0 a1 a2) := by
 intro a0 a1 a2 k
 unfold impl_IsValidLog.f
 repeat' first | (with_reducible first | exact impl_Log_records.mono .. | exact LeO.refl _ | exact LeO.none _ | refine LeO.ite ?_ ?_ | refine LeO.bind ?_ (fun _ => ?_)) | exact impl_Log_records.mono .. | exact LeO.none _ | refine LeO.ite ?_ ?_ | refine LeO.bind ?_ (fun _ => ?_)
set_option maxHeartbeats 8000000 in
set_option maxRecDepth 100000 in
theorem impl_IsValidLog.calls (k : Nat) (a0_0 : ByteArray) (a0_1 : ByteArray) (a0_2 : Int) (r : Bool) (w : World) (hG : GL w) (h : impl_IsValidLog.f k a0_0 a0_1 a0_2 = some r) :
  Calls Tryd.prog 22 #[.agg #[.string a0_0, .string a0_1, .int .i64 a0_2]] w fun e w' => e = .returned (.bool r) ∧ Below w.heap.size w w' := by
 have hu27 := Tryd.underlying27; have HB := Aside0.mk (Below.refl w.heap.size w); have HG := Aside0.mk hG; clear hG
 have H : ((impl_Log_records.f k a0_0 a0_1 a0_2).bind fun bt216 => (some bt216.2)) = some r := h
 clear h
 obtain ⟨⟨t216, t219⟩, A2, H⟩ := bs H
 obtain rfl := Option.some.inj H
 go_enter Tryd.func22, Tryd.ntmps22
 go_wp2_with (first | ((with_reducible refine gate_dst (N := 1) rfl ?_); refine box_event ?hg (N := 1) ?hd (cs := #[.string a0_0, .string a0_1, .int .i64 a0_2]) (t := 27) ?hr ?_; (case hd => rfl); (case hg => rfl); (case hr => exact ax9); intro gb215 hg w3 hbox hb; have BK215 := Aside0.mk (hbox); have GW215 := uG hg HB; have GE215 := uG hg HB; replace HB := uB HB hb; clear hb hbox hg; have hcz4_0 := bc (.string a0_0) BK215 0; have hcz4_1 := bc (.string a0_1) BK215 1; have hcz4_2 := bc (.int .i64 a0_2) BK215 2; have hfz4_0 := blk_frozen BK215.out 0; have hfz4_1 := blk_frozen BK215.out 1; have hfz4_2 := blk_frozen BK215.out 2) | (refine gd 7 46 ?_; refine gc 7 Tryd.func46 #[.agg #[.string a0_0, .string a0_1, .int .i64 a0_2]] (impl_Log_records.calls k a0_0 a0_1 a0_2 t216 t219 _ (GL.below HG.out ax56) A2.out) ?_; rintro e w5 ⟨v217, rfl, ho0, hb⟩; refine ⟨_, rfl, ?_⟩; have HO218 := Aside0.mk (Kd.R_lower ho0 (below_size ax56)); replace BK215 := ub BK215 hb; replace HB := Aside0.mk (below_step ax56 hb); (try clear hb); (try clear hb2); (try clear hk); (try clear hi); (try clear ho0)))
 go_ret
 exact ⟨ax18, by repeat (first | (with_reducible first | exact HB.out | apply below_alloc | apply pw_below_drewN | apply below_drew1 | refine below_set ?_ GE215.out) | exact HB.out)⟩

end Go.Proofs.YtnjjchbhbicmoaaDoor.X

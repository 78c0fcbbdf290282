-- By gen.py (the session's own program over the kit's printer): functions of the program, each with its contract. Lean checks it.
import Derived.Test.YtmecniejpoopfaaGreatDoorX0
import Derived.Test.YtmecniejpoopfaaGreatDoorX3
import Derived.Test.YtmecniejpoopfaaGreatDoorX4
namespace Go.Proofs.YtmecniejpoopfaaGreatDoor.X
open Go.RowKit Go.Proofs.YtmecniejpoopfaaGreatDoorW.PrintWords Go.Proofs.YtmecniejpoopfaaGreatDoorW.PrintLast Go.Proofs.YtmecniejpoopfaaGreatDoorW.PrintMore
attribute [local go_sem] max2_int min2_int max_two min_two max_three min_three max_four min_four   -- for this text's walks alone
set_option linter.unusedVariables false
set_option linter.unusedSimpArgs false

/-! ### impl_trieOf: function 73 -/
mutual
def impl_trieOf.l0 : Nat → List ByteArray → List ByteArray → List ByteArray → Int → Int → Option ((List (S105)))
 | 0, _, _, _, _, _ => none
 | k + 1, x0, x3, x15, x16, x17 => if x17 < x16 then (if 0 ≤ x17 then (if x17 < (x15.length : Int) then (impl_trieOf.l1 k x0 x3 (rdOf ByteArray.empty x15 x17) x15 x16 x17 ((rdOf ByteArray.empty x15 x17).size : Int) 0) else (none)) else (none)) else ((impl_set.f x3).bind fun t208 => (impl_trieOf.l2 k x0 t208 (t208.length : Int) 0 ([] : List (ByteArray × Int)) ([] : List (S105))))
def impl_trieOf.l1 : Nat → List ByteArray → List ByteArray → ByteArray → List ByteArray → Int → Int → Int → Int → Option ((List (S105)))
 | 0, _, _, _, _, _, _, _, _ => none
 | k + 1, x0, x3, x5, x15, x16, x17, x22, x23 => if x23 < x22 then (if 0 ≤ (wrap64 (x23 + 1)) then (if (wrap64 (x23 + 1)) ≤ (x5.size : Int) then (if x3.length < 8796093022208 then (impl_trieOf.l1 k x0 (x3 ++ [x5.extract 0 ((wrap64 (x23 + 1)) : Int).toNat]) x5 x15 x16 x17 x22 (wrap64 (x23 + 1))) else (none)) else (none)) else (none)) else (impl_trieOf.l0 k x0 x3 x15 x16 (wrap64 (x17 + 1)))
def impl_trieOf.l2 : Nat → List ByteArray → List ByteArray → Int → Int → List (ByteArray × Int) → List (S105) → Option ((List (S105)))
 | 0, _, _, _, _, _, _ => none
 | k + 1, x0, x39, x40, x41, x212000, x213000 => if x41 < x40 then (if 0 ≤ x41 then (if x41 < (x39.length : Int) then (if x212000.length < 9223372036854775807 then (if (rdOf ByteArray.empty x39 x41).size ≤ 9223372036854775807 then (if -9223372036854775808 ≤ x41 then (if x41 ≤ 9223372036854775807 then ((some ((rdOf ByteArray.empty x39 x41, x41) :: x212000 : List (ByteArray × Int))).bind fun y214 => ((slices_BinarySearch_string_string.f k x0 (rdOf ByteArray.empty x39 x41)).bind fun bt215 => (if (rdOf ByteArray.empty x39 x41).toList = ([] : List UInt8) then (if x213000.length < 5864062014805 then (impl_trieOf.l2 k x0 x39 x40 (wrap64 (x41 + 1)) y214 (x213000 ++ [(⟨(-1), (-1), bt215.2⟩ : S105)])) else (none)) else (if 0 ≤ (wrap64 (((rdOf ByteArray.empty x39 x41).size : Int) - 1)) then (if (wrap64 (((rdOf ByteArray.empty x39 x41).size : Int) - 1)) < ((rdOf ByteArray.empty x39 x41).size : Int) then (if (wrap64 (((rdOf ByteArray.empty x39 x41).size : Int) - 1)) ≤ ((rdOf ByteArray.empty x39 x41).size : Int) then (if ((rdOf ByteArray.empty x39 x41).extract 0 ((wrap64 (((rdOf ByteArray.empty x39 x41).size : Int) - 1)) : Int).toNat).size ≤ 9223372036854775807 then (if x213000.length < 5864062014805 then (impl_trieOf.l2 k x0 x39 x40 (wrap64 (x41 + 1)) y214 (x213000 ++ [(⟨((bt (rdOf ByteArray.empty x39 x41) (wrap64 (((rdOf ByteArray.empty x39 x41).size : Int) - 1))) - 97) % 256, G.mapGet y214 ((rdOf ByteArray.empty x39 x41).extract 0 ((wrap64 (((rdOf ByteArray.empty x39 x41).size : Int) - 1)) : Int).toNat), bt215.2⟩ : S105)])) else (none)) else (none)) else (none)) else (none)) else (none))))) else (none)) else (none)) else (none)) else (none)) else (none)) else (none)) else (some x213000)
end
def impl_trieOf.f (k : Nat) (l0 : List ByteArray) : Option ((List (S105))) := impl_trieOf.l0 k l0 (([(⟨#[]⟩ : ByteArray)] : List ByteArray)) l0 (l0.length : Int) 0
theorem impl_trieOf.mono_l : ∀ k, (∀ y0 y1 y2 y3 y4, LeO (impl_trieOf.l0 k y0 y1 y2 y3 y4) (impl_trieOf.l0 (k + 1) y0 y1 y2 y3 y4)) ∧ (∀ y0 y1 y2 y3 y4 y5 y6 y7, LeO (impl_trieOf.l1 k y0 y1 y2 y3 y4 y5 y6 y7) (impl_trieOf.l1 (k + 1) y0 y1 y2 y3 y4 y5 y6 y7)) ∧ (∀ y0 y1 y2 y3 y4 y5, LeO (impl_trieOf.l2 k y0 y1 y2 y3 y4 y5) (impl_trieOf.l2 (k + 1) y0 y1 y2 y3 y4 y5))
 | 0 => ⟨fun _ _ _ _ _ r h => by simp [impl_trieOf.l0] at h, fun _ _ _ _ _ _ _ _ r h => by simp [impl_trieOf.l1] at h, fun _ _ _ _ _ _ r h => by simp [impl_trieOf.l2] at h⟩
 | k + 1 => by
  obtain ⟨ih0, ih1, ih2⟩ := impl_trieOf.mono_l k
  refine ⟨?_, ?_, ?_⟩
  ·intro y0 y1 y2 y3 y4
   unfold impl_trieOf.l0
   repeat' first
   | (with_reducible exact ih0 _ _ _ _ _)
   | (with_reducible exact ih1 _ _ _ _ _ _ _ _)
   | (with_reducible exact ih2 _ _ _ _ _ _)
   | (with_reducible exact slices_BinarySearch_string_string.mono _ _ _)
   | (with_reducible exact LeO.refl _)
   | (with_reducible exact LeO.none _)
   | (with_reducible refine LeO.ite ?_ ?_)
   | (with_reducible refine LeO.bind ?_ (fun _ => ?_))
   | exact ih0 _ _ _ _ _
   | exact ih1 _ _ _ _ _ _ _ _
   | exact ih2 _ _ _ _ _ _
   | exact slices_BinarySearch_string_string.mono _ _ _
   | exact LeO.none _
   | refine LeO.ite ?_ ?_
   | refine LeO.bind ?_ (fun _ => ?_)
  ·intro y0 y1 y2 y3 y4 y5 y6 y7
   unfold impl_trieOf.l1
   repeat' first
   | (with_reducible exact ih0 _ _ _ _ _)
   | (with_reducible exact ih1 _ _ _ _ _ _ _ _)
   | (with_reducible exact ih2 _ _ _ _ _ _)
   | (with_reducible exact slices_BinarySearch_string_string.mono _ _ _)
   | (with_reducible exact LeO.refl _)
   | (with_reducible exact LeO.none _)
   | (with_reducible refine LeO.ite ?_ ?_)
   | (with_reducible refine LeO.bind ?_ (fun _ => ?_))
   | exact ih0 _ _ _ _ _
   | exact ih1 _ _ _ _ _ _ _ _
   | exact ih2 _ _ _ _ _ _
   | exact slices_BinarySearch_string_string.mono _ _ _
   | exact LeO.none _
   | refine LeO.ite ?_ ?_
   | refine LeO.bind ?_ (fun _ => ?_)
  ·intro y0 y1 y2 y3 y4 y5
   unfold impl_trieOf.l2
   repeat' first
   | (with_reducible exact ih0 _ _ _ _ _)
   | (with_reducible exact ih1 _ _ _ _ _ _ _ _)
   | (with_reducible exact ih2 _ _ _ _ _ _)
   | (with_reducible exact slices_BinarySearch_string_string.mono _ _ _)
   | (with_reducible exact LeO.refl _)
   | (with_reducible exact LeO.none _)
   | (with_reducible refine LeO.ite ?_ ?_)
   | (with_reducible refine LeO.bind ?_ (fun _ => ?_))
   | exact ih0 _ _ _ _ _
   | exact ih1 _ _ _ _ _ _ _ _
   | exact ih2 _ _ _ _ _ _
   | exact slices_BinarySearch_string_string.mono _ _ _
   | exact LeO.none _
   | refine LeO.ite ?_ ?_
   | refine LeO.bind ?_ (fun _ => ?_)
theorem impl_trieOf.mono : ∀ a0 k, LeO (impl_trieOf.f k a0) (impl_trieOf.f (k + 1) a0) := by
 intro a0 k
 obtain ⟨ih0, ih1, ih2⟩ := impl_trieOf.mono_l k
 unfold impl_trieOf.f
 repeat' first
   | (with_reducible exact ih0 _ _ _ _ _)
   | (with_reducible exact ih1 _ _ _ _ _ _ _ _)
   | (with_reducible exact ih2 _ _ _ _ _ _)
   | (with_reducible exact slices_BinarySearch_string_string.mono _ _ _)
   | (with_reducible exact LeO.refl _)
   | (with_reducible exact LeO.none _)
   | (with_reducible refine LeO.ite ?_ ?_)
   | (with_reducible refine LeO.bind ?_ (fun _ => ?_))
   | exact ih0 _ _ _ _ _
   | exact ih1 _ _ _ _ _ _ _ _
   | exact ih2 _ _ _ _ _ _
   | exact slices_BinarySearch_string_string.mono _ _ _
   | exact LeO.none _
   | refine LeO.ite ?_ ?_
   | refine LeO.bind ?_ (fun _ => ?_)
def impl_trieOf.T20 : Bool × List (List Nat × List Nat) := (true, [([], []), ([], []), ([1], [1]), ([2], [2]), ([0, 3], [0, 3]), ([4], [4]), ([5], [5]), ([], []), ([], []), ([], []), ([9], [9]), ([10], [10]), ([8, 11], [8, 11]), ([7, 12], [7, 12]), ([0, 1, 2, 3, 4, 5, 6], []), ([14, 6, 0, 1, 2, 3, 4, 5, 6], [6, 14]), ([0, 1, 2, 3, 4, 5, 6, 7, 8, 9, 10, 11, 12, 13, 14, 15], []), ([16, 13, 15, 0, 1, 2, 3, 4, 5, 6, 7, 8, 9, 10, 11, 12, 13, 14, 15], [13, 16])])
def impl_trieOf.B20 : List Nat := [0, 0, 2, 6, 15, 31, 63, 0, 0, 0, 512, 1536, 3840, 8064, 127, 16511, 65535, 131071]
theorem impl_trieOf.tab20 : rtab .any (opsOf Tryz.f73 20) = impl_trieOf.T20 := by kernel_rfl
theorem impl_trieOf.bits20 : waitsOk impl_trieOf.T20.2 impl_trieOf.B20 = true := by kernel_rfl
set_option maxHeartbeats 8000000 in
set_option maxRecDepth 100000 in
theorem impl_trieOf.calls (k : Nat) (A0 : Option Addr) (c0 : Nat) (l0 : List ByteArray) (r : List (S105)) (w : World) (hr0 : Kd.C Kd.string w A0 l0.length l0) (hc0 : l0.length ≤ c0) (h : impl_trieOf.f k l0 = some r) :
  Calls Tryz.prog 73 #[.slice A0 l0.length c0] w fun e w' => ∃ v0_ : Value, e = .returned (.agg #[v0_]) ∧ Kd.R k105 105 w' w.heap.size (fun _ => True) v0_ r ∧ Below w.heap.size w w' := by
 have hu45 := Tryz.underlying45; have hu105 := Tryz.underlying105; have HR0 := Aside0.mk hr0; have HC0 := Aside0.mk hc0; clear hr0 hc0; have HB := Aside0.mk (Below.refl w.heap.size w)
 have H : (impl_trieOf.l0 k l0 (([(⟨#[]⟩ : ByteArray)] : List ByteArray)) l0 (l0.length : Int) 0) = some r := h
 clear h
 obtain ⟨y201, hy201⟩ : ∃ y_ : List ByteArray, y_ = (([(⟨#[]⟩ : ByteArray)] : List ByteArray)) := ⟨_, rfl⟩
 replace H : (impl_trieOf.l0 k l0 y201 l0 (l0.length : Int) 0) = some r := by first | (rw [hy201]; with_reducible exact H) | (have H2_ := (Option.bind_some _ _).symm.trans H; rw [hy201]; with_reducible exact H2_) | (have H2_ := (Option.bind_some _ _).symm.trans H; with_reducible exact H2_) | with_reducible exact H | (rw [hy201]; exact H) | exact H
 have Ny201 := Aside0.mk hy201; clear hy201
 have H' := Aside0.mk H
 clear H
 go_enter Tryz.func73, Tryz.ntmps73
 go_wp2_with (first | ((with_reducible refine gate_dst (N := 2) rfl ?_); refine box_event ?hg (N := 2) ?hd (cs := #[.slice none 0 0]) (t := 45) ?hr ?_; (case hd => rfl); (case hg => rfl); (case hr => exact ax23); intro gb200 hg w2 hbox hb; have n0_ := Aside0.mk (below_step ax25 hb); have n1_ := Aside0.mk (hbox); have n2_ := Aside0.mk ((ax54 : w.heap.size ≤ gb200)); have n3_ := Aside0.mk ((ax54 : w.heap.size ≤ gb200)); clear HB; have HB := n0_; have BK200 := n1_; have GW200 := n2_; have GE200 := n3_; clear n0_ n1_ n2_ n3_; clear hb hbox hg) | ((with_reducible refine gate_dst (N := 14) rfl ?_); refine Kd.R_lit Kd.string _ 9 ?hg (N := 14) ?hd (xs := ([(⟨#[]⟩ : ByteArray)] : List ByteArray)) (inner := [.string (⟨#[]⟩ : ByteArray)]) (ok := fun _ => True) (okp := fun _ => True) ?hr ?hp (fun _ hk => hk) trivial (Below.refl _ _) (Nat.le_refl _) (by simp) ?_; (case hd => rfl); (case hg => rfl); (case hr => exact ax23); (case hp => exact ax58); intro v202 w3 ho4 hb hg_ hnew_; clear hg_ hnew_; (first | rw [← Ny201.out] at ho4 | (simp only [Int.reduceToNat] at ho4; rw [← Ny201.out] at ho4)); have n0_ := Aside0.mk (Kd.R_lower ho4 (below_size ax59)); have n1_ := Aside0.mk (blk_below (g := gb200) (o := .cells #[.slice none 0 0] 45 (0, 0)) ax60 hb); have n2_ := Aside0.mk (below_step ax59 hb); clear BK200; clear HB; have HO203 := n0_; have BK200 := n1_; have HB := n2_; clear n0_ n1_ n2_; clear hb ho4))
 go_loopg [3, 17] k (fun kq v3 v17 w' => ∃ (x3_1 : List ByteArray) (x17_1 : Int), v17 = .int .i64 x17_1 ∧ Aside0 (impl_trieOf.l0 kq l0 x3_1 l0 (l0.length : Int) x17_1 = some r) ∧ Aside0 (kq ≤ k) ∧ Aside0 (Kd.R Kd.string 9 w' w.heap.size (fun _ => True) v3 x3_1) ∧ Aside0 (w'.heap[gb200]? = some (.cells #[(.slice none 0 0)] 45 (0, 0))) ∧ Aside0 (Below w.heap.size w w'))
 case atStart => exact ⟨(y201), (0), ax21, H', ⟨Nat.le_refl _⟩, ⟨by (with_reducible repeat (first | apply Kd.R_alloc | apply Kd.R_drewN | apply Kd.R_drew)); exact HO203.out⟩, ⟨by (with_reducible repeat (first | refine blk_drewN ?_ _ | refine blk_drew ?_ | refine blk_alloc ?_ _)); exact BK200.out⟩, ⟨by repeat (first | (with_reducible first | exact HB.out | apply below_alloc | apply pw_below_drewN | apply below_drew1 | refine below_set ?_ GE200.out) | exact HB.out)⟩⟩
 case round =>
  clear H'
  try clear p2
  obtain ⟨x3_1, x17_1, rfl, HA, HK1, HO_3, BK200, HB⟩ := hrel
  cases gk with
  | zero => exact absurd HA.out (by simp [impl_trieOf.l0])
  | succ k1 =>
   have H := HA.out; clear HA
   simp only [impl_trieOf.l0] at H
   by_cases c5 : x17_1 < (l0.length : Int)
   ·rw [if_pos c5] at H
    have c5b0 : decide (x17_1 < (l0.length : Int)) = true := decide_eq_true c5
    clear c5
    by_cases c6 : 0 ≤ x17_1
    ·rw [if_pos c6] at H
     have c6b0 : decide (0 ≤ x17_1) = true := decide_eq_true c6
     clear c6
     by_cases c7 : x17_1 < (l0.length : Int)
     ·rw [if_pos c7] at H
      have c7b0 : decide (x17_1 < (l0.length : Int)) = true := decide_eq_true c7
      clear c7
      have H' := Aside0.mk H
      clear H
      have p204 : 0 ≤ (x17_1 : Int) := of_decide_eq_true ax22
      have q204 : x17_1 < (l0.length : Int) := of_decide_eq_true ax22
      obtain ⟨ad204, e204, hx204_0⟩ := Kd.at_string HR0.out x17_1 p204 q204
      cases e204; replace hx204_0 := (HB.out.cell (World.block_lt_of_cell? w _ hx204_0)).trans hx204_0; replace p204 := eq_true p204; replace q204 := eq_true q204
      go_wp2
      go_loopg [3, 23] k1 (fun kq v3 v23 w' => ∃ (x3_2 : List ByteArray) (x23_2 : Int), v23 = .int .i64 x23_2 ∧ Aside0 (impl_trieOf.l1 kq l0 x3_2 (rdOf ByteArray.empty l0 x17_1) l0 (l0.length : Int) x17_1 ((rdOf ByteArray.empty l0 x17_1).size : Int) x23_2 = some r) ∧ Aside0 (kq ≤ k1) ∧ Aside0 (Kd.R Kd.string 9 w' w.heap.size (fun _ => True) v3 x3_2) ∧ Aside0 (w'.heap[gb200]? = some (.cells #[(.slice none 0 0)] 45 (0, 0))) ∧ Aside0 (Below w.heap.size w w'))
      case atStart => exact ⟨(x3_1), (0), ax21, H', ⟨Nat.le_refl _⟩, ⟨by (with_reducible repeat (first | apply Kd.R_alloc | apply Kd.R_drewN | apply Kd.R_drew)); exact HO_3.out⟩, ⟨by (with_reducible repeat (first | refine blk_drewN ?_ _ | refine blk_drew ?_ | refine blk_alloc ?_ _)); exact BK200.out⟩, ⟨by repeat (first | (with_reducible first | exact HB.out | apply below_alloc | apply pw_below_drewN | apply below_drew1 | refine below_set ?_ GE200.out) | exact HB.out)⟩⟩
      case round =>
       clear H'
       try clear p2
       try clear q2
       try clear hx2
       try clear c5
       try clear c5b0
       try clear c6
       try clear c6b0
       try clear c7
       try clear c7b0
       try clear hx204_0
       try clear p2
       try clear p204
       try clear q204
       obtain ⟨x3_2, x23_2, rfl, HA, HK2, HO_3, BK200, HB⟩ := hrel
       cases gk with
       | zero => exact absurd HA.out (by simp [impl_trieOf.l1])
       | succ k2 =>
        have H := HA.out; clear HA
        simp only [impl_trieOf.l1] at H
        by_cases c8 : x23_2 < ((rdOf ByteArray.empty l0 x17_1).size : Int)
        ·rw [if_pos c8] at H
         have c8b0 : decide (x23_2 < ((rdOf ByteArray.empty l0 x17_1).size : Int)) = true := decide_eq_true c8
         clear c8
         obtain ⟨ji9, hji9⟩ : ∃ j_ : Int, (wrap64 (x23_2 + 1)) = j_ := ⟨_, rfl⟩
         replace H : (if 0 ≤ (ji9) then (if (ji9) ≤ ((rdOf ByteArray.empty l0 x17_1).size : Int) then (if x3_2.length < 8796093022208 then (impl_trieOf.l1 k2 l0 (x3_2 ++ [(rdOf ByteArray.empty l0 x17_1).extract 0 ((ji9) : Int).toNat]) (rdOf ByteArray.empty l0 x17_1) l0 (l0.length : Int) x17_1 ((rdOf ByteArray.empty l0 x17_1).size : Int) ji9) else (none)) else (none)) else (none)) = some r := by first | (rw [hji9] at H; exact H) | (simp only [hji9] at H ⊢; exact H)
         have hji9w : (IntKind.i64.wrap (x23_2 + 1)) = ji9 := (i64_w _).trans hji9
         by_cases c10 : 0 ≤ (ji9)
         ·rw [if_pos c10] at H
          have c10b0 := eq_true c10
          have c10b1 : decide (0 ≤ (ji9)) = true := decide_eq_true c10
          clear c10
          by_cases c11 : (ji9) ≤ ((rdOf ByteArray.empty l0 x17_1).size : Int)
          ·rw [if_pos c11] at H
           have c11b0 := eq_true c11
           have c11b1 : decide ((ji9) ≤ ((rdOf ByteArray.empty l0 x17_1).size : Int)) = true := decide_eq_true c11
           clear c11
           obtain ⟨js12, hjs12⟩ : ∃ j_ : ByteArray, ((rdOf ByteArray.empty l0 x17_1).extract 0 ((ji9) : Int).toNat) = j_ := ⟨_, rfl⟩
           replace H : (if x3_2.length < 8796093022208 then (impl_trieOf.l1 k2 l0 (x3_2 ++ [js12]) (rdOf ByteArray.empty l0 x17_1) l0 (l0.length : Int) x17_1 ((rdOf ByteArray.empty l0 x17_1).size : Int) ji9) else (none)) = some r := by first | (rw [hjs12] at H; exact H) | (simp only [hjs12] at H ⊢; exact H)
           by_cases c13 : x3_2.length < 8796093022208
           ·rw [if_pos c13] at H
            have LMc13 := Aside0.mk c13; clear c13
            obtain ⟨y205, hy205⟩ : ∃ y_ : List ByteArray, y_ = (x3_2 ++ [js12]) := ⟨_, rfl⟩
            replace H : (impl_trieOf.l1 k2 l0 y205 (rdOf ByteArray.empty l0 x17_1) l0 (l0.length : Int) x17_1 ((rdOf ByteArray.empty l0 x17_1).size : Int) ji9) = some r := by first | (rw [hy205]; with_reducible exact H) | (have H2_ := (Option.bind_some _ _).symm.trans H; rw [hy205]; with_reducible exact H2_) | (have H2_ := (Option.bind_some _ _).symm.trans H; with_reducible exact H2_) | with_reducible exact H | (rw [hy205]; exact H) | exact H
            have Ny205 := Aside0.mk hy205; clear hy205
            have H' := Aside0.mk H
            clear H
            go_wp2_with (first | ((with_reducible refine gate_builtin (b := .append) (xs := #[.tmp 26, .tmp 31]) rfl ?_); at_builtin; refine Kd.R_append Kd.string (w0 := w) w.heap.size rfl (.tmp 26) (.tmp 31) 22 9 (.string ⟨#[]⟩) 16 rfl Tryz.underlying22 info9 rfl (by decide) (by omega) u3 x3_2 js12 [.string js12] (fun _ => True) (fun _ => False) rfl rfl ?aP (fun _ hk => hk.elim) ?aF ?aO ?aB ?aS ?aL ?_; (case aP => exact rfl); (case aB => exact ax59); (case aF => exact ax28); (case aO => exact ax61); (case aS => exact (below_size ax59)); (case aL => have := LMc13.out; omega); intro v206 w14 ho hb hg hat; rw [← Ny205.out] at ho; have n0_ := Aside0.mk (blk_grown (g := gb200) (o := .cells #[.slice none 0 0] 45 (0, 0)) ax60 hg (Kd.R_ne HO_3.out BK200.out (by decide))); have n1_ := Aside0.mk (hb); have n2_ := Aside0.mk (ho); clear BK200; clear HB; clear HO_3; have BK200 := n0_; have HB := n1_; have HO207 := n2_; clear n0_ n1_ n2_; clear ho hb hg hat))
            go_roundg k2
            case measure => have := HK1.out; have := HK2.out; omega
            case rel => exact ⟨(y205), (ji9), (by first | rfl | (simp; done) | (simp only [← hji9] <;> (first | rfl | simp)) | (simp [*]; done)), H', ⟨by have := HK1.out; have := HK2.out; omega⟩, ⟨by (with_reducible repeat (first | apply Kd.R_alloc | apply Kd.R_drewN | apply Kd.R_drew)); exact HO207.out⟩, ⟨by (with_reducible repeat (first | refine blk_drewN ?_ _ | refine blk_drew ?_ | refine blk_alloc ?_ _)); exact BK200.out⟩, ⟨by repeat (first | (with_reducible first | exact HB.out | apply below_alloc | apply pw_below_drewN | apply below_drew1 | refine below_set ?_ GE200.out) | exact HB.out)⟩⟩
           ·rw [if_neg c13] at H
            exact absurd H (by simp)
          ·exact ax11
         ·rw [if_neg c10] at H
          exact absurd H (by simp)
        ·rw [if_neg c8] at H
         have c8b0 : decide (x23_2 < ((rdOf ByteArray.empty l0 x17_1).size : Int)) = false := decide_eq_false c8
         clear c8
         have H' := Aside0.mk H
         clear H
         go_wp2
         go_roundg k2
         case measure => have := HK1.out; have := HK2.out; omega
         case rel => exact ⟨(x3_2), (wrap64 (x17_1 + 1)), ax21, H', ⟨by have := HK1.out; have := HK2.out; omega⟩, ⟨by (with_reducible repeat (first | apply Kd.R_alloc | apply Kd.R_drewN | apply Kd.R_drew)); exact HO_3.out⟩, ⟨by (with_reducible repeat (first | refine blk_drewN ?_ _ | refine blk_drew ?_ | refine blk_alloc ?_ _)); exact BK200.out⟩, ⟨by repeat (first | (with_reducible first | exact HB.out | apply below_alloc | apply pw_below_drewN | apply below_drew1 | refine below_set ?_ GE200.out) | exact HB.out)⟩⟩
     ·exact ax4
    ·exact ax1
   ·rw [if_neg c5] at H
    have c5b0 : decide (x17_1 < (l0.length : Int)) = false := decide_eq_false c5
    clear c5; replace H := Option.bind_eq_some_iff.mp H
    obtain ⟨t208, A150, H⟩ := H
    replace H : (impl_trieOf.l2 k1 l0 t208 (t208.length : Int) 0 ([] : List (ByteArray × Int)) ([] : List (S105))) = some r := H
    have A15 := Aside0.mk A150; clear A150
    have H' := Aside0.mk H
    clear H
    obtain ⟨Ao16, co16, eo16⟩ := Kd.R_slice HO_3.out
    subst eo16
    go_wp2_with (first | ((with_reducible refine gate_callee (f := 37) rfl ?_); refine goesL_ (some 36) rfl rfl Tryz.func37 (by kernel_rfl) rfl #[.slice Ao16 x3_1.length co16] rfl ax31 ?_; (with_reducible refine (impl_set.calls _ _ x3_1 t208 _ ?side1 ?side2 A15.out).mono ?_); (case side1 => repeat (first | exact (Kd.R_reads' HO_3.out).2.2 | (with_reducible refine Kd.C_alloc ?_ _) | (with_reducible refine Kd.C_drewN ?_ _) | (with_reducible refine Kd.C_drew ?_))); (case side2 => exact (Kd.R_reads' HO_3.out).2.1); rintro e w17 ⟨v209, rfl, ho0, hb⟩; refine ⟨_, rfl, ?_⟩; have n0_ := Aside0.mk (Kd.R_elder' ax61 (Kd.R_base ho0) hb); have n1_ := Aside0.mk (Kd.R_lower (Kd.R_new' ho0 (Kd.R_lt ax61)) (below_size ax59)); have n2_ := Aside0.mk (blk_below (g := gb200) (o := .cells #[.slice none 0 0] 45 (0, 0)) ax60 hb); have n3_ := Aside0.mk (below_step ax59 hb); clear HO_3; clear BK200; clear HB; have HO_3 := n0_; have HO210 := n1_; have BK200 := n2_; have HB := n3_; clear n0_ n1_ n2_ n3_; (try clear hb); (try clear hb2); (try clear hk); (try clear hi); (try clear ho0)) | ((with_reducible refine gate_dst (N := 38) rfl ?_); refine G.mnew_event ?hg (N := 38) ?hd 9 3 ?hr ?_; (case hd => rfl); (case hg => rfl); (case hr => first | rfl | (go_simp; done) | (go_simp; rfl) | (simp [execOp, run_makeMap]; done)); intro gm211 hg w18 hmap hb; have n0_ := Aside0.mk (Kd.R_below ax61 hb); have n1_ := Aside0.mk (Kd.R_below ax62 hb); have n2_ := Aside0.mk (blk_below (g := gb200) (o := .cells #[.slice none 0 0] 45 (0, 0)) ax60 hb); have n3_ := Aside0.mk (below_step ax59 hb); have n4_ := Aside0.mk (hmap); have n5_ := Aside0.mk ((ax63 : w.heap.size ≤ gm211)); clear HO_3; clear HO210; clear BK200; clear HB; have HO_3 := n0_; have HO210 := n1_; have BK200 := n2_; have HB := n3_; have MP211 := n4_; have GM211 := n5_; clear n0_ n1_ n2_ n3_ n4_ n5_; clear hb hmap hg) | ((with_reducible refine gate_dst (N := 7) rfl ?_); refine box_event ?hg (N := 7) ?hd (cs := #[.slice none 0 0]) (t := 45) ?hr ?_; (case hd => rfl); (case hg => rfl); (case hr => exact ax23); intro gb212 hg w19 hbox hb; have n0_ := Aside0.mk (Kd.R_below ax61 hb); have n1_ := Aside0.mk (Kd.R_below ax62 hb); have n2_ := Aside0.mk (blk_below (g := gb200) (o := .cells #[.slice none 0 0] 45 (0, 0)) ax60 hb); have n3_ := Aside0.mk (G.MapIs.below (show G.MapIs Tryz.prog 9 3 _ gm211 ([] : List (ByteArray × Int)) from by repeat (first | (with_reducible first | exact MP211.out | apply G.MapIs.alloc | apply G.MapIs.drewN | apply G.MapIs.drew) | exact MP211.out)) hb); have n4_ := Aside0.mk (below_step ax59 hb); have n5_ := Aside0.mk (hbox); have n6_ := Aside0.mk ((ax63 : w.heap.size ≤ gb212)); have n7_ := Aside0.mk ((ax63 : w.heap.size ≤ gb212)); have n8_ := Aside0.mk ((ax64 : gb200 ≠ gb212)); have n9_ := Aside0.mk ((ax65 : gb212 ≠ gb200)); clear HO_3; clear HO210; clear BK200; clear MP211; clear HB; have HO_3 := n0_; have HO210 := n1_; have BK200 := n2_; have MP211 := n3_; have HB := n4_; have BK212 := n5_; have GW212 := n6_; have GE212 := n7_; have NB200_212 := n8_; have NB212_200 := n9_; clear n0_ n1_ n2_ n3_ n4_ n5_ n6_ n7_ n8_ n9_; clear hb hbox hg; have hnb20 := NB212_200.out; have hnc20 := NB200_212.out; have hcz21_0 : w19.cell? ⟨gb212, 0, none⟩ = some (.slice none 0 0) := (blk_cell BK212.out 0).trans rfl; have hfz21_0 := blk_frozen BK212.out 0; obtain ⟨Ao22, co22, eo22⟩ := Kd.R_slice HO210.out; subst eo22))
    go_loopg [41] k1 (fun kq v41 w' => ∃ (x41_2 : Int) (x212000_2 : List (ByteArray × Int)) (x213000_2 : List (S105)) (u213000 : Value), v41 = .int .i64 x41_2 ∧ Aside0 (impl_trieOf.l2 kq l0 t208 (t208.length : Int) x41_2 x212000_2 x213000_2 = some r) ∧ Aside0 (kq ≤ k1) ∧ Aside0 (Kd.R Kd.string 9 w' w.heap.size (fun _ => True) (.slice Ao22 t208.length co22) t208) ∧ Aside0 (Kd.R k105 105 w' w.heap.size (fun _ => True) u213000 x213000_2) ∧ Aside0 (w'.heap[gb200]? = some (.cells #[(.slice none 0 0)] 45 (0, 0))) ∧ Aside0 (w'.heap[gb212]? = some (.cells #[u213000] 45 (0, 0))) ∧ Aside0 (G.MapIs Tryz.prog 9 3 w' gm211 x212000_2) ∧ Aside0 (Below w.heap.size w w'))
    case atStart => exact ⟨(0), (([] : List (ByteArray × Int))), (([] : List (S105))), (.slice none 0 0), ax21, H', ⟨Nat.le_refl _⟩, ⟨by (with_reducible repeat (first | apply Kd.R_alloc | apply Kd.R_drewN | apply Kd.R_drew)); exact Kd.R_mono (Kd.R_far (p := ⟨gb212, 0, none⟩) (Kd.R_types HO210.out BK212.out (by decide)) (fun _ hk => hk.2) (.slice none 0 0)) (fun _ hk => trivial)⟩, ⟨by first | exact Kd.R_nil _ _ _ _ _ | exact Kd.N_nil _ _ _ _ _ | exact Kd.V_nil _ _ _ _ _ | exact Kd.Q_nil _ _ _ _ _ | exact Kd.S_nil _ _ _ _ _⟩, ⟨by (with_reducible repeat (first | refine blk_drewN ?_ _ | refine blk_drew ?_ | refine blk_alloc ?_ _)); refine blk_far ?_ NB200_212.out _; (with_reducible repeat (first | refine blk_drewN ?_ _ | refine blk_drew ?_ | refine blk_alloc ?_ _)); exact BK200.out⟩, ⟨by (with_reducible repeat (first | refine blk_drewN ?_ _ | refine blk_drew ?_ | refine blk_alloc ?_ _)); refine blk_put (cs := #[.slice none 0 0]) ?_ 0 _ rfl; (with_reducible repeat (first | refine blk_drewN ?_ _ | refine blk_drew ?_ | refine blk_alloc ?_ _)); exact BK212.out⟩, ⟨show G.MapIs Tryz.prog 9 3 _ gm211 ([] : List (ByteArray × Int)) from by repeat (first | (with_reducible first | exact MP211.out | apply G.MapIs.alloc | apply G.MapIs.drewN | apply G.MapIs.drew | refine G.MapIs.set ?_ (G.MapIs.ne_blk MP211.out BK212.out) _ _) | exact MP211.out)⟩, ⟨by repeat (first | (with_reducible first | exact HB.out | apply below_alloc | apply pw_below_drewN | apply below_drew1 | refine below_set ?_ GE200.out | refine below_set ?_ GE212.out) | exact HB.out)⟩⟩
    case round =>
     clear H'
     try clear c1
     try clear c2
     try clear p2
     try clear q2
     try clear hx2
     try clear c3
     try clear c5
     try clear c5b0
     try clear c6
     try clear c6b0
     try clear p6
     try clear c7
     try clear c7b0
     try clear c8
     try clear c8b0
     try clear c10
     try clear c10b0
     try clear c10b1
     try clear c11
     try clear c11b0
     try clear c11b1
     try clear c13
     try clear c20
     try clear p20
     try clear q20
     try clear hx20
     try clear hcz21_0
     try clear hfz21_0
     try clear hx204_0
     try clear p2
     try clear p204
     try clear q2
     try clear q204
     obtain ⟨x41_2, x212000_2, x213000_2, u213000, rfl, HA, HK2, HO_39, HO_213000, BK200, BK212, MP211, HB⟩ := hrel
     cases gk with
     | zero => exact absurd HA.out (by simp [impl_trieOf.l2])
     | succ k2 =>
      have H := HA.out; clear HA
      simp only [impl_trieOf.l2] at H
      by_cases c23 : x41_2 < (t208.length : Int)
      ·rw [if_pos c23] at H
       have c23b0 : decide (x41_2 < (t208.length : Int)) = true := decide_eq_true c23
       clear c23
       by_cases c24 : 0 ≤ x41_2
       ·rw [if_pos c24] at H
        have c24b0 : decide (0 ≤ x41_2) = true := decide_eq_true c24
        clear c24
        by_cases c25 : x41_2 < (t208.length : Int)
        ·rw [if_pos c25] at H
         have c25b0 : decide (x41_2 < (t208.length : Int)) = true := decide_eq_true c25
         clear c25
         by_cases c26 : x212000_2.length < 9223372036854775807
         ·rw [if_pos c26] at H
          have LMc26 := Aside0.mk c26; clear c26
          by_cases c27 : (rdOf ByteArray.empty t208 x41_2).size ≤ 9223372036854775807
          ·rw [if_pos c27] at H
           have LMc27 := Aside0.mk c27; clear c27
           by_cases c28 : -9223372036854775808 ≤ x41_2
           ·rw [if_pos c28] at H
            have LMc28 := Aside0.mk c28; clear c28
            by_cases c29 : x41_2 ≤ 9223372036854775807
            ·rw [if_pos c29] at H
             have LMc29 := Aside0.mk c29; clear c29
             obtain ⟨y214, hy214⟩ : ∃ y_ : List (ByteArray × Int), y_ = ((rdOf ByteArray.empty t208 x41_2, x41_2) :: x212000_2) := ⟨_, rfl⟩
             replace H : ((slices_BinarySearch_string_string.f k2 l0 (rdOf ByteArray.empty t208 x41_2)).bind fun bt215 => (if (rdOf ByteArray.empty t208 x41_2).toList = ([] : List UInt8) then (if x213000_2.length < 5864062014805 then (impl_trieOf.l2 k2 l0 t208 (t208.length : Int) (wrap64 (x41_2 + 1)) y214 (x213000_2 ++ [(⟨(-1), (-1), bt215.2⟩ : S105)])) else (none)) else (if 0 ≤ (wrap64 (((rdOf ByteArray.empty t208 x41_2).size : Int) - 1)) then (if (wrap64 (((rdOf ByteArray.empty t208 x41_2).size : Int) - 1)) < ((rdOf ByteArray.empty t208 x41_2).size : Int) then (if (wrap64 (((rdOf ByteArray.empty t208 x41_2).size : Int) - 1)) ≤ ((rdOf ByteArray.empty t208 x41_2).size : Int) then (if ((rdOf ByteArray.empty t208 x41_2).extract 0 ((wrap64 (((rdOf ByteArray.empty t208 x41_2).size : Int) - 1)) : Int).toNat).size ≤ 9223372036854775807 then (if x213000_2.length < 5864062014805 then (impl_trieOf.l2 k2 l0 t208 (t208.length : Int) (wrap64 (x41_2 + 1)) y214 (x213000_2 ++ [(⟨((bt (rdOf ByteArray.empty t208 x41_2) (wrap64 (((rdOf ByteArray.empty t208 x41_2).size : Int) - 1))) - 97) % 256, G.mapGet y214 ((rdOf ByteArray.empty t208 x41_2).extract 0 ((wrap64 (((rdOf ByteArray.empty t208 x41_2).size : Int) - 1)) : Int).toNat), bt215.2⟩ : S105)])) else (none)) else (none)) else (none)) else (none)) else (none)))) = some r := by first | (rw [hy214]; with_reducible exact H) | (have H2_ := (Option.bind_some _ _).symm.trans H; rw [hy214]; with_reducible exact H2_) | (have H2_ := (Option.bind_some _ _).symm.trans H; with_reducible exact H2_) | with_reducible exact H | (rw [hy214]; exact H) | exact H
             have Ny214 := Aside0.mk hy214; clear hy214; replace H := Option.bind_eq_some_iff.mp H
             obtain ⟨⟨t215, t216⟩, A300, H⟩ := H
             replace H : (if (rdOf ByteArray.empty t208 x41_2).toList = ([] : List UInt8) then (if x213000_2.length < 5864062014805 then (impl_trieOf.l2 k2 l0 t208 (t208.length : Int) (wrap64 (x41_2 + 1)) y214 (x213000_2 ++ [(⟨(-1), (-1), t216⟩ : S105)])) else (none)) else (if 0 ≤ (wrap64 (((rdOf ByteArray.empty t208 x41_2).size : Int) - 1)) then (if (wrap64 (((rdOf ByteArray.empty t208 x41_2).size : Int) - 1)) < ((rdOf ByteArray.empty t208 x41_2).size : Int) then (if (wrap64 (((rdOf ByteArray.empty t208 x41_2).size : Int) - 1)) ≤ ((rdOf ByteArray.empty t208 x41_2).size : Int) then (if ((rdOf ByteArray.empty t208 x41_2).extract 0 ((wrap64 (((rdOf ByteArray.empty t208 x41_2).size : Int) - 1)) : Int).toNat).size ≤ 9223372036854775807 then (if x213000_2.length < 5864062014805 then (impl_trieOf.l2 k2 l0 t208 (t208.length : Int) (wrap64 (x41_2 + 1)) y214 (x213000_2 ++ [(⟨((bt (rdOf ByteArray.empty t208 x41_2) (wrap64 (((rdOf ByteArray.empty t208 x41_2).size : Int) - 1))) - 97) % 256, G.mapGet y214 ((rdOf ByteArray.empty t208 x41_2).extract 0 ((wrap64 (((rdOf ByteArray.empty t208 x41_2).size : Int) - 1)) : Int).toNat), t216⟩ : S105)])) else (none)) else (none)) else (none)) else (none)) else (none))) = some r := H
             have A30 := Aside0.mk A300; clear A300
             by_cases c31 : (rdOf ByteArray.empty t208 x41_2).toList = ([] : List UInt8)
             ·rw [if_pos c31] at H
              have c31b0 : ((rdOf ByteArray.empty t208 x41_2).toList == ([] : List UInt8)) = true := beq_iff_eq.mpr c31
              have c31b1 : ((rdOf ByteArray.empty t208 x41_2).toList != ([] : List UInt8)) = false := bne_eq_false_iff_eq.mpr c31
              clear c31
              by_cases c32 : x213000_2.length < 5864062014805
              ·rw [if_pos c32] at H
               have LMc32 := Aside0.mk c32; clear c32
               obtain ⟨y218, hy218⟩ : ∃ y_ : List (S105), y_ = (x213000_2 ++ [(⟨(-1), (-1), t216⟩ : S105)]) := ⟨_, rfl⟩
               replace H : (impl_trieOf.l2 k2 l0 t208 (t208.length : Int) (wrap64 (x41_2 + 1)) y214 y218) = some r := by first | (rw [hy218]; with_reducible exact H) | (have H2_ := (Option.bind_some _ _).symm.trans H; rw [hy218]; with_reducible exact H2_) | (have H2_ := (Option.bind_some _ _).symm.trans H; with_reducible exact H2_) | with_reducible exact H | (rw [hy218]; exact H) | exact H
               have Ny218 := Aside0.mk hy218; clear hy218
               have H' := Aside0.mk H
               clear H
               have p213 : 0 ≤ (x41_2 : Int) := of_decide_eq_true ax22
               have q213 : x41_2 < (t208.length : Int) := of_decide_eq_true ax22
               obtain ⟨ad213, e213, hx213_0⟩ := Kd.at_string (Kd.R_reads' HO_39.out).2.2 x41_2 p213 q213
               cases e213; replace p213 := eq_true p213; replace q213 := eq_true q213
               go_wp2_with (first | ((with_reducible refine G.gate_mput (t := 115) (m := .tmp 46) (x := .tmp 47) (v := .tmp 48) rfl ?_); refine G.mput_event ?hg (t := 115) (m := .tmp 46) (x := .tmp 47) (v := .tmp 48) ?ho ?hd (b := gm211) (s := (rdOf ByteArray.empty t208 x41_2)) (i := x41_2) ?hm ?hx ?hv (K := 9) (E := 3) (c := x212000_2) ?ht ?hK ?hE ?hw ?hs ?hl ?hmap ?_; (case hg => rfl); (case ho => rfl); (case hd => rfl); (case hm => rfl); (case hx => rfl); (case hv => rfl); (case ht => exact Tryz.underlying115); (case hK => exact Tryz.underlying9); (case hE => exact Tryz.underlying3); (case hw => exact ax66); (case hs => exact LMc27.out); (case hl => exact LMc26.out); (case hmap => exact ax67); intro w33 hmap hg; rw [← Ny214.out] at hmap; have n0_ := Aside0.mk (Kd.R_grown1 ax68 rfl hg (G.MapIs.ne_row MP211.out HO_39.out)); have n1_ := Aside0.mk (Kd.R_grown1 ax69 rfl hg (G.MapIs.ne_row MP211.out HO_213000.out)); have n2_ := Aside0.mk (blk_grown (g := gb200) (o := .cells #[.slice none 0 0] 45 (0, 0)) ax60 hg (fun e_ => G.MapIs.ne_blk MP211.out BK200.out ax70)); have n3_ := Aside0.mk (blk_grown (g := gb212) (o := .cells #[u213000] 45 (0, 0)) ax71 hg (fun e_ => G.MapIs.ne_blk MP211.out BK212.out ax70)); have n4_ := Aside0.mk (hmap); have n5_ := Aside0.mk (Below.grown ax72 hg (below_size ax72) (fun k_ e_ => by cases e_; exact GM211.out)); clear HO_39; clear HO_213000; clear BK200; clear BK212; clear MP211; clear HB; have HO_39 := n0_; have HO_213000 := n1_; have BK200 := n2_; have BK212 := n3_; have MP211 := n4_; have HB := n5_; clear n0_ n1_ n2_ n3_ n4_ n5_; clear hmap hg) | ((with_reducible refine gate_callee (f := 90) rfl ?_); refine goesL_ (some 52) rfl rfl Tryz.func90 (by kernel_rfl) rfl #[.slice A0 l0.length c0, .string (rdOf ByteArray.empty t208 x41_2)] rfl ax31 ?_; (with_reducible refine (slices_BinarySearch_string_string.calls k2 _ _ l0 (rdOf ByteArray.empty t208 x41_2) t215 t216 _ ?side1 ?side2 A30.out).mono ?_); (case side1 => exact ax26); (case side2 => exact HC0.out); rintro e w' ⟨rfl, ⟨nd, rfl⟩⟩; refine ⟨_, rfl, ?_⟩; (try (rw [drewN_self w33]; generalize hq_ : World.drewN w33 _ = w33; have n0_ : Aside0 (Kd.R k105 105 w33 w.heap.size (fun _ => True) u213000 x213000_2) := ⟨by rw [← hq_]; exact ax69⟩; have n1_ : Aside0 (Kd.R Kd.string 9 w33 w.heap.size (fun _ => True) (.slice (some ad213) t208.length co22) t208) := ⟨by rw [← hq_]; exact ax68⟩; have n2_ : Aside0 (G.MapIs Tryz.prog 9 3 w33 gm211 y214) := ⟨by rw [← hq_]; exact show G.MapIs Tryz.prog 9 3 _ gm211 y214 from by repeat (first | (with_reducible first | exact MP211.out | apply G.MapIs.alloc | apply G.MapIs.drewN | apply G.MapIs.drew) | exact MP211.out)⟩; have n3_ : Aside0 (w33.heap[gb200]? = some (.cells #[.slice none 0 0] 45 (0, 0))) := ⟨by rw [← hq_]; exact ax60⟩; have n4_ : Aside0 (w33.heap[gb212]? = some (.cells #[u213000] 45 (0, 0))) := ⟨by rw [← hq_]; exact ax71⟩; have n5_ : Aside0 (Below w.heap.size w w33) := ⟨by rw [← hq_]; exact ax72⟩; clear HO_213000 HO_39 MP211 BK200 BK212 HB hq_; have HO_213000 := n0_; have HO_39 := n1_; have MP211 := n2_; have BK200 := n3_; have BK212 := n4_; have HB := n5_; clear n0_ n1_ n2_ n3_ n4_ n5_))) | ((with_reducible refine gate_dst (N := 13) rfl ?_); refine box_event ?hg (N := 13) ?hd (cs := #[.int .i64 0, .int .i64 0, .bool false]) (t := 105) ?hr ?_; (case hd => rfl); (case hg => rfl); (case hr => exact ax23); intro gb217 hg w34 hbox hb; have n0_ := Aside0.mk (Kd.R_below ax68 hb); have n1_ := Aside0.mk (Kd.R_below (Kd.R_elderB ax69 gb217 (Nat.le_of_eq hg.symm)) hb); have n2_ := Aside0.mk (blk_below (g := gb200) (o := .cells #[.slice none 0 0] 45 (0, 0)) ax60 hb); have n3_ := Aside0.mk (blk_below (g := gb212) (o := .cells #[u213000] 45 (0, 0)) ax71 hb); have n4_ := Aside0.mk (G.MapIs.below (show G.MapIs Tryz.prog 9 3 _ gm211 y214 from by repeat (first | (with_reducible first | exact MP211.out | apply G.MapIs.alloc | apply G.MapIs.drewN | apply G.MapIs.drew) | exact MP211.out)) hb); have n5_ := Aside0.mk (below_step ax72 hb); have n6_ := Aside0.mk (hbox); have n7_ := Aside0.mk ((ax73 : w.heap.size ≤ gb217)); have n8_ := Aside0.mk ((ax73 : w.heap.size ≤ gb217)); have n9_ := Aside0.mk ((ax64 : gb200 ≠ gb217)); have n10_ := Aside0.mk ((ax65 : gb217 ≠ gb200)); have n11_ := Aside0.mk ((ax74 : gb212 ≠ gb217)); have n12_ := Aside0.mk ((ax75 : gb217 ≠ gb212)); clear HO_39; clear HO_213000; clear BK200; clear BK212; clear MP211; clear HB; have HO_39 := n0_; have HO_213000 := n1_; have BK200 := n2_; have BK212 := n3_; have MP211 := n4_; have HB := n5_; have BK217 := n6_; have GW217 := n7_; have GE217 := n8_; have NB200_217 := n9_; have NB217_200 := n10_; have NB212_217 := n11_; have NB217_212 := n12_; clear n0_ n1_ n2_ n3_ n4_ n5_ n6_ n7_ n8_ n9_ n10_ n11_ n12_; clear hb hbox hg; have hnb35 := NB217_200.out; have hnc35 := NB200_217.out; have hnb36 := NB217_212.out; have hnc36 := NB212_217.out; have hcz37_0 : w34.cell? ⟨gb217, 0, none⟩ = some (.int .i64 0) := (blk_cell BK217.out 0).trans rfl; have hcz37_1 : w34.cell? ⟨gb217, 1, none⟩ = some (.int .i64 0) := (blk_cell BK217.out 1).trans rfl; have hcz37_2 : w34.cell? ⟨gb217, 2, none⟩ = some (.bool false) := (blk_cell BK217.out 2).trans rfl; have hfz37_0 := blk_frozen BK217.out 0; have hfz37_1 := blk_frozen BK217.out 1; have hfz37_2 := blk_frozen BK217.out 2; have hnb38 := NB212_200.out; have hnc38 := NB200_212.out; have hcz39_0 : w34.cell? ⟨gb212, 0, none⟩ = some (u213000) := (blk_cell BK212.out 0).trans rfl; have hfz39_0 := blk_frozen BK212.out 0) | ((with_reducible refine gate_builtin (b := .append) (xs := #[.tmp 76, .tmp 78]) rfl ?_); at_builtin; refine Kd.R_append k105 (w0 := w) w.heap.size rfl (.tmp 76) (.tmp 78) 43 105 (.agg #[(.int .i64 0), (.int .i64 0), (.bool false)]) 24 rfl Tryz.underlying43 info105 rfl (by decide) (by omega) u213000 x213000_2 (⟨(-1), (-1), t216⟩ : S105) [.int .i64 (-1), .int .i64 (-1), .bool t216] (fun k_ => k_ ≠ gb217) (fun _ => False) rfl ax23 ?aP (fun _ hk => hk.elim) ?aF ?aO ?aB ?aS ?aL ?_; (case aP => exact k105_mkM _ _ _ (⟨(-1), (-1), t216⟩ : S105)); (case aB => exact ax76); (case aF => exact (fun k_ hk => Kd.freshB (g := gb217) (o := .cells #[.int .i64 (-1), .int .i64 (-1), .bool t216] 105 (0, 0)) ax77 k_ hk)); (case aO => exact (by (with_reducible repeat (first | apply Kd.R_alloc | apply Kd.R_drewN | apply Kd.R_drew)); exact Kd.R_mono (Kd.R_far (p := ⟨gb217, 2, none⟩) (Kd.R_far (p := ⟨gb217, 1, none⟩) (Kd.R_far (p := ⟨gb217, 0, none⟩) (Kd.R_mono HO_213000.out (fun k_ hk => (⟨hk, hk.2⟩ : _ ∧ k_ ≠ gb217))) (fun _ hk => hk.2) (.int .i64 (-1))) (fun _ hk => hk.2) (.int .i64 (-1))) (fun _ hk => hk.2) (.bool t216)) (fun _ hk => hk.1.2))); (case aS => exact ax78); (case aL => have := LMc32.out; omega); intro v219 w40 ho hb hg hat; rw [← Ny218.out] at ho; have n0_ := Aside0.mk (Kd.R_over' (by (with_reducible repeat (first | apply Kd.R_alloc | apply Kd.R_drewN | apply Kd.R_drew)); exact (Kd.R_mono (Kd.R_far (p := ⟨gb217, 2, none⟩) (Kd.R_far (p := ⟨gb217, 1, none⟩) (Kd.R_far (p := ⟨gb217, 0, none⟩) (Kd.R_types HO_39.out BK217.out (by decide)) (fun _ hk => hk.2) (.int .i64 (-1))) (fun _ hk => hk.2) (.int .i64 (-1))) (fun _ hk => hk.2) (.bool t216)) (fun _ h_ => h_.1))) (Kd.R_typed (by (with_reducible repeat (first | apply Kd.R_alloc | apply Kd.R_drewN | apply Kd.R_drew)); exact (Kd.R_mono (Kd.R_far (p := ⟨gb217, 2, none⟩) (Kd.R_far (p := ⟨gb217, 1, none⟩) (Kd.R_far (p := ⟨gb217, 0, none⟩) (Kd.R_mono HO_213000.out (fun k_ hk => (⟨hk, hk.2⟩ : _ ∧ k_ ≠ gb217))) (fun _ hk => hk.2) (.int .i64 (-1))) (fun _ hk => hk.2) (.int .i64 (-1))) (fun _ hk => hk.2) (.bool t216)) (fun _ h_ => h_.1)))) (by decide) hg); have n1_ := Aside0.mk (blk_grown (g := gb200) (o := .cells #[.slice none 0 0] 45 (0, 0)) (by (with_reducible repeat (first | refine blk_drewN ?_ _ | refine blk_drew ?_ | refine blk_alloc ?_ _)); refine blk_far ?_ NB200_217.out _; (with_reducible repeat (first | refine blk_drewN ?_ _ | refine blk_drew ?_ | refine blk_alloc ?_ _)); refine blk_far ?_ NB200_217.out _; (with_reducible repeat (first | refine blk_drewN ?_ _ | refine blk_drew ?_ | refine blk_alloc ?_ _)); refine blk_far ?_ NB200_217.out _; (with_reducible repeat (first | refine blk_drewN ?_ _ | refine blk_drew ?_ | refine blk_alloc ?_ _)); exact BK200.out) hg (Kd.R_ne HO_213000.out BK200.out (by decide))); have n2_ := Aside0.mk (blk_grown (g := gb212) (o := .cells #[u213000] 45 (0, 0)) (by (with_reducible repeat (first | refine blk_drewN ?_ _ | refine blk_drew ?_ | refine blk_alloc ?_ _)); refine blk_far ?_ NB212_217.out _; (with_reducible repeat (first | refine blk_drewN ?_ _ | refine blk_drew ?_ | refine blk_alloc ?_ _)); refine blk_far ?_ NB212_217.out _; (with_reducible repeat (first | refine blk_drewN ?_ _ | refine blk_drew ?_ | refine blk_alloc ?_ _)); refine blk_far ?_ NB212_217.out _; (with_reducible repeat (first | refine blk_drewN ?_ _ | refine blk_drew ?_ | refine blk_alloc ?_ _)); exact BK212.out) hg (Kd.R_ne HO_213000.out BK212.out (by decide))); have n3_ := Aside0.mk (G.MapIs.grown (show G.MapIs Tryz.prog 9 3 _ gm211 y214 from by repeat (first | (with_reducible first | exact MP211.out | apply G.MapIs.alloc | apply G.MapIs.drewN | apply G.MapIs.drew | refine G.MapIs.set ?_ (G.MapIs.ne_blk MP211.out BK217.out) _ _ | refine G.MapIs.set ?_ (G.MapIs.ne_blk MP211.out BK217.out) _ _ | refine G.MapIs.set ?_ (G.MapIs.ne_blk MP211.out BK217.out) _ _) | exact MP211.out)) hg (G.MapIs.ne_row MP211.out HO_213000.out)); have n4_ := Aside0.mk (blk_grown (g := gb217) (o := .cells #[.int .i64 (-1), .int .i64 (-1), .bool t216] 105 (0, 0)) ax77 hg (Kd.R_away HO_213000.out (fun _ hk => hk.2))); have n5_ := Aside0.mk (hb); have n6_ := Aside0.mk (ho); clear HO_39; clear BK200; clear BK212; clear MP211; clear BK217; clear HB; clear HO_213000; have HO_39 := n0_; have BK200 := n1_; have BK212 := n2_; have MP211 := n3_; have BK217 := n4_; have HB := n5_; have HO220 := n6_; clear n0_ n1_ n2_ n3_ n4_ n5_ n6_; clear ho hb hg hat; obtain ⟨Ao41, co41, eo41⟩ := Kd.R_slice HO220.out; subst eo41; have hcz42_0 : w40.cell? ⟨gb212, 0, none⟩ = some (u213000) := (blk_cell BK212.out 0).trans rfl; have hfz42_0 := blk_frozen BK212.out 0))
               go_roundg k2
               case measure => have := HK1.out; have := HK2.out; omega
               case rel => exact ⟨(wrap64 (x41_2 + 1)), (y214), (y218), (.slice Ao41 y218.length co41), ax21, H', ⟨by have := HK1.out; have := HK2.out; omega⟩, ⟨by (with_reducible repeat (first | apply Kd.R_alloc | apply Kd.R_drewN | apply Kd.R_drew)); exact Kd.R_mono (Kd.R_far (p := ⟨gb212, 0, none⟩) (Kd.R_types HO_39.out BK212.out (by decide)) (fun _ hk => hk.2) (.slice Ao41 y218.length co41)) (fun _ hk => trivial)⟩, ⟨by (with_reducible repeat (first | apply Kd.R_alloc | apply Kd.R_drewN | apply Kd.R_drew)); exact Kd.R_mono (Kd.R_far (p := ⟨gb212, 0, none⟩) (Kd.R_types HO220.out BK212.out (by decide)) (fun _ hk => hk.2) (.slice Ao41 y218.length co41)) (fun _ hk => trivial)⟩, ⟨by (with_reducible repeat (first | refine blk_drewN ?_ _ | refine blk_drew ?_ | refine blk_alloc ?_ _)); refine blk_far ?_ NB200_212.out _; (with_reducible repeat (first | refine blk_drewN ?_ _ | refine blk_drew ?_ | refine blk_alloc ?_ _)); exact BK200.out⟩, ⟨by (with_reducible repeat (first | refine blk_drewN ?_ _ | refine blk_drew ?_ | refine blk_alloc ?_ _)); refine blk_put (cs := #[u213000]) ?_ 0 _ rfl; (with_reducible repeat (first | refine blk_drewN ?_ _ | refine blk_drew ?_ | refine blk_alloc ?_ _)); exact BK212.out⟩, ⟨show G.MapIs Tryz.prog 9 3 _ gm211 y214 from by repeat (first | (with_reducible first | exact MP211.out | apply G.MapIs.alloc | apply G.MapIs.drewN | apply G.MapIs.drew | refine G.MapIs.set ?_ (G.MapIs.ne_blk MP211.out BK212.out) _ _) | exact MP211.out)⟩, ⟨by repeat (first | (with_reducible first | exact HB.out | apply below_alloc | apply pw_below_drewN | apply below_drew1 | refine below_set ?_ GE200.out | refine below_set ?_ GE212.out | refine below_set ?_ GE217.out) | exact HB.out)⟩⟩
              ·rw [if_neg c32] at H
               exact absurd H (by simp)
             ·rw [if_neg c31] at H
              have c31b0 : ((rdOf ByteArray.empty t208 x41_2).toList == ([] : List UInt8)) = false := beq_eq_false_iff_ne.mpr c31
              have c31b1 : ((rdOf ByteArray.empty t208 x41_2).toList != ([] : List UInt8)) = true := bne_iff_ne.mpr c31
              obtain ⟨ji43, hji43⟩ : ∃ j_ : Int, (wrap64 (((rdOf ByteArray.empty t208 x41_2).size : Int) - 1)) = j_ := ⟨_, rfl⟩
              replace H : (if 0 ≤ (ji43) then (if (ji43) < ((rdOf ByteArray.empty t208 x41_2).size : Int) then (if (ji43) ≤ ((rdOf ByteArray.empty t208 x41_2).size : Int) then (if ((rdOf ByteArray.empty t208 x41_2).extract 0 ((ji43) : Int).toNat).size ≤ 9223372036854775807 then (if x213000_2.length < 5864062014805 then (impl_trieOf.l2 k2 l0 t208 (t208.length : Int) (wrap64 (x41_2 + 1)) y214 (x213000_2 ++ [(⟨((bt (rdOf ByteArray.empty t208 x41_2) (ji43)) - 97) % 256, G.mapGet y214 ((rdOf ByteArray.empty t208 x41_2).extract 0 ((ji43) : Int).toNat), t216⟩ : S105)])) else (none)) else (none)) else (none)) else (none)) else (none)) = some r := by first | (rw [hji43] at H; exact H) | (simp only [hji43] at H ⊢; exact H)
              (try rw [hji43] at A30)
              have hji43w : (IntKind.i64.wrap (((rdOf ByteArray.empty t208 x41_2).size : Int) - 1)) = ji43 := (i64_w _).trans hji43
              by_cases c44 : 0 ≤ (ji43)
              ·rw [if_pos c44] at H
               have c44b0 : decide (0 ≤ (ji43)) = true := decide_eq_true c44
               clear c44
               by_cases c45 : (ji43) < ((rdOf ByteArray.empty t208 x41_2).size : Int)
               ·rw [if_pos c45] at H
                have c45b0 : decide ((ji43) < ((rdOf ByteArray.empty t208 x41_2).size : Int)) = true := decide_eq_true c45
                clear c45
                have cv47w : (IntKind.i64.wrap (((bt (rdOf ByteArray.empty t208 x41_2) (ji43)) - 97) % 256)) = (((bt (rdOf ByteArray.empty t208 x41_2) (ji43)) - 97) % 256) := (i64_w _).trans (by unfold wrap64; omega)
                have cv48z : wrap64 (((bt (rdOf ByteArray.empty t208 x41_2) (ji43)) - 97) % 256) = (((bt (rdOf ByteArray.empty t208 x41_2) (ji43)) - 97) % 256) := by unfold wrap64; omega
                have c49b0 := eq_true (of_decide_eq_true ax22 : 0 ≤ (ji43))
                by_cases c50 : (ji43) ≤ ((rdOf ByteArray.empty t208 x41_2).size : Int)
                ·rw [if_pos c50] at H
                 have c50b0 := eq_true c50
                 have c50b1 : decide ((ji43) ≤ ((rdOf ByteArray.empty t208 x41_2).size : Int)) = true := decide_eq_true c50
                 clear c50
                 obtain ⟨js51, hjs51⟩ : ∃ j_ : ByteArray, ((rdOf ByteArray.empty t208 x41_2).extract 0 ((ji43) : Int).toNat) = j_ := ⟨_, rfl⟩
                 replace H : (if js51.size ≤ 9223372036854775807 then (if x213000_2.length < 5864062014805 then (impl_trieOf.l2 k2 l0 t208 (t208.length : Int) (wrap64 (x41_2 + 1)) y214 (x213000_2 ++ [(⟨((bt (rdOf ByteArray.empty t208 x41_2) (ji43)) - 97) % 256, G.mapGet y214 js51, t216⟩ : S105)])) else (none)) else (none)) = some r := by first | (rw [hjs51] at H; exact H) | (simp only [hjs51] at H ⊢; exact H)
                 by_cases c52 : js51.size ≤ 9223372036854775807
                 ·rw [if_pos c52] at H
                  have LMc52 := Aside0.mk c52; clear c52
                  by_cases c53 : x213000_2.length < 5864062014805
                  ·rw [if_pos c53] at H
                   have LMc53 := Aside0.mk c53; clear c53
                   obtain ⟨y221, hy221⟩ : ∃ y_ : List (S105), y_ = (x213000_2 ++ [(⟨((bt (rdOf ByteArray.empty t208 x41_2) (ji43)) - 97) % 256, G.mapGet y214 js51, t216⟩ : S105)]) := ⟨_, rfl⟩
                   replace H : (impl_trieOf.l2 k2 l0 t208 (t208.length : Int) (wrap64 (x41_2 + 1)) y214 y221) = some r := by first | (rw [hy221]; with_reducible exact H) | (have H2_ := (Option.bind_some _ _).symm.trans H; rw [hy221]; with_reducible exact H2_) | (have H2_ := (Option.bind_some _ _).symm.trans H; with_reducible exact H2_) | with_reducible exact H | (rw [hy221]; exact H) | exact H
                   have Ny221 := Aside0.mk hy221; clear hy221
                   have H' := Aside0.mk H
                   clear H
                   have p213 : 0 ≤ (x41_2 : Int) := of_decide_eq_true ax22
                   have q213 : x41_2 < (t208.length : Int) := of_decide_eq_true ax22
                   obtain ⟨ad213, e213, hx213_0⟩ := Kd.at_string (Kd.R_reads' HO_39.out).2.2 x41_2 p213 q213
                   cases e213; replace p213 := eq_true p213; replace q213 := eq_true q213
                   try go_wp2_with (first | ((with_reducible refine G.gate_mput (t := 115) (m := .tmp 46) (x := .tmp 47) (v := .tmp 48) rfl ?_); refine G.mput_event ?hg (t := 115) (m := .tmp 46) (x := .tmp 47) (v := .tmp 48) ?ho ?hd (b := gm211) (s := (rdOf ByteArray.empty t208 x41_2)) (i := x41_2) ?hm ?hx ?hv (K := 9) (E := 3) (c := x212000_2) ?ht ?hK ?hE ?hw ?hs ?hl ?hmap ?_; (case hg => rfl); (case ho => rfl); (case hd => rfl); (case hm => rfl); (case hx => rfl); (case hv => rfl); (case ht => exact Tryz.underlying115); (case hK => exact Tryz.underlying9); (case hE => exact Tryz.underlying3); (case hw => exact ax66); (case hs => exact LMc27.out); (case hl => exact LMc26.out); (case hmap => exact ax67); intro w54 hmap hg; rw [← Ny214.out] at hmap; have n0_ := Aside0.mk (Kd.R_grown1 ax68 rfl hg (G.MapIs.ne_row MP211.out HO_39.out)); have n1_ := Aside0.mk (Kd.R_grown1 ax69 rfl hg (G.MapIs.ne_row MP211.out HO_213000.out)); have n2_ := Aside0.mk (blk_grown (g := gb200) (o := .cells #[.slice none 0 0] 45 (0, 0)) ax60 hg (fun e_ => G.MapIs.ne_blk MP211.out BK200.out ax70)); have n3_ := Aside0.mk (blk_grown (g := gb212) (o := .cells #[u213000] 45 (0, 0)) ax71 hg (fun e_ => G.MapIs.ne_blk MP211.out BK212.out ax70)); have n4_ := Aside0.mk (hmap); have n5_ := Aside0.mk (Below.grown ax72 hg (below_size ax72) (fun k_ e_ => by cases e_; exact GM211.out)); clear HO_39; clear HO_213000; clear BK200; clear BK212; clear MP211; clear HB; have HO_39 := n0_; have HO_213000 := n1_; have BK200 := n2_; have BK212 := n3_; have MP211 := n4_; have HB := n5_; clear n0_ n1_ n2_ n3_ n4_ n5_; clear hmap hg) | ((with_reducible refine gate_callee (f := 90) rfl ?_); refine goesL_ (some 52) rfl rfl Tryz.func90 (by kernel_rfl) rfl #[.slice A0 l0.length c0, .string (rdOf ByteArray.empty t208 x41_2)] rfl ax31 ?_; (with_reducible refine (slices_BinarySearch_string_string.calls k2 _ _ l0 (rdOf ByteArray.empty t208 x41_2) t215 t216 _ ?side1 ?side2 A30.out).mono ?_); (case side1 => exact ax26); (case side2 => exact HC0.out); rintro e w' ⟨rfl, ⟨nd, rfl⟩⟩; refine ⟨_, rfl, ?_⟩; (try (rw [drewN_self w54]; generalize hq_ : World.drewN w54 _ = w54; have n0_ : Aside0 (Kd.R k105 105 w54 w.heap.size (fun _ => True) u213000 x213000_2) := ⟨by rw [← hq_]; exact ax69⟩; have n1_ : Aside0 (Kd.R Kd.string 9 w54 w.heap.size (fun _ => True) (.slice (some ad213) t208.length co22) t208) := ⟨by rw [← hq_]; exact ax68⟩; have n2_ : Aside0 (G.MapIs Tryz.prog 9 3 w54 gm211 y214) := ⟨by rw [← hq_]; exact show G.MapIs Tryz.prog 9 3 _ gm211 y214 from by repeat (first | (with_reducible first | exact MP211.out | apply G.MapIs.alloc | apply G.MapIs.drewN | apply G.MapIs.drew) | exact MP211.out)⟩; have n3_ : Aside0 (w54.heap[gb200]? = some (.cells #[.slice none 0 0] 45 (0, 0))) := ⟨by rw [← hq_]; exact ax60⟩; have n4_ : Aside0 (w54.heap[gb212]? = some (.cells #[u213000] 45 (0, 0))) := ⟨by rw [← hq_]; exact ax71⟩; have n5_ : Aside0 (Below w.heap.size w w54) := ⟨by rw [← hq_]; exact ax72⟩; clear HO_213000 HO_39 MP211 BK200 BK212 HB hq_; have HO_213000 := n0_; have HO_39 := n1_; have MP211 := n2_; have BK200 := n3_; have BK212 := n4_; have HB := n5_; clear n0_ n1_ n2_ n3_ n4_ n5_))) | ((with_reducible refine gate_dst (N := 13) rfl ?_); refine box_event ?hg (N := 13) ?hd (cs := #[.int .i64 0, .int .i64 0, .bool false]) (t := 105) ?hr ?_; (case hd => rfl); (case hg => rfl); (case hr => exact ax23); intro gb217 hg w55 hbox hb; have n0_ := Aside0.mk (Kd.R_below ax68 hb); have n1_ := Aside0.mk (Kd.R_below (Kd.R_elderB ax69 gb217 (Nat.le_of_eq hg.symm)) hb); have n2_ := Aside0.mk (blk_below (g := gb200) (o := .cells #[.slice none 0 0] 45 (0, 0)) ax60 hb); have n3_ := Aside0.mk (blk_below (g := gb212) (o := .cells #[u213000] 45 (0, 0)) ax71 hb); have n4_ := Aside0.mk (G.MapIs.below (show G.MapIs Tryz.prog 9 3 _ gm211 y214 from by repeat (first | (with_reducible first | exact MP211.out | apply G.MapIs.alloc | apply G.MapIs.drewN | apply G.MapIs.drew) | exact MP211.out)) hb); have n5_ := Aside0.mk (below_step ax72 hb); have n6_ := Aside0.mk (hbox); have n7_ := Aside0.mk ((ax73 : w.heap.size ≤ gb217)); have n8_ := Aside0.mk ((ax73 : w.heap.size ≤ gb217)); have n9_ := Aside0.mk ((ax64 : gb200 ≠ gb217)); have n10_ := Aside0.mk ((ax65 : gb217 ≠ gb200)); have n11_ := Aside0.mk ((ax74 : gb212 ≠ gb217)); have n12_ := Aside0.mk ((ax75 : gb217 ≠ gb212)); clear HO_39; clear HO_213000; clear BK200; clear BK212; clear MP211; clear HB; have HO_39 := n0_; have HO_213000 := n1_; have BK200 := n2_; have BK212 := n3_; have MP211 := n4_; have HB := n5_; have BK217 := n6_; have GW217 := n7_; have GE217 := n8_; have NB200_217 := n9_; have NB217_200 := n10_; have NB212_217 := n11_; have NB217_212 := n12_; clear n0_ n1_ n2_ n3_ n4_ n5_ n6_ n7_ n8_ n9_ n10_ n11_ n12_; clear hb hbox hg; have hnb56 := NB217_200.out; have hnc56 := NB200_217.out; have hnb57 := NB217_212.out; have hnc57 := NB212_217.out; have hcz58_0 : w55.cell? ⟨gb217, 0, none⟩ = some (.int .i64 0) := (blk_cell BK217.out 0).trans rfl; have hcz58_1 : w55.cell? ⟨gb217, 1, none⟩ = some (.int .i64 0) := (blk_cell BK217.out 1).trans rfl; have hcz58_2 : w55.cell? ⟨gb217, 2, none⟩ = some (.bool false) := (blk_cell BK217.out 2).trans rfl; have hfz58_0 := blk_frozen BK217.out 0; have hfz58_1 := blk_frozen BK217.out 1; have hfz58_2 := blk_frozen BK217.out 2))
                   have n0_ : Aside0 (Kd.R Kd.string 9 (((w55.setCell ⟨gb217, 0, none⟩ (.int .i64 (-1))).setCell ⟨gb217, 1, none⟩ (.int .i64 (-1))).setCell ⟨gb217, 2, none⟩ (.bool t216)) w.heap.size (fun _ => True) (.slice (some ad213) t208.length co22) t208) := ⟨by (with_reducible repeat (first | apply Kd.R_alloc | apply Kd.R_drewN | apply Kd.R_drew)); exact Kd.R_mono (Kd.R_far (p := ⟨gb217, 2, none⟩) (Kd.R_far (p := ⟨gb217, 1, none⟩) (Kd.R_far (p := ⟨gb217, 0, none⟩) (Kd.R_types HO_39.out BK217.out (by decide)) (fun _ hk => hk.2) (.int .i64 (-1))) (fun _ hk => hk.2) (.int .i64 (-1))) (fun _ hk => hk.2) (.bool t216)) (fun _ hk => trivial)⟩
                   have n1_ : Aside0 (Kd.R k105 105 (((w55.setCell ⟨gb217, 0, none⟩ (.int .i64 (-1))).setCell ⟨gb217, 1, none⟩ (.int .i64 (-1))).setCell ⟨gb217, 2, none⟩ (.bool t216)) w.heap.size (fun k_ => k_ ≠ gb217) u213000 x213000_2) := ⟨by (with_reducible repeat (first | apply Kd.R_alloc | apply Kd.R_drewN | apply Kd.R_drew)); exact Kd.R_mono (Kd.R_far (p := ⟨gb217, 2, none⟩) (Kd.R_far (p := ⟨gb217, 1, none⟩) (Kd.R_far (p := ⟨gb217, 0, none⟩) (Kd.R_mono HO_213000.out (fun k_ hk => (⟨hk, hk.2⟩ : _ ∧ k_ ≠ gb217))) (fun _ hk => hk.2) (.int .i64 (-1))) (fun _ hk => hk.2) (.int .i64 (-1))) (fun _ hk => hk.2) (.bool t216)) (fun _ hk => hk.1.2)⟩
                   have n2_ : Aside0 ((((w55.setCell ⟨gb217, 0, none⟩ (.int .i64 (-1))).setCell ⟨gb217, 1, none⟩ (.int .i64 (-1))).setCell ⟨gb217, 2, none⟩ (.bool t216)).heap[gb200]? = some (.cells #[.slice none 0 0] 45 (0, 0))) := ⟨by (with_reducible repeat (first | refine blk_drewN ?_ _ | refine blk_drew ?_ | refine blk_alloc ?_ _)); refine blk_far ?_ NB200_217.out _; (with_reducible repeat (first | refine blk_drewN ?_ _ | refine blk_drew ?_ | refine blk_alloc ?_ _)); refine blk_far ?_ NB200_217.out _; (with_reducible repeat (first | refine blk_drewN ?_ _ | refine blk_drew ?_ | refine blk_alloc ?_ _)); refine blk_far ?_ NB200_217.out _; (with_reducible repeat (first | refine blk_drewN ?_ _ | refine blk_drew ?_ | refine blk_alloc ?_ _)); exact BK200.out⟩
                   have n3_ : Aside0 ((((w55.setCell ⟨gb217, 0, none⟩ (.int .i64 (-1))).setCell ⟨gb217, 1, none⟩ (.int .i64 (-1))).setCell ⟨gb217, 2, none⟩ (.bool t216)).heap[gb212]? = some (.cells #[u213000] 45 (0, 0))) := ⟨by (with_reducible repeat (first | refine blk_drewN ?_ _ | refine blk_drew ?_ | refine blk_alloc ?_ _)); refine blk_far ?_ NB212_217.out _; (with_reducible repeat (first | refine blk_drewN ?_ _ | refine blk_drew ?_ | refine blk_alloc ?_ _)); refine blk_far ?_ NB212_217.out _; (with_reducible repeat (first | refine blk_drewN ?_ _ | refine blk_drew ?_ | refine blk_alloc ?_ _)); refine blk_far ?_ NB212_217.out _; (with_reducible repeat (first | refine blk_drewN ?_ _ | refine blk_drew ?_ | refine blk_alloc ?_ _)); exact BK212.out⟩
                   have n4_ : Aside0 ((((w55.setCell ⟨gb217, 0, none⟩ (.int .i64 (-1))).setCell ⟨gb217, 1, none⟩ (.int .i64 (-1))).setCell ⟨gb217, 2, none⟩ (.bool t216)).heap[gb217]? = some (.cells #[.int .i64 (-1), .int .i64 (-1), .bool t216] 105 (0, 0))) := ⟨by (with_reducible repeat (first | refine blk_drewN ?_ _ | refine blk_drew ?_ | refine blk_alloc ?_ _)); refine blk_put (cs := #[.int .i64 (-1), .int .i64 (-1), .bool false]) ?_ 2 _ rfl; (with_reducible repeat (first | refine blk_drewN ?_ _ | refine blk_drew ?_ | refine blk_alloc ?_ _)); refine blk_put (cs := #[.int .i64 (-1), .int .i64 0, .bool false]) ?_ 1 _ rfl; (with_reducible repeat (first | refine blk_drewN ?_ _ | refine blk_drew ?_ | refine blk_alloc ?_ _)); refine blk_put (cs := #[.int .i64 0, .int .i64 0, .bool false]) ?_ 0 _ rfl; (with_reducible repeat (first | refine blk_drewN ?_ _ | refine blk_drew ?_ | refine blk_alloc ?_ _)); exact BK217.out⟩
                   have n5_ : Aside0 (G.MapIs Tryz.prog 9 3 (((w55.setCell ⟨gb217, 0, none⟩ (.int .i64 (-1))).setCell ⟨gb217, 1, none⟩ (.int .i64 (-1))).setCell ⟨gb217, 2, none⟩ (.bool t216)) gm211 y214) := ⟨show G.MapIs Tryz.prog 9 3 _ gm211 y214 from by repeat (first | (with_reducible first | exact MP211.out | apply G.MapIs.alloc | apply G.MapIs.drewN | apply G.MapIs.drew | refine G.MapIs.set ?_ (G.MapIs.ne_blk MP211.out BK217.out) _ _ | refine G.MapIs.set ?_ (G.MapIs.ne_blk MP211.out BK217.out) _ _ | refine G.MapIs.set ?_ (G.MapIs.ne_blk MP211.out BK217.out) _ _) | exact MP211.out)⟩
                   have n6_ : Aside0 (Below w.heap.size w (((w55.setCell ⟨gb217, 0, none⟩ (.int .i64 (-1))).setCell ⟨gb217, 1, none⟩ (.int .i64 (-1))).setCell ⟨gb217, 2, none⟩ (.bool t216))) := ⟨by repeat (first | (with_reducible first | exact HB.out | apply below_alloc | apply pw_below_drewN | apply below_drew1 | refine below_set ?_ GE200.out | refine below_set ?_ GE212.out | refine below_set ?_ GE217.out) | exact HB.out)⟩
                   (try clear HO_39); (try clear HO_213000); (try clear BK200); (try clear BK212); (try clear BK217); (try clear MP211); (try clear HB); generalize (((w55.setCell ⟨gb217, 0, none⟩ (.int .i64 (-1))).setCell ⟨gb217, 1, none⟩ (.int .i64 (-1))).setCell ⟨gb217, 2, none⟩ (.bool t216)) = w59 at n0_ n1_ n2_ n3_ n4_ n5_ n6_ ⊢; have HO_39 := n0_; have HO_213000 := n1_; have BK200 := n2_; have BK212 := n3_; have BK217 := n4_; have MP211 := n5_; have HB := n6_; clear n0_ n1_ n2_ n3_ n4_ n5_ n6_; have n0_ := Aside0.mk (Kd.R_drew HO_39.out); have n1_ := Aside0.mk (Kd.R_drew HO_213000.out); have n2_ := Aside0.mk (blk_drew BK200.out); have n3_ := Aside0.mk (blk_drew BK212.out); have n4_ := Aside0.mk (blk_drew BK217.out); have n5_ := Aside0.mk (G.MapIs.drew MP211.out); have n6_ := Aside0.mk (below_drew1 HB.out); clear HO_39; clear HO_213000; clear BK200; clear BK212; clear BK217; clear MP211; clear HB; have HO_39 := n0_; have HO_213000 := n1_; have BK200 := n2_; have BK212 := n3_; have BK217 := n4_; have MP211 := n5_; have HB := n6_; clear n0_ n1_ n2_ n3_ n4_ n5_ n6_
                   have p46 : 0 ≤ ((ji43) : Int) := of_decide_eq_true ax22
                   have q46 : (ji43) < ((rdOf ByteArray.empty t208 x41_2).size : Int) := of_decide_eq_true ax22
                   have hx46 := bt_at (rdOf ByteArray.empty t208 x41_2) (ji43); replace p46 := eq_true p46; replace q46 := eq_true q46
                   refine start_ (n := 18) (S := fun w' => G.MapIs Tryz.prog 9 3 w' gm211 y214 ∧ (Instr.lookup 115 (.map (some gm211)) (.string js51) false).run Tryz.prog w' = .ok (.int .i64 (G.mapGet y214 js51)) w') (ds := []) (ob 18 0) (by kernel_rfl) rfl rfl ⟨MP211.out, G.MapIs.run_get MP211.out Tryz.underlying115 Tryz.underlying9 Tryz.underlying3 (Tryz.zeroValue3 _) LMc52.out⟩ (fun hHeld => ?_); refine with_tabW impl_trieOf.tab20 impl_trieOf.bits20 (fun HT_ HW_ => ?_)
                   generalize w59.drew = w60 at HO_39 HO_213000 BK200 BK212 BK217 MP211 HB hHeld ⊢
                   refine pure_ (i := 0) (N := some 59) (v := ?_) (a' := ?_) (ob 18 1) rfl rfl (any_of HT_.out (by kernel_rfl)) (fun _ _ _ h => h) (Or.inl ⟨by rfl, ?_⟩) ?_ ?_; rotate_left; exact ax5; rotate_left; exact ax6
                   refine pure_ (i := 1) (N := some 60) (v := ?_) (a' := ?_) (ob 18 3) rfl rfl (any_of HT_.out (by kernel_rfl)) (fun _ _ _ h => h) (Or.inl ⟨by rfl, ?_⟩) ?_ ?_; rotate_left; exact ax5; rotate_left; exact ax6
                   refine pure_ (i := 2) (N := some 61) (v := ?_) (a' := ?_) (ob 18 7) rfl rfl (any_of HT_.out (by kernel_rfl)) (fun _ _ _ h => h) (Or.inl ⟨by rfl, ?_⟩) ?_ ?_; rotate_left; exact ax5; rotate_left; exact ax6
                   refine pure_ (i := 3) (N := some 62) (v := ?_) (a' := ?_) (ob 18 15) rfl rfl (any_of HT_.out (by kernel_rfl)) (fun _ _ _ h => h) (Or.inl ⟨by rfl, ?_⟩) ?_ ?_; rotate_left; exact ax5; rotate_left; exact ax6
                   refine pure_ (i := 7) (N := some 66) (v := ?_) (a' := ?_) (ob 18 143) rfl rfl (any_of HT_.out (by kernel_rfl)) (fun _ _ _ h => h) (Or.inl ⟨by rfl, ?_⟩) ?_ ?_; rotate_left; exact ax5; rotate_left; exact ax6
                   refine pure_ (i := 8) (N := some 67) (v := ?_) (a' := ?_) (ob 18 399) rfl rfl (any_of HT_.out (by kernel_rfl)) (fun _ _ _ h => h) (Or.inl ⟨by rfl, ?_⟩) ?_ ?_; rotate_left; exact ax5; rotate_left; exact ax6
                   refine pure_ (i := 9) (N := some 68) (v := ?_) (a' := ?_) (ob 18 911) rfl rfl (any_of HT_.out (by kernel_rfl)) (fun _ _ _ h => h) (Or.inl ⟨by rfl, ?_⟩) ?_ ?_; rotate_left; exact ax5; rotate_left; exact ax6
                   refine pure_ (i := 10) (N := some 69) (v := ?_) (a' := ?_) (ob 18 1935) rfl rfl (any_of HT_.out (by kernel_rfl)) (fun _ _ _ h => h) (Or.inl ⟨by rfl, ?_⟩) ?_ ?_; rotate_left; exact ax5; rotate_left; exact ax6
                   refine pure_ (i := 11) (N := some 70) (v := ?_) (a' := ?_) (ob 18 3983) rfl rfl (any_of HT_.out (by kernel_rfl)) (fun _ _ _ h => h) (Or.inl ⟨by rfl, ?_⟩) ?_ ?_; rotate_left; exact ax5; rotate_left; exact ax6
                   refine pure_ (i := 12) (N := some 71) (v := ?_) (a' := ?_) (ob 18 8079) rfl rfl (any_of HT_.out (by kernel_rfl)) (fun _ _ _ h => h) (Or.inl ⟨by rfl, ?_⟩) ?_ ?_; rotate_left; exact ax5; rotate_left; exact ax6
                   refine take_ (i := 4) (N := some 63) (v := ?_) (a' := ?_) (ob 18 8095) rfl rfl (take_ofW HT_.out HW_.out (by kernel_rfl)) (fun _ _ _ h => h) (Or.inl ⟨by rfl, ?_⟩) hHeld ?_ ?_
                   rotate_left
                   ·rintro w' ⟨s0, s1⟩
                    go_simp
                    with_reducible rfl
                   rotate_left
                   ·exact ax6
                   refine pure_ (i := 5) (N := some 64) (v := ?_) (a' := ?_) (ob 18 8127) rfl rfl (any_of HT_.out (by kernel_rfl)) (fun _ _ _ h => h) (Or.inl ⟨by rfl, ?_⟩) ?_ ?_; rotate_left; exact ax5; rotate_left; exact ax6
                   refine pure_ (i := 6) (N := some 65) (v := ?_) (a' := ?_) (ob 18 8191) rfl rfl (any_of HT_.out (by kernel_rfl)) (fun _ _ _ h => h) (Or.inl ⟨by rfl, ?_⟩) ?_ ?_; rotate_left; exact ax5; rotate_left; exact ax6
                   refine pure_ (i := 14) (N := some 73) (v := ?_) (a' := ?_) (ob 18 24575) rfl rfl (any_of HT_.out (by kernel_rfl)) (fun _ _ _ h => h) (Or.inl ⟨by rfl, ?_⟩) ?_ ?_; rotate_left; exact ax5; rotate_left; exact ax6
                   refine take_ (i := 13) (N := some 72) (v := ?_) (a' := ?_) (ob 18 32767) rfl rfl (take_ofW HT_.out HW_.out (by kernel_rfl)) (fun _ _ _ h => h) (Or.inl ⟨by rfl, ?_⟩) hHeld ?_ ?_
                   rotate_left
                   ·rintro w' ⟨s0, s1⟩
                    go_simp
                    with_reducible rfl
                   rotate_left
                   ·exact ax6
                   refine one_ (i := 15) (N := none) (ob 18 65535) rfl rfl (one_of HT_.out (by kernel_rfl)) (by decide) (fun K hK => ?_)
                   have hs61 : w60.cell? ⟨gb217, 0, none⟩ = some (.int .i64 (-1)) := (blk_cell BK217.out 0).trans rfl
                   have hfs61 := blk_frozen BK217.out 0; have hns61_0 := NB200_217.out; have hns61_1 := NB212_217.out; have hms61_0 := NB217_200.out; have hms61_1 := NB217_212.out
                   refine skip_ (w1 := ?_) (by rfl) rfl ?_ ?_
                   rotate_left
                   ·go_simp
                    rfl
                   refine hK.out _ _ ⟨(G.MapIs.set (hHeld.1) (G.MapIs.ne_blk MP211.out BK217.out) _ _), G.MapIs.run_get (G.MapIs.set (hHeld.1) (G.MapIs.ne_blk MP211.out BK217.out) _ _) Tryz.underlying115 Tryz.underlying9 Tryz.underlying3 (Tryz.zeroValue3 _) LMc52.out⟩ (fun hHeld => ?_)
                   clear hK K
                   refine pure_ (i := 16) (N := some 74) (v := ?_) (a' := ?_) (ob 18 131071) rfl rfl (any_of HT_.out (by kernel_rfl)) (fun _ _ _ h => h) (Or.inl ⟨by rfl, ?_⟩) ?_ ?_; rotate_left; exact ax5; rotate_left; exact ax6
                   refine one_ (i := 17) (N := none) (ob 18 262143) rfl rfl (one_of HT_.out (by kernel_rfl)) (by decide) (fun K hK => ?_)
                   have hs62 : w60.cell? ⟨gb217, 1, none⟩ = some (.int .i64 (-1)) := (blk_cell BK217.out 1).trans rfl
                   have hfs62 := blk_frozen BK217.out 1; have hns62_0 := NB200_217.out; have hns62_1 := NB212_217.out; have hms62_0 := NB217_200.out; have hms62_1 := NB217_212.out
                   refine skip_ (w1 := ?_) (by rfl) rfl ?_ ?_
                   rotate_left
                   ·go_simp
                    rfl
                   refine hK.out _ _ ⟨(G.MapIs.set (hHeld.1) (G.MapIs.ne_blk MP211.out BK217.out) _ _), G.MapIs.run_get (G.MapIs.set (hHeld.1) (G.MapIs.ne_blk MP211.out BK217.out) _ _) Tryz.underlying115 Tryz.underlying9 Tryz.underlying3 (Tryz.zeroValue3 _) LMc52.out⟩ (fun hHeld => ?_)
                   clear hK K
                   refine done_ (done_of HT_.out (by kernel_rfl)) ?_
                   have hnb63 := NB212_200.out; have hnc63 := NB200_212.out
                   have hcz64_0 : w60.cell? ⟨gb212, 0, none⟩ = some (u213000) := (blk_cell BK212.out 0).trans rfl
                   have hfz64_0 := blk_frozen BK212.out 0
                   have hcz65_0 : w60.cell? ⟨gb217, 0, none⟩ = some (.int .i64 (-1)) := (blk_cell BK217.out 0).trans rfl
                   have hcz65_1 : w60.cell? ⟨gb217, 1, none⟩ = some (.int .i64 (-1)) := (blk_cell BK217.out 1).trans rfl
                   have hcz65_2 : w60.cell? ⟨gb217, 2, none⟩ = some (.bool t216) := (blk_cell BK217.out 2).trans rfl
                   have hfz65_0 := blk_frozen BK217.out 0; have hfz65_1 := blk_frozen BK217.out 1; have hfz65_2 := blk_frozen BK217.out 2
                   try go_wp2_with (first | ((with_reducible refine gate_builtin (b := .append) (xs := #[.tmp 76, .tmp 78]) rfl ?_); at_builtin; refine Kd.R_append k105 (w0 := w) w.heap.size rfl (.tmp 76) (.tmp 78) 43 105 (.agg #[(.int .i64 0), (.int .i64 0), (.bool false)]) 24 rfl Tryz.underlying43 info105 rfl (by decide) (by omega) u213000 x213000_2 (⟨((bt (rdOf ByteArray.empty t208 x41_2) (ji43)) - 97) % 256, G.mapGet y214 js51, t216⟩ : S105) [.int .i64 (((bt (rdOf ByteArray.empty t208 x41_2) (ji43)) - 97) % 256), .int .i64 (G.mapGet y214 js51), .bool t216] (fun k_ => k_ ≠ gb217) (fun _ => False) rfl ax23 ?aP (fun _ hk => hk.elim) ?aF ?aO ?aB ?aS ?aL ?_; (case aP => exact k105_mkM _ _ _ (⟨((bt (rdOf ByteArray.empty t208 x41_2) (ji43)) - 97) % 256, G.mapGet y214 js51, t216⟩ : S105)); (case aB => exact ax76); (case aF => exact (fun k_ hk => Kd.freshB (g := gb217) (o := .cells #[.int .i64 (((bt (rdOf ByteArray.empty t208 x41_2) (ji43)) - 97) % 256), .int .i64 (G.mapGet y214 js51), .bool t216] 105 (0, 0)) ax79 k_ hk)); (case aO => exact (by (with_reducible repeat (first | apply Kd.R_alloc | apply Kd.R_drewN | apply Kd.R_drew)); exact Kd.R_mono (Kd.R_far (p := ⟨gb217, 1, none⟩) (Kd.R_far (p := ⟨gb217, 0, none⟩) (Kd.R_mono HO_213000.out (fun k_ hk => (⟨hk, hk⟩ : _ ∧ k_ ≠ gb217))) (fun _ hk => hk.2) (.int .i64 (((bt (rdOf ByteArray.empty t208 x41_2) (ji43)) - 97) % 256))) (fun _ hk => hk.2) (.int .i64 (G.mapGet y214 js51))) (fun _ hk => hk.1))); (case aS => exact ax78); (case aL => have := LMc53.out; omega); intro v222 w66 ho hb hg hat; rw [← Ny221.out] at ho; have n0_ := Aside0.mk (Kd.R_over' (by (with_reducible repeat (first | apply Kd.R_alloc | apply Kd.R_drewN | apply Kd.R_drew)); exact (Kd.R_mono (Kd.R_far (p := ⟨gb217, 1, none⟩) (Kd.R_far (p := ⟨gb217, 0, none⟩) (Kd.R_types HO_39.out BK217.out (by decide)) (fun _ hk => hk.2) (.int .i64 (((bt (rdOf ByteArray.empty t208 x41_2) (ji43)) - 97) % 256))) (fun _ hk => hk.2) (.int .i64 (G.mapGet y214 js51))) (fun _ h_ => h_.1))) (Kd.R_typed (by (with_reducible repeat (first | apply Kd.R_alloc | apply Kd.R_drewN | apply Kd.R_drew)); exact (Kd.R_mono (Kd.R_far (p := ⟨gb217, 1, none⟩) (Kd.R_far (p := ⟨gb217, 0, none⟩) (Kd.R_mono HO_213000.out (fun k_ hk => (⟨hk, hk⟩ : _ ∧ k_ ≠ gb217))) (fun _ hk => hk.2) (.int .i64 (((bt (rdOf ByteArray.empty t208 x41_2) (ji43)) - 97) % 256))) (fun _ hk => hk.2) (.int .i64 (G.mapGet y214 js51))) (fun _ h_ => h_.1)))) (by decide) hg); have n1_ := Aside0.mk (blk_grown (g := gb200) (o := .cells #[.slice none 0 0] 45 (0, 0)) (by (with_reducible repeat (first | refine blk_drewN ?_ _ | refine blk_drew ?_ | refine blk_alloc ?_ _)); refine blk_far ?_ NB200_217.out _; (with_reducible repeat (first | refine blk_drewN ?_ _ | refine blk_drew ?_ | refine blk_alloc ?_ _)); refine blk_far ?_ NB200_217.out _; (with_reducible repeat (first | refine blk_drewN ?_ _ | refine blk_drew ?_ | refine blk_alloc ?_ _)); exact BK200.out) hg (Kd.R_ne HO_213000.out BK200.out (by decide))); have n2_ := Aside0.mk (blk_grown (g := gb212) (o := .cells #[u213000] 45 (0, 0)) (by (with_reducible repeat (first | refine blk_drewN ?_ _ | refine blk_drew ?_ | refine blk_alloc ?_ _)); refine blk_far ?_ NB212_217.out _; (with_reducible repeat (first | refine blk_drewN ?_ _ | refine blk_drew ?_ | refine blk_alloc ?_ _)); refine blk_far ?_ NB212_217.out _; (with_reducible repeat (first | refine blk_drewN ?_ _ | refine blk_drew ?_ | refine blk_alloc ?_ _)); exact BK212.out) hg (Kd.R_ne HO_213000.out BK212.out (by decide))); have n3_ := Aside0.mk (G.MapIs.grown (show G.MapIs Tryz.prog 9 3 _ gm211 y214 from by repeat (first | (with_reducible first | exact MP211.out | apply G.MapIs.alloc | apply G.MapIs.drewN | apply G.MapIs.drew | refine G.MapIs.set ?_ (G.MapIs.ne_blk MP211.out BK217.out) _ _ | refine G.MapIs.set ?_ (G.MapIs.ne_blk MP211.out BK217.out) _ _) | exact MP211.out)) hg (G.MapIs.ne_row MP211.out HO_213000.out)); have n4_ := Aside0.mk (blk_grown (g := gb217) (o := .cells #[.int .i64 (((bt (rdOf ByteArray.empty t208 x41_2) (ji43)) - 97) % 256), .int .i64 (G.mapGet y214 js51), .bool t216] 105 (0, 0)) ax79 hg (Kd.R_away HO_213000.out (fun _ hk => hk))); have n5_ := Aside0.mk (hb); have n6_ := Aside0.mk (ho); clear HO_39; clear BK200; clear BK212; clear MP211; clear BK217; clear HB; clear HO_213000; have HO_39 := n0_; have BK200 := n1_; have BK212 := n2_; have MP211 := n3_; have BK217 := n4_; have HB := n5_; have HO223 := n6_; clear n0_ n1_ n2_ n3_ n4_ n5_ n6_; clear ho hb hg hat; obtain ⟨Ao67, co67, eo67⟩ := Kd.R_slice HO223.out; subst eo67; have hcz68_0 : w66.cell? ⟨gb212, 0, none⟩ = some (u213000) := (blk_cell BK212.out 0).trans rfl; have hfz68_0 := blk_frozen BK212.out 0))
                   go_roundg k2
                   case measure => have := HK1.out; have := HK2.out; omega
                   case rel => exact ⟨(wrap64 (x41_2 + 1)), (y214), (y221), (.slice Ao67 y221.length co67), ax21, H', ⟨by have := HK1.out; have := HK2.out; omega⟩, ⟨by (with_reducible repeat (first | apply Kd.R_alloc | apply Kd.R_drewN | apply Kd.R_drew)); exact Kd.R_mono (Kd.R_far (p := ⟨gb212, 0, none⟩) (Kd.R_types HO_39.out BK212.out (by decide)) (fun _ hk => hk.2) (.slice Ao67 y221.length co67)) (fun _ hk => trivial)⟩, ⟨by (with_reducible repeat (first | apply Kd.R_alloc | apply Kd.R_drewN | apply Kd.R_drew)); exact Kd.R_mono (Kd.R_far (p := ⟨gb212, 0, none⟩) (Kd.R_types HO223.out BK212.out (by decide)) (fun _ hk => hk.2) (.slice Ao67 y221.length co67)) (fun _ hk => trivial)⟩, ⟨by (with_reducible repeat (first | refine blk_drewN ?_ _ | refine blk_drew ?_ | refine blk_alloc ?_ _)); refine blk_far ?_ NB200_212.out _; (with_reducible repeat (first | refine blk_drewN ?_ _ | refine blk_drew ?_ | refine blk_alloc ?_ _)); exact BK200.out⟩, ⟨by (with_reducible repeat (first | refine blk_drewN ?_ _ | refine blk_drew ?_ | refine blk_alloc ?_ _)); refine blk_put (cs := #[u213000]) ?_ 0 _ rfl; (with_reducible repeat (first | refine blk_drewN ?_ _ | refine blk_drew ?_ | refine blk_alloc ?_ _)); exact BK212.out⟩, ⟨show G.MapIs Tryz.prog 9 3 _ gm211 y214 from by repeat (first | (with_reducible first | exact MP211.out | apply G.MapIs.alloc | apply G.MapIs.drewN | apply G.MapIs.drew | refine G.MapIs.set ?_ (G.MapIs.ne_blk MP211.out BK212.out) _ _) | exact MP211.out)⟩, ⟨by repeat (first | (with_reducible first | exact HB.out | apply below_alloc | apply pw_below_drewN | apply below_drew1 | refine below_set ?_ GE200.out | refine below_set ?_ GE212.out | refine below_set ?_ GE217.out) | exact HB.out)⟩⟩
                  ·rw [if_neg c53] at H
                   exact absurd H (by simp)
                 ·rw [if_neg c52] at H
                  exact absurd H (by simp)
                ·rw [if_neg c50] at H
                 exact absurd H (by simp)
               ·rw [if_neg c45] at H
                exact absurd H (by simp)
              ·rw [if_neg c44] at H
               exact absurd H (by simp)
            ·rw [if_neg c29] at H
             exact absurd H (by simp)
           ·rw [if_neg c28] at H
            exact absurd H (by simp)
          ·rw [if_neg c27] at H
           exact absurd H (by simp)
         ·rw [if_neg c26] at H
          exact absurd H (by simp)
        ·rw [if_neg c25] at H
         exact absurd H (by simp)
       ·rw [if_neg c24] at H
        exact absurd H (by simp)
      ·rw [if_neg c23] at H
       have c23b0 : decide (x41_2 < (t208.length : Int)) = false := decide_eq_false c23
       clear c23
       obtain rfl := Option.some.inj H
       have hnb69 := NB212_200.out; have hnc69 := NB200_212.out
       have hcz70_0 : wr.cell? ⟨gb212, 0, none⟩ = some (u213000) := (blk_cell BK212.out 0).trans rfl
       have hfz70_0 := blk_frozen BK212.out 0
       obtain ⟨Ao71, co71, eo71⟩ := Kd.R_slice HO_213000.out
       subst eo71
       have hcz72_0 : wr.cell? ⟨gb200, 0, none⟩ = some (.slice none 0 0) := (blk_cell BK200.out 0).trans rfl
       have hfz72_0 := blk_frozen BK200.out 0
       go_wp2
       refine bodyPost_ret (results_cell_row rfl _ _ gb200 45 #[.slice Ao71 x213000_2.length co71] (0, 0) _ rfl (by (with_reducible repeat (first | refine blk_drewN ?_ _ | refine blk_drew ?_ | refine blk_alloc ?_ _)); refine blk_put (cs := #[.slice none 0 0]) ?_ 0 _ rfl; (with_reducible repeat (first | refine blk_drewN ?_ _ | refine blk_drew ?_ | refine blk_alloc ?_ _)); exact BK200.out) Tryz.underlying45 rfl (by kernel_rfl)) rfl ?_
       exact ⟨_, by first | rfl | (simp [errW_none, errW_some] <;> rfl) | (simp [*, errW_none, errW_some] <;> rfl), by (with_reducible repeat (first | apply Kd.R_alloc | apply Kd.R_drewN | apply Kd.R_drew)); exact Kd.R_mono (Kd.R_far (p := ⟨gb200, 0, none⟩) (Kd.R_types HO_213000.out BK200.out (by decide)) (fun _ hk => hk.2) (.slice Ao71 x213000_2.length co71)) (fun _ hk => trivial), by repeat (first | (with_reducible first | exact HB.out | apply below_alloc | apply pw_below_drewN | apply below_drew1 | refine below_set ?_ GE200.out | refine below_set ?_ GE212.out) | exact HB.out)⟩

end Go.Proofs.YtmecniejpoopfaaGreatDoor.X

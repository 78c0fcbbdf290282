-- By gen.py (the session's own program over the kit's printer): functions of the program, each with its contract. Lean checks it.
import Derived.Test.YtmecniejpoopfaaDoorX0
import Derived.Test.YtmecniejpoopfaaDoorX7
namespace Go.Proofs.YtmecniejpoopfaaDoor.X
open Go.RowKit Go.Proofs.YtmecniejpoopfaaDoorW.PrintWords Go.Proofs.YtmecniejpoopfaaDoorW.PrintLast Go.Proofs.YtmecniejpoopfaaDoorW.PrintMore
attribute [local go_sem] max2_int min2_int max_two min_two max_three min_three max_four min_four   -- for this text's walks alone
set_option linter.unusedVariables false
set_option linter.unusedSimpArgs false

/-! ### impl_trieOf: function 32 -/
mutual
def impl_trieOf.l0 : Nat → List ByteArray → List ByteArray → List ByteArray → Int → Int → Option ((List (S50)))
 | 0, _, _, _, _, _ => none
 | k + 1, x0, x3, x15, x16, x17 => if x17 < x16 then (if 0 ≤ x17 then (if x17 < (x15.length : Int) then (impl_trieOf.l1 k x0 x3 (rdOf ByteArray.empty x15 x17) x15 x16 x17 ((rdOf ByteArray.empty x15 x17).size : Int) 0) else (none)) else (none)) else ((impl_set.f x3).bind fun t262 => (impl_trieOf.l2 k x0 t262 (t262.length : Int) 0 ([] : List (ByteArray × Int)) ([] : List (S50))))
def impl_trieOf.l1 : Nat → List ByteArray → List ByteArray → ByteArray → List ByteArray → Int → Int → Int → Int → Option ((List (S50)))
 | 0, _, _, _, _, _, _, _, _ => none
 | k + 1, x0, x3, x5, x15, x16, x17, x22, x23 => if x23 < x22 then (if 0 ≤ (wrap64 (x23 + 1)) then (if (wrap64 (x23 + 1)) ≤ (x5.size : Int) then (if x3.length < 8796093022208 then (impl_trieOf.l1 k x0 (x3 ++ [x5.extract 0 ((wrap64 (x23 + 1)) : Int).toNat]) x5 x15 x16 x17 x22 (wrap64 (x23 + 1))) else (none)) else (none)) else (none)) else (impl_trieOf.l0 k x0 x3 x15 x16 (wrap64 (x17 + 1)))
def impl_trieOf.l2 : Nat → List ByteArray → List ByteArray → Int → Int → List (ByteArray × Int) → List (S50) → Option ((List (S50)))
 | 0, _, _, _, _, _, _ => none
 | k + 1, x0, x39, x40, x41, x266000, x267000 => if x41 < x40 then (if 0 ≤ x41 then (if x41 < (x39.length : Int) then (if x266000.length < 9223372036854775807 then (if (rdOf ByteArray.empty x39 x41).size ≤ 9223372036854775807 then (if -9223372036854775808 ≤ x41 then (if x41 ≤ 9223372036854775807 then ((some ((rdOf ByteArray.empty x39 x41, x41) :: x266000 : List (ByteArray × Int))).bind fun y268 => ((slices_BinarySearch_string_string.f k x0 (rdOf ByteArray.empty x39 x41)).bind fun bt269 => (if (rdOf ByteArray.empty x39 x41).toList = ([] : List UInt8) then (if x267000.length < 5864062014805 then (impl_trieOf.l2 k x0 x39 x40 (wrap64 (x41 + 1)) y268 (x267000 ++ [(⟨(-1), (-1), bt269.2⟩ : S50)])) else (none)) else (if 0 ≤ (wrap64 (((rdOf ByteArray.empty x39 x41).size : Int) - 1)) then (if (wrap64 (((rdOf ByteArray.empty x39 x41).size : Int) - 1)) < ((rdOf ByteArray.empty x39 x41).size : Int) then (if (wrap64 (((rdOf ByteArray.empty x39 x41).size : Int) - 1)) ≤ ((rdOf ByteArray.empty x39 x41).size : Int) then (if ((rdOf ByteArray.empty x39 x41).extract 0 ((wrap64 (((rdOf ByteArray.empty x39 x41).size : Int) - 1)) : Int).toNat).size ≤ 9223372036854775807 then (if x267000.length < 5864062014805 then (impl_trieOf.l2 k x0 x39 x40 (wrap64 (x41 + 1)) y268 (x267000 ++ [(⟨((bt (rdOf ByteArray.empty x39 x41) (wrap64 (((rdOf ByteArray.empty x39 x41).size : Int) - 1))) - 97) % 256, G.mapGet y268 ((rdOf ByteArray.empty x39 x41).extract 0 ((wrap64 (((rdOf ByteArray.empty x39 x41).size : Int) - 1)) : Int).toNat), bt269.2⟩ : S50)])) else (none)) else (none)) else (none)) else (none)) else (none))))) else (none)) else (none)) else (none)) else (none)) else (none)) else (none)) else (some x267000)
end
def impl_trieOf.f (k : Nat) (l0 : List ByteArray) : Option ((List (S50))) := impl_trieOf.l0 k l0 (([(⟨#[]⟩ : ByteArray)] : List ByteArray)) l0 (l0.length : Int) 0
theorem impl_trieOf.mono_l : ∀ k, (∀ y0 y1 y2 y3 y4, LeO (impl_trieOf.l0 k y0 y1 y2 y3 y4) (impl_trieOf.l0 (k + 1) y0 y1 y2 y3 y4)) ∧ (∀ y0 y1 y2 y3 y4 y5 y6 y7, LeO (impl_trieOf.l1 k y0 y1 y2 y3 y4 y5 y6 y7) (impl_trieOf.l1 (k + 1) y0 y1 y2 y3 y4 y5 y6 y7)) ∧ (∀ y0 y1 y2 y3 y4 y5, LeO (impl_trieOf.l2 k y0 y1 y2 y3 y4 y5) (impl_trieOf.l2 (k + 1) y0 y1 y2 y3 y4 y5))
 | 0 => ⟨fun _ _ _ _ _ r h => by simp [impl_trieOf.l0] at h, fun _ _ _ _ _ _ _ _ r h => by simp [impl_trieOf.l1] at h, fun _ _ _ _ _ _ r h => by simp [impl_trieOf.l2] at h⟩
 | k + 1 => by
  obtain ⟨ih0, ih1, ih2⟩ := impl_trieOf.mono_l k
  refine ⟨?_, ?_, ?_⟩
  ·intro y0 y1 y2 y3 y4
   unfold impl_trieOf.l0
   repeat' first
   | (with_reducible exact ih0 _ _ _ _ _)
   | (with_reducible exact ih1 _ _ _ _ _ _ _ _)
   | (with_reducible exact ih2 _ _ _ _ _ _)
   | (with_reducible exact slices_BinarySearch_string_string.mono _ _ _)
   | (with_reducible exact LeO.refl _)
   | (with_reducible exact LeO.none _)
   | (with_reducible refine LeO.ite ?_ ?_)
   | (with_reducible refine LeO.bind ?_ (fun _ => ?_))
   | exact ih0 _ _ _ _ _
   | exact ih1 _ _ _ _ _ _ _ _
   | exact ih2 _ _ _ _ _ _
   | exact slices_BinarySearch_string_string.mono _ _ _
   | exact LeO.none _
   | refine LeO.ite ?_ ?_
   | refine LeO.bind ?_ (fun _ => ?_)
  ·intro y0 y1 y2 y3 y4 y5 y6 y7
   unfold impl_trieOf.l1
   repeat' first
   | (with_reducible exact ih0 _ _ _ _ _)
   | (with_reducible exact ih1 _ _ _ _ _ _ _ _)
   | (with_reducible exact ih2 _ _ _ _ _ _)
   | (with_reducible exact slices_BinarySearch_string_string.mono _ _ _)
   | (with_reducible exact LeO.refl _)
   | (with_reducible exact LeO.none _)
   | (with_reducible refine LeO.ite ?_ ?_)
   | (with_reducible refine LeO.bind ?_ (fun _ => ?_))
   | exact ih0 _ _ _ _ _
   | exact ih1 _ _ _ _ _ _ _ _
   | exact ih2 _ _ _ _ _ _
   | exact slices_BinarySearch_string_string.mono _ _ _
   | exact LeO.none _
   | refine LeO.ite ?_ ?_
   | refine LeO.bind ?_ (fun _ => ?_)
  ·intro y0 y1 y2 y3 y4 y5
   unfold impl_trieOf.l2
   repeat' first
   | (with_reducible exact ih0 _ _ _ _ _)
   | (with_reducible exact ih1 _ _ _ _ _ _ _ _)
   | (with_reducible exact ih2 _ _ _ _ _ _)
   | (with_reducible exact slices_BinarySearch_string_string.mono _ _ _)
   | (with_reducible exact LeO.refl _)
   | (with_reducible exact LeO.none _)
   | (with_reducible refine LeO.ite ?_ ?_)
   | (with_reducible refine LeO.bind ?_ (fun _ => ?_))
   | exact ih0 _ _ _ _ _
   | exact ih1 _ _ _ _ _ _ _ _
   | exact ih2 _ _ _ _ _ _
   | exact slices_BinarySearch_string_string.mono _ _ _
   | exact LeO.none _
   | refine LeO.ite ?_ ?_
   | refine LeO.bind ?_ (fun _ => ?_)
theorem impl_trieOf.mono : ∀ a0 k, LeO (impl_trieOf.f k a0) (impl_trieOf.f (k + 1) a0) := by
 intro a0 k
 obtain ⟨ih0, ih1, ih2⟩ := impl_trieOf.mono_l k
 unfold impl_trieOf.f
 repeat' first
   | (with_reducible exact ih0 _ _ _ _ _)
   | (with_reducible exact ih1 _ _ _ _ _ _ _ _)
   | (with_reducible exact ih2 _ _ _ _ _ _)
   | (with_reducible exact slices_BinarySearch_string_string.mono _ _ _)
   | (with_reducible exact LeO.refl _)
   | (with_reducible exact LeO.none _)
   | (with_reducible refine LeO.ite ?_ ?_)
   | (with_reducible refine LeO.bind ?_ (fun _ => ?_))
   | exact ih0 _ _ _ _ _
   | exact ih1 _ _ _ _ _ _ _ _
   | exact ih2 _ _ _ _ _ _
   | exact slices_BinarySearch_string_string.mono _ _ _
   | exact LeO.none _
   | refine LeO.ite ?_ ?_
   | refine LeO.bind ?_ (fun _ => ?_)
def impl_trieOf.T20 : Bool × List (List Nat × List Nat) := (true, [([], []), ([], []), ([1], [1]), ([2], [2]), ([0, 3], [0, 3]), ([4], [4]), ([5], [5]), ([], []), ([], []), ([], []), ([9], [9]), ([10], [10]), ([8, 11], [8, 11]), ([7, 12], [7, 12]), ([0, 1, 2, 3, 4, 5, 6], []), ([14, 6, 0, 1, 2, 3, 4, 5, 6], [6, 14]), ([0, 1, 2, 3, 4, 5, 6, 7, 8, 9, 10, 11, 12, 13, 14, 15], []), ([16, 13, 15, 0, 1, 2, 3, 4, 5, 6, 7, 8, 9, 10, 11, 12, 13, 14, 15], [13, 16])])
def impl_trieOf.B20 : List Nat := [0, 0, 2, 6, 15, 31, 63, 0, 0, 0, 512, 1536, 3840, 8064, 127, 16511, 65535, 131071]
theorem impl_trieOf.tab20 : rtab .any (opsOf Tryd.f32 20) = impl_trieOf.T20 := by kernel_rfl
theorem impl_trieOf.bits20 : waitsOk impl_trieOf.T20.2 impl_trieOf.B20 = true := by kernel_rfl
set_option maxHeartbeats 8000000 in
set_option maxRecDepth 100000 in
theorem impl_trieOf.calls (k : Nat) (A0 : Option Addr) (c0 : Nat) (l0 : List ByteArray) (r : List (S50)) (w : World) (hr0 : Kd.C Kd.string w A0 l0.length l0) (hc0 : l0.length ≤ c0) (h : impl_trieOf.f k l0 = some r) :
  Calls Tryd.prog 32 #[.slice A0 l0.length c0] w fun e w' => ∃ v0_ : Value, e = .returned (.agg #[v0_]) ∧ Kd.R k50 50 w' w.heap.size (fun _ => True) v0_ r ∧ Below w.heap.size w w' := by
 have hu38 := Tryd.underlying38; have hu50 := Tryd.underlying50; have HR0 := Aside0.mk hr0; have HC0 := Aside0.mk hc0; clear hr0 hc0; have HB := Aside0.mk (Below.refl w.heap.size w)
 have H : (impl_trieOf.l0 k l0 (([(⟨#[]⟩ : ByteArray)] : List ByteArray)) l0 (l0.length : Int) 0) = some r := h
 clear h
 obtain ⟨y255, hy255⟩ : ∃ y_ : List ByteArray, y_ = (([(⟨#[]⟩ : ByteArray)] : List ByteArray)) := ⟨_, rfl⟩
 replace H : (impl_trieOf.l0 k l0 y255 l0 (l0.length : Int) 0) = some r := by first | (rw [hy255]; with_reducible exact H) | (have H2_ := (Option.bind_some _ _).symm.trans H; rw [hy255]; with_reducible exact H2_) | (have H2_ := (Option.bind_some _ _).symm.trans H; with_reducible exact H2_) | with_reducible exact H | (rw [hy255]; exact H) | exact H
 have Ny255 := Aside0.mk hy255; clear hy255
 have H' := Aside0.mk H
 clear H
 go_enter Tryd.func32, Tryd.ntmps32
 go_wp2_with (first | ((with_reducible refine gate_dst (N := 2) rfl ?_); refine box_event ?hg (N := 2) ?hd (cs := #[.slice none 0 0]) (t := 38) ?hr ?_; (case hd => rfl); (case hg => rfl); (case hr => exact ax12); intro gb254 hg w2 hbox hb; have n0_ := Aside0.mk (below_step ax13 hb); have n1_ := Aside0.mk (hbox); have n2_ := Aside0.mk ((ax14 : w.heap.size ≤ gb254)); have n3_ := Aside0.mk ((ax14 : w.heap.size ≤ gb254)); clear HB; have HB := n0_; have BK254 := n1_; have GW254 := n2_; have GE254 := n3_; clear n0_ n1_ n2_ n3_; clear hb hbox hg) | ((with_reducible refine gate_dst (N := 14) rfl ?_); refine Kd.R_lit Kd.string _ 9 ?hg (N := 14) ?hd (xs := ([(⟨#[]⟩ : ByteArray)] : List ByteArray)) (inner := [.string (⟨#[]⟩ : ByteArray)]) (ok := fun _ => True) (okp := fun _ => True) ?hr ?hp (fun _ hk => hk) trivial (Below.refl _ _) (Nat.le_refl _) (by simp) ?_; (case hd => rfl); (case hg => rfl); (case hr => exact ax12); (case hp => exact ax53); intro v256 w3 ho4 hb hg_ hnew_; clear hg_ hnew_; (first | rw [← Ny255.out] at ho4 | (simp only [Int.reduceToNat] at ho4; rw [← Ny255.out] at ho4)); have n0_ := Aside0.mk (Kd.R_lower ho4 (below_size ax91)); have n1_ := Aside0.mk (blk_below (g := gb254) (o := .cells #[.slice none 0 0] 38 (0, 0)) ax92 hb); have n2_ := Aside0.mk (below_step ax91 hb); clear BK254; clear HB; have HO257 := n0_; have BK254 := n1_; have HB := n2_; clear n0_ n1_ n2_; clear hb ho4))
 go_loopg [3, 17] k (fun kq v3 v17 w' => ∃ (x3_1 : List ByteArray) (x17_1 : Int), v17 = .int .i64 x17_1 ∧ Aside0 (impl_trieOf.l0 kq l0 x3_1 l0 (l0.length : Int) x17_1 = some r) ∧ Aside0 (kq ≤ k) ∧ Aside0 (Kd.R Kd.string 9 w' w.heap.size (fun _ => True) v3 x3_1) ∧ Aside0 (w'.heap[gb254]? = some (.cells #[(.slice none 0 0)] 38 (0, 0))) ∧ Aside0 (Below w.heap.size w w'))
 case atStart => exact ⟨(y255), (0), ax15, H', ⟨Nat.le_refl _⟩, ⟨by (with_reducible repeat (first | apply Kd.R_alloc | apply Kd.R_drewN | apply Kd.R_drew)); exact HO257.out⟩, ⟨by (with_reducible repeat (first | refine blk_drewN ?_ _ | refine blk_drew ?_ | refine blk_alloc ?_ _)); exact BK254.out⟩, ⟨by repeat (first | (with_reducible first | exact HB.out | apply below_alloc | apply pw_below_drewN | apply below_drew1 | refine below_set ?_ GE254.out) | exact HB.out)⟩⟩
 case round =>
  clear H'
  try clear p2
  try clear c3
  obtain ⟨x3_1, x17_1, rfl, HA, HK1, HO_3, BK254, HB⟩ := hrel
  cases gk with
  | zero => exact absurd HA.out (by simp [impl_trieOf.l0])
  | succ k1 =>
   have H := HA.out; clear HA
   simp only [impl_trieOf.l0] at H
   by_cases c5 : x17_1 < (l0.length : Int)
   ·rw [if_pos c5] at H
    have c5b0 : decide (x17_1 < (l0.length : Int)) = true := decide_eq_true c5
    clear c5
    by_cases c6 : 0 ≤ x17_1
    ·rw [if_pos c6] at H
     have c6b0 : decide (0 ≤ x17_1) = true := decide_eq_true c6
     clear c6
     by_cases c7 : x17_1 < (l0.length : Int)
     ·rw [if_pos c7] at H
      have c7b0 : decide (x17_1 < (l0.length : Int)) = true := decide_eq_true c7
      clear c7
      have H' := Aside0.mk H
      clear H
      have p258 : 0 ≤ (x17_1 : Int) := of_decide_eq_true ax16
      have q258 : x17_1 < (l0.length : Int) := of_decide_eq_true ax16
      obtain ⟨ad258, e258, hx258_0⟩ := Kd.at_string HR0.out x17_1 p258 q258
      cases e258; replace hx258_0 := (HB.out.cell (World.block_lt_of_cell? w _ hx258_0)).trans hx258_0; replace p258 := eq_true p258; replace q258 := eq_true q258
      go_wp2
      go_loopg [3, 23] k1 (fun kq v3 v23 w' => ∃ (x3_2 : List ByteArray) (x23_2 : Int), v23 = .int .i64 x23_2 ∧ Aside0 (impl_trieOf.l1 kq l0 x3_2 (rdOf ByteArray.empty l0 x17_1) l0 (l0.length : Int) x17_1 ((rdOf ByteArray.empty l0 x17_1).size : Int) x23_2 = some r) ∧ Aside0 (kq ≤ k1) ∧ Aside0 (Kd.R Kd.string 9 w' w.heap.size (fun _ => True) v3 x3_2) ∧ Aside0 (w'.heap[gb254]? = some (.cells #[(.slice none 0 0)] 38 (0, 0))) ∧ Aside0 (Below w.heap.size w w'))
      case atStart => exact ⟨(x3_1), (0), ax15, H', ⟨Nat.le_refl _⟩, ⟨by (with_reducible repeat (first | apply Kd.R_alloc | apply Kd.R_drewN | apply Kd.R_drew)); exact HO_3.out⟩, ⟨by (with_reducible repeat (first | refine blk_drewN ?_ _ | refine blk_drew ?_ | refine blk_alloc ?_ _)); exact BK254.out⟩, ⟨by repeat (first | (with_reducible first | exact HB.out | apply below_alloc | apply pw_below_drewN | apply below_drew1 | refine below_set ?_ GE254.out) | exact HB.out)⟩⟩
      case round =>
       clear H'
       try clear p2
       try clear q2
       try clear hx2
       try clear c3
       try clear c5
       try clear c5b0
       try clear c6
       try clear c6b0
       try clear c7
       try clear c7b0
       try clear hx258_0
       try clear p2
       try clear p258
       try clear q258
       obtain ⟨x3_2, x23_2, rfl, HA, HK2, HO_3, BK254, HB⟩ := hrel
       cases gk with
       | zero => exact absurd HA.out (by simp [impl_trieOf.l1])
       | succ k2 =>
        have H := HA.out; clear HA
        simp only [impl_trieOf.l1] at H
        by_cases c8 : x23_2 < ((rdOf ByteArray.empty l0 x17_1).size : Int)
        ·rw [if_pos c8] at H
         have c8b0 : decide (x23_2 < ((rdOf ByteArray.empty l0 x17_1).size : Int)) = true := decide_eq_true c8
         clear c8
         obtain ⟨ji9, hji9⟩ : ∃ j_ : Int, (wrap64 (x23_2 + 1)) = j_ := ⟨_, rfl⟩
         replace H : (if 0 ≤ (ji9) then (if (ji9) ≤ ((rdOf ByteArray.empty l0 x17_1).size : Int) then (if x3_2.length < 8796093022208 then (impl_trieOf.l1 k2 l0 (x3_2 ++ [(rdOf ByteArray.empty l0 x17_1).extract 0 ((ji9) : Int).toNat]) (rdOf ByteArray.empty l0 x17_1) l0 (l0.length : Int) x17_1 ((rdOf ByteArray.empty l0 x17_1).size : Int) ji9) else (none)) else (none)) else (none)) = some r := by first | (rw [hji9] at H; exact H) | (simp only [hji9] at H ⊢; exact H)
         have hji9w : (IntKind.i64.wrap (x23_2 + 1)) = ji9 := (i64_w _).trans hji9
         by_cases c10 : 0 ≤ (ji9)
         ·rw [if_pos c10] at H
          have c10b0 := eq_true c10
          have c10b1 : decide (0 ≤ (ji9)) = true := decide_eq_true c10
          clear c10
          by_cases c11 : (ji9) ≤ ((rdOf ByteArray.empty l0 x17_1).size : Int)
          ·rw [if_pos c11] at H
           have c11b0 := eq_true c11
           have c11b1 : decide ((ji9) ≤ ((rdOf ByteArray.empty l0 x17_1).size : Int)) = true := decide_eq_true c11
           clear c11
           obtain ⟨js12, hjs12⟩ : ∃ j_ : ByteArray, ((rdOf ByteArray.empty l0 x17_1).extract 0 ((ji9) : Int).toNat) = j_ := ⟨_, rfl⟩
           replace H : (if x3_2.length < 8796093022208 then (impl_trieOf.l1 k2 l0 (x3_2 ++ [js12]) (rdOf ByteArray.empty l0 x17_1) l0 (l0.length : Int) x17_1 ((rdOf ByteArray.empty l0 x17_1).size : Int) ji9) else (none)) = some r := by first | (rw [hjs12] at H; exact H) | (simp only [hjs12] at H ⊢; exact H)
           by_cases c13 : x3_2.length < 8796093022208
           ·rw [if_pos c13] at H
            have LMc13 := Aside0.mk c13; clear c13
            obtain ⟨y259, hy259⟩ : ∃ y_ : List ByteArray, y_ = (x3_2 ++ [js12]) := ⟨_, rfl⟩
            replace H : (impl_trieOf.l1 k2 l0 y259 (rdOf ByteArray.empty l0 x17_1) l0 (l0.length : Int) x17_1 ((rdOf ByteArray.empty l0 x17_1).size : Int) ji9) = some r := by first | (rw [hy259]; with_reducible exact H) | (have H2_ := (Option.bind_some _ _).symm.trans H; rw [hy259]; with_reducible exact H2_) | (have H2_ := (Option.bind_some _ _).symm.trans H; with_reducible exact H2_) | with_reducible exact H | (rw [hy259]; exact H) | exact H
            have Ny259 := Aside0.mk hy259; clear hy259
            have H' := Aside0.mk H
            clear H
            go_wp2_with (first | ((with_reducible refine gate_builtin (b := .append) (xs := #[.tmp 26, .tmp 31]) rfl ?_); at_builtin; refine Kd.R_append Kd.string (w0 := w) w.heap.size rfl (.tmp 26) (.tmp 31) 32 9 (.string ⟨#[]⟩) 16 rfl Tryd.underlying32 info9 rfl (by decide) (by omega) u3 x3_2 js12 [.string js12] (fun _ => True) (fun _ => False) rfl rfl ?aP (fun _ hk => hk.elim) ?aF ?aO ?aB ?aS ?aL ?_; (case aP => exact rfl); (case aB => exact ax91); (case aF => exact ax19); (case aO => exact ax93); (case aS => exact (below_size ax91)); (case aL => have := LMc13.out; omega); intro v260 w14 ho hb hg hat; rw [← Ny259.out] at ho; have n0_ := Aside0.mk (blk_grown (g := gb254) (o := .cells #[.slice none 0 0] 38 (0, 0)) ax92 hg (Kd.R_ne HO_3.out BK254.out (by decide))); have n1_ := Aside0.mk (hb); have n2_ := Aside0.mk (ho); clear BK254; clear HB; clear HO_3; have BK254 := n0_; have HB := n1_; have HO261 := n2_; clear n0_ n1_ n2_; clear ho hb hg hat))
            go_roundg k2
            case measure => have := HK1.out; have := HK2.out; omega
            case rel => exact ⟨(y259), (ji9), (by first | rfl | (simp; done) | (simp only [← hji9] <;> (first | rfl | simp)) | (simp [*]; done)), H', ⟨by have := HK1.out; have := HK2.out; omega⟩, ⟨by (with_reducible repeat (first | apply Kd.R_alloc | apply Kd.R_drewN | apply Kd.R_drew)); exact HO261.out⟩, ⟨by (with_reducible repeat (first | refine blk_drewN ?_ _ | refine blk_drew ?_ | refine blk_alloc ?_ _)); exact BK254.out⟩, ⟨by repeat (first | (with_reducible first | exact HB.out | apply below_alloc | apply pw_below_drewN | apply below_drew1 | refine below_set ?_ GE254.out) | exact HB.out)⟩⟩
           ·rw [if_neg c13] at H
            exact absurd H (by simp)
          ·exact ax3
         ·rw [if_neg c10] at H
          exact absurd H (by simp)
        ·rw [if_neg c8] at H
         have c8b0 : decide (x23_2 < ((rdOf ByteArray.empty l0 x17_1).size : Int)) = false := decide_eq_false c8
         clear c8
         have H' := Aside0.mk H
         clear H
         go_wp2
         go_roundg k2
         case measure => have := HK1.out; have := HK2.out; omega
         case rel => exact ⟨(x3_2), (wrap64 (x17_1 + 1)), ax15, H', ⟨by have := HK1.out; have := HK2.out; omega⟩, ⟨by (with_reducible repeat (first | apply Kd.R_alloc | apply Kd.R_drewN | apply Kd.R_drew)); exact HO_3.out⟩, ⟨by (with_reducible repeat (first | refine blk_drewN ?_ _ | refine blk_drew ?_ | refine blk_alloc ?_ _)); exact BK254.out⟩, ⟨by repeat (first | (with_reducible first | exact HB.out | apply below_alloc | apply pw_below_drewN | apply below_drew1 | refine below_set ?_ GE254.out) | exact HB.out)⟩⟩
     ·exact ax5
    ·exact ax1
   ·rw [if_neg c5] at H
    have c5b0 : decide (x17_1 < (l0.length : Int)) = false := decide_eq_false c5
    clear c5; replace H := Option.bind_eq_some_iff.mp H
    obtain ⟨t262, A150, H⟩ := H
    replace H : (impl_trieOf.l2 k1 l0 t262 (t262.length : Int) 0 ([] : List (ByteArray × Int)) ([] : List (S50))) = some r := H
    have A15 := Aside0.mk A150; clear A150
    have H' := Aside0.mk H
    clear H
    obtain ⟨Ao16, co16, eo16⟩ := Kd.R_slice HO_3.out
    subst eo16
    go_wp2_with (first | ((with_reducible refine gate_callee (f := 31) rfl ?_); refine goesL_ (some 36) rfl rfl Tryd.func31 (by kernel_rfl) rfl #[.slice Ao16 x3_1.length co16] rfl ax24 ?_; (with_reducible refine (impl_set.calls _ _ x3_1 t262 _ ?side1 ?side2 A15.out).mono ?_); (case side1 => repeat (first | exact (Kd.R_reads' HO_3.out).2.2 | (with_reducible refine Kd.C_alloc ?_ _) | (with_reducible refine Kd.C_drewN ?_ _) | (with_reducible refine Kd.C_drew ?_))); (case side2 => exact (Kd.R_reads' HO_3.out).2.1); rintro e w17 ⟨v263, rfl, ho0, hb⟩; refine ⟨_, rfl, ?_⟩; have n0_ := Aside0.mk (Kd.R_elder' ax93 (Kd.R_base ho0) hb); have n1_ := Aside0.mk (Kd.R_lower (Kd.R_new' ho0 (Kd.R_lt ax93)) (below_size ax91)); have n2_ := Aside0.mk (blk_below (g := gb254) (o := .cells #[.slice none 0 0] 38 (0, 0)) ax92 hb); have n3_ := Aside0.mk (below_step ax91 hb); clear HO_3; clear BK254; clear HB; have HO_3 := n0_; have HO264 := n1_; have BK254 := n2_; have HB := n3_; clear n0_ n1_ n2_ n3_; (try clear hb); (try clear hb2); (try clear hk); (try clear hi); (try clear ho0)) | ((with_reducible refine gate_dst (N := 38) rfl ?_); refine G.mnew_event ?hg (N := 38) ?hd 9 3 ?hr ?_; (case hd => rfl); (case hg => rfl); (case hr => first | rfl | (go_simp; done) | (go_simp; rfl) | (simp [execOp, run_makeMap]; done)); intro gm265 hg w18 hmap hb; have n0_ := Aside0.mk (Kd.R_below ax93 hb); have n1_ := Aside0.mk (Kd.R_below ax94 hb); have n2_ := Aside0.mk (blk_below (g := gb254) (o := .cells #[.slice none 0 0] 38 (0, 0)) ax92 hb); have n3_ := Aside0.mk (below_step ax91 hb); have n4_ := Aside0.mk (hmap); have n5_ := Aside0.mk ((ax95 : w.heap.size ≤ gm265)); clear HO_3; clear HO264; clear BK254; clear HB; have HO_3 := n0_; have HO264 := n1_; have BK254 := n2_; have HB := n3_; have MP265 := n4_; have GM265 := n5_; clear n0_ n1_ n2_ n3_ n4_ n5_; clear hb hmap hg) | ((with_reducible refine gate_dst (N := 7) rfl ?_); refine box_event ?hg (N := 7) ?hd (cs := #[.slice none 0 0]) (t := 38) ?hr ?_; (case hd => rfl); (case hg => rfl); (case hr => exact ax12); intro gb266 hg w19 hbox hb; have n0_ := Aside0.mk (Kd.R_below ax93 hb); have n1_ := Aside0.mk (Kd.R_below ax94 hb); have n2_ := Aside0.mk (blk_below (g := gb254) (o := .cells #[.slice none 0 0] 38 (0, 0)) ax92 hb); have n3_ := Aside0.mk (G.MapIs.below (show G.MapIs Tryd.prog 9 3 _ gm265 ([] : List (ByteArray × Int)) from by repeat (first | (with_reducible first | exact MP265.out | apply G.MapIs.alloc | apply G.MapIs.drewN | apply G.MapIs.drew) | exact MP265.out)) hb); have n4_ := Aside0.mk (below_step ax91 hb); have n5_ := Aside0.mk (hbox); have n6_ := Aside0.mk ((ax95 : w.heap.size ≤ gb266)); have n7_ := Aside0.mk ((ax95 : w.heap.size ≤ gb266)); have n8_ := Aside0.mk ((ax96 : gb254 ≠ gb266)); have n9_ := Aside0.mk ((ax97 : gb266 ≠ gb254)); clear HO_3; clear HO264; clear BK254; clear MP265; clear HB; have HO_3 := n0_; have HO264 := n1_; have BK254 := n2_; have MP265 := n3_; have HB := n4_; have BK266 := n5_; have GW266 := n6_; have GE266 := n7_; have NB254_266 := n8_; have NB266_254 := n9_; clear n0_ n1_ n2_ n3_ n4_ n5_ n6_ n7_ n8_ n9_; clear hb hbox hg; have hnb20 := NB266_254.out; have hnc20 := NB254_266.out; have hcz21_0 : w19.cell? ⟨gb266, 0, none⟩ = some (.slice none 0 0) := (blk_cell BK266.out 0).trans rfl; have hfz21_0 := blk_frozen BK266.out 0; obtain ⟨Ao22, co22, eo22⟩ := Kd.R_slice HO264.out; subst eo22))
    go_loopg [41] k1 (fun kq v41 w' => ∃ (x41_2 : Int) (x266000_2 : List (ByteArray × Int)) (x267000_2 : List (S50)) (u267000 : Value), v41 = .int .i64 x41_2 ∧ Aside0 (impl_trieOf.l2 kq l0 t262 (t262.length : Int) x41_2 x266000_2 x267000_2 = some r) ∧ Aside0 (kq ≤ k1) ∧ Aside0 (Kd.R Kd.string 9 w' w.heap.size (fun _ => True) (.slice Ao22 t262.length co22) t262) ∧ Aside0 (Kd.R k50 50 w' w.heap.size (fun _ => True) u267000 x267000_2) ∧ Aside0 (w'.heap[gb254]? = some (.cells #[(.slice none 0 0)] 38 (0, 0))) ∧ Aside0 (w'.heap[gb266]? = some (.cells #[u267000] 38 (0, 0))) ∧ Aside0 (G.MapIs Tryd.prog 9 3 w' gm265 x266000_2) ∧ Aside0 (Below w.heap.size w w'))
    case atStart => exact ⟨(0), (([] : List (ByteArray × Int))), (([] : List (S50))), (.slice none 0 0), ax15, H', ⟨Nat.le_refl _⟩, ⟨by (with_reducible repeat (first | apply Kd.R_alloc | apply Kd.R_drewN | apply Kd.R_drew)); exact Kd.R_mono (Kd.R_far (p := ⟨gb266, 0, none⟩) (Kd.R_types HO264.out BK266.out (by decide)) (fun _ hk => hk.2) (.slice none 0 0)) (fun _ hk => trivial)⟩, ⟨by first | exact Kd.R_nil _ _ _ _ _ | exact Kd.N_nil _ _ _ _ _ | exact Kd.V_nil _ _ _ _ _ | exact Kd.Q_nil _ _ _ _ _ | exact Kd.S_nil _ _ _ _ _⟩, ⟨by (with_reducible repeat (first | refine blk_drewN ?_ _ | refine blk_drew ?_ | refine blk_alloc ?_ _)); refine blk_far ?_ NB254_266.out _; (with_reducible repeat (first | refine blk_drewN ?_ _ | refine blk_drew ?_ | refine blk_alloc ?_ _)); exact BK254.out⟩, ⟨by (with_reducible repeat (first | refine blk_drewN ?_ _ | refine blk_drew ?_ | refine blk_alloc ?_ _)); refine blk_put (cs := #[.slice none 0 0]) ?_ 0 _ rfl; (with_reducible repeat (first | refine blk_drewN ?_ _ | refine blk_drew ?_ | refine blk_alloc ?_ _)); exact BK266.out⟩, ⟨show G.MapIs Tryd.prog 9 3 _ gm265 ([] : List (ByteArray × Int)) from by repeat (first | (with_reducible first | exact MP265.out | apply G.MapIs.alloc | apply G.MapIs.drewN | apply G.MapIs.drew | refine G.MapIs.set ?_ (G.MapIs.ne_blk MP265.out BK266.out) _ _) | exact MP265.out)⟩, ⟨by repeat (first | (with_reducible first | exact HB.out | apply below_alloc | apply pw_below_drewN | apply below_drew1 | refine below_set ?_ GE254.out | refine below_set ?_ GE266.out) | exact HB.out)⟩⟩
    case round =>
     clear H'
     try clear c1
     try clear c2
     try clear p2
     try clear q2
     try clear hx2
     try clear c3
     try clear c5
     try clear c5b0
     try clear c6
     try clear c6b0
     try clear p6
     try clear c7
     try clear c7b0
     try clear c8
     try clear c8b0
     try clear c10
     try clear c10b0
     try clear c10b1
     try clear c11
     try clear c11b0
     try clear c11b1
     try clear c13
     try clear c20
     try clear hcz21_0
     try clear hfz21_0
     try clear hx258_0
     try clear p2
     try clear p258
     try clear q2
     try clear q258
     obtain ⟨x41_2, x266000_2, x267000_2, u267000, rfl, HA, HK2, HO_39, HO_267000, BK254, BK266, MP265, HB⟩ := hrel
     cases gk with
     | zero => exact absurd HA.out (by simp [impl_trieOf.l2])
     | succ k2 =>
      have H := HA.out; clear HA
      simp only [impl_trieOf.l2] at H
      by_cases c23 : x41_2 < (t262.length : Int)
      ·rw [if_pos c23] at H
       have c23b0 : decide (x41_2 < (t262.length : Int)) = true := decide_eq_true c23
       clear c23
       by_cases c24 : 0 ≤ x41_2
       ·rw [if_pos c24] at H
        have c24b0 : decide (0 ≤ x41_2) = true := decide_eq_true c24
        clear c24
        by_cases c25 : x41_2 < (t262.length : Int)
        ·rw [if_pos c25] at H
         have c25b0 : decide (x41_2 < (t262.length : Int)) = true := decide_eq_true c25
         clear c25
         by_cases c26 : x266000_2.length < 9223372036854775807
         ·rw [if_pos c26] at H
          have LMc26 := Aside0.mk c26; clear c26
          by_cases c27 : (rdOf ByteArray.empty t262 x41_2).size ≤ 9223372036854775807
          ·rw [if_pos c27] at H
           have LMc27 := Aside0.mk c27; clear c27
           by_cases c28 : -9223372036854775808 ≤ x41_2
           ·rw [if_pos c28] at H
            have LMc28 := Aside0.mk c28; clear c28
            by_cases c29 : x41_2 ≤ 9223372036854775807
            ·rw [if_pos c29] at H
             have LMc29 := Aside0.mk c29; clear c29
             obtain ⟨y268, hy268⟩ : ∃ y_ : List (ByteArray × Int), y_ = ((rdOf ByteArray.empty t262 x41_2, x41_2) :: x266000_2) := ⟨_, rfl⟩
             replace H : ((slices_BinarySearch_string_string.f k2 l0 (rdOf ByteArray.empty t262 x41_2)).bind fun bt269 => (if (rdOf ByteArray.empty t262 x41_2).toList = ([] : List UInt8) then (if x267000_2.length < 5864062014805 then (impl_trieOf.l2 k2 l0 t262 (t262.length : Int) (wrap64 (x41_2 + 1)) y268 (x267000_2 ++ [(⟨(-1), (-1), bt269.2⟩ : S50)])) else (none)) else (if 0 ≤ (wrap64 (((rdOf ByteArray.empty t262 x41_2).size : Int) - 1)) then (if (wrap64 (((rdOf ByteArray.empty t262 x41_2).size : Int) - 1)) < ((rdOf ByteArray.empty t262 x41_2).size : Int) then (if (wrap64 (((rdOf ByteArray.empty t262 x41_2).size : Int) - 1)) ≤ ((rdOf ByteArray.empty t262 x41_2).size : Int) then (if ((rdOf ByteArray.empty t262 x41_2).extract 0 ((wrap64 (((rdOf ByteArray.empty t262 x41_2).size : Int) - 1)) : Int).toNat).size ≤ 9223372036854775807 then (if x267000_2.length < 5864062014805 then (impl_trieOf.l2 k2 l0 t262 (t262.length : Int) (wrap64 (x41_2 + 1)) y268 (x267000_2 ++ [(⟨((bt (rdOf ByteArray.empty t262 x41_2) (wrap64 (((rdOf ByteArray.empty t262 x41_2).size : Int) - 1))) - 97) % 256, G.mapGet y268 ((rdOf ByteArray.empty t262 x41_2).extract 0 ((wrap64 (((rdOf ByteArray.empty t262 x41_2).size : Int) - 1)) : Int).toNat), bt269.2⟩ : S50)])) else (none)) else (none)) else (none)) else (none)) else (none)))) = some r := by first | (rw [hy268]; with_reducible exact H) | (have H2_ := (Option.bind_some _ _).symm.trans H; rw [hy268]; with_reducible exact H2_) | (have H2_ := (Option.bind_some _ _).symm.trans H; with_reducible exact H2_) | with_reducible exact H | (rw [hy268]; exact H) | exact H
             have Ny268 := Aside0.mk hy268; clear hy268; replace H := Option.bind_eq_some_iff.mp H
             obtain ⟨⟨t269, t270⟩, A300, H⟩ := H
             replace H : (if (rdOf ByteArray.empty t262 x41_2).toList = ([] : List UInt8) then (if x267000_2.length < 5864062014805 then (impl_trieOf.l2 k2 l0 t262 (t262.length : Int) (wrap64 (x41_2 + 1)) y268 (x267000_2 ++ [(⟨(-1), (-1), t270⟩ : S50)])) else (none)) else (if 0 ≤ (wrap64 (((rdOf ByteArray.empty t262 x41_2).size : Int) - 1)) then (if (wrap64 (((rdOf ByteArray.empty t262 x41_2).size : Int) - 1)) < ((rdOf ByteArray.empty t262 x41_2).size : Int) then (if (wrap64 (((rdOf ByteArray.empty t262 x41_2).size : Int) - 1)) ≤ ((rdOf ByteArray.empty t262 x41_2).size : Int) then (if ((rdOf ByteArray.empty t262 x41_2).extract 0 ((wrap64 (((rdOf ByteArray.empty t262 x41_2).size : Int) - 1)) : Int).toNat).size ≤ 9223372036854775807 then (if x267000_2.length < 5864062014805 then (impl_trieOf.l2 k2 l0 t262 (t262.length : Int) (wrap64 (x41_2 + 1)) y268 (x267000_2 ++ [(⟨((bt (rdOf ByteArray.empty t262 x41_2) (wrap64 (((rdOf ByteArray.empty t262 x41_2).size : Int) - 1))) - 97) % 256, G.mapGet y268 ((rdOf ByteArray.empty t262 x41_2).extract 0 ((wrap64 (((rdOf ByteArray.empty t262 x41_2).size : Int) - 1)) : Int).toNat), t270⟩ : S50)])) else (none)) else (none)) else (none)) else (none)) else (none))) = some r := H
             have A30 := Aside0.mk A300; clear A300
             by_cases c31 : (rdOf ByteArray.empty t262 x41_2).toList = ([] : List UInt8)
             ·rw [if_pos c31] at H
              have c31b0 : ((rdOf ByteArray.empty t262 x41_2).toList == ([] : List UInt8)) = true := beq_iff_eq.mpr c31
              have c31b1 : ((rdOf ByteArray.empty t262 x41_2).toList != ([] : List UInt8)) = false := bne_eq_false_iff_eq.mpr c31
              clear c31
              by_cases c32 : x267000_2.length < 5864062014805
              ·rw [if_pos c32] at H
               have LMc32 := Aside0.mk c32; clear c32
               obtain ⟨y272, hy272⟩ : ∃ y_ : List (S50), y_ = (x267000_2 ++ [(⟨(-1), (-1), t270⟩ : S50)]) := ⟨_, rfl⟩
               replace H : (impl_trieOf.l2 k2 l0 t262 (t262.length : Int) (wrap64 (x41_2 + 1)) y268 y272) = some r := by first | (rw [hy272]; with_reducible exact H) | (have H2_ := (Option.bind_some _ _).symm.trans H; rw [hy272]; with_reducible exact H2_) | (have H2_ := (Option.bind_some _ _).symm.trans H; with_reducible exact H2_) | with_reducible exact H | (rw [hy272]; exact H) | exact H
               have Ny272 := Aside0.mk hy272; clear hy272
               have H' := Aside0.mk H
               clear H
               have p267 : 0 ≤ (x41_2 : Int) := of_decide_eq_true ax16
               have q267 : x41_2 < (t262.length : Int) := of_decide_eq_true ax16
               obtain ⟨ad267, e267, hx267_0⟩ := Kd.at_string (Kd.R_reads' HO_39.out).2.2 x41_2 p267 q267
               cases e267; replace p267 := eq_true p267; replace q267 := eq_true q267
               go_wp2_with (first | ((with_reducible refine G.gate_mput (t := 64) (m := .tmp 46) (x := .tmp 47) (v := .tmp 48) rfl ?_); refine G.mput_event ?hg (t := 64) (m := .tmp 46) (x := .tmp 47) (v := .tmp 48) ?ho ?hd (b := gm265) (s := (rdOf ByteArray.empty t262 x41_2)) (i := x41_2) ?hm ?hx ?hv (K := 9) (E := 3) (c := x266000_2) ?ht ?hK ?hE ?hw ?hs ?hl ?hmap ?_; (case hg => rfl); (case ho => rfl); (case hd => rfl); (case hm => rfl); (case hx => rfl); (case hv => rfl); (case ht => exact Tryd.underlying64); (case hK => exact Tryd.underlying9); (case hE => exact Tryd.underlying3); (case hw => exact ax98); (case hs => exact LMc27.out); (case hl => exact LMc26.out); (case hmap => exact ax99); intro w33 hmap hg; rw [← Ny268.out] at hmap; have n0_ := Aside0.mk (Kd.R_grown1 ax100 rfl hg (G.MapIs.ne_row MP265.out HO_39.out)); have n1_ := Aside0.mk (Kd.R_grown1 ax101 rfl hg (G.MapIs.ne_row MP265.out HO_267000.out)); have n2_ := Aside0.mk (blk_grown (g := gb254) (o := .cells #[.slice none 0 0] 38 (0, 0)) ax92 hg (fun e_ => G.MapIs.ne_blk MP265.out BK254.out ax102)); have n3_ := Aside0.mk (blk_grown (g := gb266) (o := .cells #[u267000] 38 (0, 0)) ax103 hg (fun e_ => G.MapIs.ne_blk MP265.out BK266.out ax102)); have n4_ := Aside0.mk (hmap); have n5_ := Aside0.mk (Below.grown ax104 hg (below_size ax104) (fun k_ e_ => by cases e_; exact GM265.out)); clear HO_39; clear HO_267000; clear BK254; clear BK266; clear MP265; clear HB; have HO_39 := n0_; have HO_267000 := n1_; have BK254 := n2_; have BK266 := n3_; have MP265 := n4_; have HB := n5_; clear n0_ n1_ n2_ n3_ n4_ n5_; clear hmap hg) | ((with_reducible refine gate_callee (f := 43) rfl ?_); refine goesL_ (some 52) rfl rfl Tryd.func43 (by kernel_rfl) rfl #[.slice A0 l0.length c0, .string (rdOf ByteArray.empty t262 x41_2)] rfl ax24 ?_; (with_reducible refine (slices_BinarySearch_string_string.calls k2 _ _ l0 (rdOf ByteArray.empty t262 x41_2) t269 t270 _ ?side1 ?side2 A30.out).mono ?_); (case side1 => exact ax22); (case side2 => exact HC0.out); rintro e w' ⟨rfl, ⟨nd, rfl⟩⟩; refine ⟨_, rfl, ?_⟩; (try (rw [drewN_self w33]; generalize hq_ : World.drewN w33 _ = w33; have n0_ : Aside0 (Kd.R k50 50 w33 w.heap.size (fun _ => True) u267000 x267000_2) := ⟨by rw [← hq_]; exact ax101⟩; have n1_ : Aside0 (Kd.R Kd.string 9 w33 w.heap.size (fun _ => True) (.slice (some ad267) t262.length co22) t262) := ⟨by rw [← hq_]; exact ax100⟩; have n2_ : Aside0 (G.MapIs Tryd.prog 9 3 w33 gm265 y268) := ⟨by rw [← hq_]; exact show G.MapIs Tryd.prog 9 3 _ gm265 y268 from by repeat (first | (with_reducible first | exact MP265.out | apply G.MapIs.alloc | apply G.MapIs.drewN | apply G.MapIs.drew) | exact MP265.out)⟩; have n3_ : Aside0 (w33.heap[gb254]? = some (.cells #[.slice none 0 0] 38 (0, 0))) := ⟨by rw [← hq_]; exact ax92⟩; have n4_ : Aside0 (w33.heap[gb266]? = some (.cells #[u267000] 38 (0, 0))) := ⟨by rw [← hq_]; exact ax103⟩; have n5_ : Aside0 (Below w.heap.size w w33) := ⟨by rw [← hq_]; exact ax104⟩; clear HO_267000 HO_39 MP265 BK254 BK266 HB hq_; have HO_267000 := n0_; have HO_39 := n1_; have MP265 := n2_; have BK254 := n3_; have BK266 := n4_; have HB := n5_; clear n0_ n1_ n2_ n3_ n4_ n5_))) | ((with_reducible refine gate_dst (N := 13) rfl ?_); refine box_event ?hg (N := 13) ?hd (cs := #[.int .i64 0, .int .i64 0, .bool false]) (t := 50) ?hr ?_; (case hd => rfl); (case hg => rfl); (case hr => exact ax12); intro gb271 hg w34 hbox hb; have n0_ := Aside0.mk (Kd.R_below ax100 hb); have n1_ := Aside0.mk (Kd.R_below (Kd.R_elderB ax101 gb271 (Nat.le_of_eq hg.symm)) hb); have n2_ := Aside0.mk (blk_below (g := gb254) (o := .cells #[.slice none 0 0] 38 (0, 0)) ax92 hb); have n3_ := Aside0.mk (blk_below (g := gb266) (o := .cells #[u267000] 38 (0, 0)) ax103 hb); have n4_ := Aside0.mk (G.MapIs.below (show G.MapIs Tryd.prog 9 3 _ gm265 y268 from by repeat (first | (with_reducible first | exact MP265.out | apply G.MapIs.alloc | apply G.MapIs.drewN | apply G.MapIs.drew) | exact MP265.out)) hb); have n5_ := Aside0.mk (below_step ax104 hb); have n6_ := Aside0.mk (hbox); have n7_ := Aside0.mk ((ax105 : w.heap.size ≤ gb271)); have n8_ := Aside0.mk ((ax105 : w.heap.size ≤ gb271)); have n9_ := Aside0.mk ((ax96 : gb254 ≠ gb271)); have n10_ := Aside0.mk ((ax97 : gb271 ≠ gb254)); have n11_ := Aside0.mk ((ax106 : gb266 ≠ gb271)); have n12_ := Aside0.mk ((ax107 : gb271 ≠ gb266)); clear HO_39; clear HO_267000; clear BK254; clear BK266; clear MP265; clear HB; have HO_39 := n0_; have HO_267000 := n1_; have BK254 := n2_; have BK266 := n3_; have MP265 := n4_; have HB := n5_; have BK271 := n6_; have GW271 := n7_; have GE271 := n8_; have NB254_271 := n9_; have NB271_254 := n10_; have NB266_271 := n11_; have NB271_266 := n12_; clear n0_ n1_ n2_ n3_ n4_ n5_ n6_ n7_ n8_ n9_ n10_ n11_ n12_; clear hb hbox hg; have hnb35 := NB271_254.out; have hnc35 := NB254_271.out; have hnb36 := NB271_266.out; have hnc36 := NB266_271.out; have hcz37_0 : w34.cell? ⟨gb271, 0, none⟩ = some (.int .i64 0) := (blk_cell BK271.out 0).trans rfl; have hcz37_1 : w34.cell? ⟨gb271, 1, none⟩ = some (.int .i64 0) := (blk_cell BK271.out 1).trans rfl; have hcz37_2 : w34.cell? ⟨gb271, 2, none⟩ = some (.bool false) := (blk_cell BK271.out 2).trans rfl; have hfz37_0 := blk_frozen BK271.out 0; have hfz37_1 := blk_frozen BK271.out 1; have hfz37_2 := blk_frozen BK271.out 2; have hnb38 := NB266_254.out; have hnc38 := NB254_266.out; have hcz39_0 : w34.cell? ⟨gb266, 0, none⟩ = some (u267000) := (blk_cell BK266.out 0).trans rfl; have hfz39_0 := blk_frozen BK266.out 0) | ((with_reducible refine gate_builtin (b := .append) (xs := #[.tmp 76, .tmp 78]) rfl ?_); at_builtin; refine Kd.R_append k50 (w0 := w) w.heap.size rfl (.tmp 76) (.tmp 78) 36 50 (.agg #[(.int .i64 0), (.int .i64 0), (.bool false)]) 24 rfl Tryd.underlying36 info50 rfl (by decide) (by omega) u267000 x267000_2 (⟨(-1), (-1), t270⟩ : S50) [.int .i64 (-1), .int .i64 (-1), .bool t270] (fun k_ => k_ ≠ gb271) (fun _ => False) rfl ax12 ?aP (fun _ hk => hk.elim) ?aF ?aO ?aB ?aS ?aL ?_; (case aP => exact k50_mkM _ _ _ (⟨(-1), (-1), t270⟩ : S50)); (case aB => exact ax108); (case aF => exact (fun k_ hk => Kd.freshB (g := gb271) (o := .cells #[.int .i64 (-1), .int .i64 (-1), .bool t270] 50 (0, 0)) ax109 k_ hk)); (case aO => exact (by (with_reducible repeat (first | apply Kd.R_alloc | apply Kd.R_drewN | apply Kd.R_drew)); exact Kd.R_mono (Kd.R_far (p := ⟨gb271, 2, none⟩) (Kd.R_far (p := ⟨gb271, 1, none⟩) (Kd.R_far (p := ⟨gb271, 0, none⟩) (Kd.R_mono HO_267000.out (fun k_ hk => (⟨hk, hk.2⟩ : _ ∧ k_ ≠ gb271))) (fun _ hk => hk.2) (.int .i64 (-1))) (fun _ hk => hk.2) (.int .i64 (-1))) (fun _ hk => hk.2) (.bool t270)) (fun _ hk => hk.1.2))); (case aS => exact ax110); (case aL => have := LMc32.out; omega); intro v273 w40 ho hb hg hat; rw [← Ny272.out] at ho; have n0_ := Aside0.mk (Kd.R_over' (by (with_reducible repeat (first | apply Kd.R_alloc | apply Kd.R_drewN | apply Kd.R_drew)); exact (Kd.R_mono (Kd.R_far (p := ⟨gb271, 2, none⟩) (Kd.R_far (p := ⟨gb271, 1, none⟩) (Kd.R_far (p := ⟨gb271, 0, none⟩) (Kd.R_types HO_39.out BK271.out (by decide)) (fun _ hk => hk.2) (.int .i64 (-1))) (fun _ hk => hk.2) (.int .i64 (-1))) (fun _ hk => hk.2) (.bool t270)) (fun _ h_ => h_.1))) (Kd.R_typed (by (with_reducible repeat (first | apply Kd.R_alloc | apply Kd.R_drewN | apply Kd.R_drew)); exact (Kd.R_mono (Kd.R_far (p := ⟨gb271, 2, none⟩) (Kd.R_far (p := ⟨gb271, 1, none⟩) (Kd.R_far (p := ⟨gb271, 0, none⟩) (Kd.R_mono HO_267000.out (fun k_ hk => (⟨hk, hk.2⟩ : _ ∧ k_ ≠ gb271))) (fun _ hk => hk.2) (.int .i64 (-1))) (fun _ hk => hk.2) (.int .i64 (-1))) (fun _ hk => hk.2) (.bool t270)) (fun _ h_ => h_.1)))) (by decide) hg); have n1_ := Aside0.mk (blk_grown (g := gb254) (o := .cells #[.slice none 0 0] 38 (0, 0)) (by (with_reducible repeat (first | refine blk_drewN ?_ _ | refine blk_drew ?_ | refine blk_alloc ?_ _)); refine blk_far ?_ NB254_271.out _; (with_reducible repeat (first | refine blk_drewN ?_ _ | refine blk_drew ?_ | refine blk_alloc ?_ _)); refine blk_far ?_ NB254_271.out _; (with_reducible repeat (first | refine blk_drewN ?_ _ | refine blk_drew ?_ | refine blk_alloc ?_ _)); refine blk_far ?_ NB254_271.out _; (with_reducible repeat (first | refine blk_drewN ?_ _ | refine blk_drew ?_ | refine blk_alloc ?_ _)); exact BK254.out) hg (Kd.R_ne HO_267000.out BK254.out (by decide))); have n2_ := Aside0.mk (blk_grown (g := gb266) (o := .cells #[u267000] 38 (0, 0)) (by (with_reducible repeat (first | refine blk_drewN ?_ _ | refine blk_drew ?_ | refine blk_alloc ?_ _)); refine blk_far ?_ NB266_271.out _; (with_reducible repeat (first | refine blk_drewN ?_ _ | refine blk_drew ?_ | refine blk_alloc ?_ _)); refine blk_far ?_ NB266_271.out _; (with_reducible repeat (first | refine blk_drewN ?_ _ | refine blk_drew ?_ | refine blk_alloc ?_ _)); refine blk_far ?_ NB266_271.out _; (with_reducible repeat (first | refine blk_drewN ?_ _ | refine blk_drew ?_ | refine blk_alloc ?_ _)); exact BK266.out) hg (Kd.R_ne HO_267000.out BK266.out (by decide))); have n3_ := Aside0.mk (G.MapIs.grown (show G.MapIs Tryd.prog 9 3 _ gm265 y268 from by repeat (first | (with_reducible first | exact MP265.out | apply G.MapIs.alloc | apply G.MapIs.drewN | apply G.MapIs.drew | refine G.MapIs.set ?_ (G.MapIs.ne_blk MP265.out BK271.out) _ _ | refine G.MapIs.set ?_ (G.MapIs.ne_blk MP265.out BK271.out) _ _ | refine G.MapIs.set ?_ (G.MapIs.ne_blk MP265.out BK271.out) _ _) | exact MP265.out)) hg (G.MapIs.ne_row MP265.out HO_267000.out)); have n4_ := Aside0.mk (blk_grown (g := gb271) (o := .cells #[.int .i64 (-1), .int .i64 (-1), .bool t270] 50 (0, 0)) ax109 hg (Kd.R_away HO_267000.out (fun _ hk => hk.2))); have n5_ := Aside0.mk (hb); have n6_ := Aside0.mk (ho); clear HO_39; clear BK254; clear BK266; clear MP265; clear BK271; clear HB; clear HO_267000; have HO_39 := n0_; have BK254 := n1_; have BK266 := n2_; have MP265 := n3_; have BK271 := n4_; have HB := n5_; have HO274 := n6_; clear n0_ n1_ n2_ n3_ n4_ n5_ n6_; clear ho hb hg hat; obtain ⟨Ao41, co41, eo41⟩ := Kd.R_slice HO274.out; subst eo41; have hcz42_0 : w40.cell? ⟨gb266, 0, none⟩ = some (u267000) := (blk_cell BK266.out 0).trans rfl; have hfz42_0 := blk_frozen BK266.out 0))
               go_roundg k2
               case measure => have := HK1.out; have := HK2.out; omega
               case rel => exact ⟨(wrap64 (x41_2 + 1)), (y268), (y272), (.slice Ao41 y272.length co41), ax15, H', ⟨by have := HK1.out; have := HK2.out; omega⟩, ⟨by (with_reducible repeat (first | apply Kd.R_alloc | apply Kd.R_drewN | apply Kd.R_drew)); exact Kd.R_mono (Kd.R_far (p := ⟨gb266, 0, none⟩) (Kd.R_types HO_39.out BK266.out (by decide)) (fun _ hk => hk.2) (.slice Ao41 y272.length co41)) (fun _ hk => trivial)⟩, ⟨by (with_reducible repeat (first | apply Kd.R_alloc | apply Kd.R_drewN | apply Kd.R_drew)); exact Kd.R_mono (Kd.R_far (p := ⟨gb266, 0, none⟩) (Kd.R_types HO274.out BK266.out (by decide)) (fun _ hk => hk.2) (.slice Ao41 y272.length co41)) (fun _ hk => trivial)⟩, ⟨by (with_reducible repeat (first | refine blk_drewN ?_ _ | refine blk_drew ?_ | refine blk_alloc ?_ _)); refine blk_far ?_ NB254_266.out _; (with_reducible repeat (first | refine blk_drewN ?_ _ | refine blk_drew ?_ | refine blk_alloc ?_ _)); exact BK254.out⟩, ⟨by (with_reducible repeat (first | refine blk_drewN ?_ _ | refine blk_drew ?_ | refine blk_alloc ?_ _)); refine blk_put (cs := #[u267000]) ?_ 0 _ rfl; (with_reducible repeat (first | refine blk_drewN ?_ _ | refine blk_drew ?_ | refine blk_alloc ?_ _)); exact BK266.out⟩, ⟨show G.MapIs Tryd.prog 9 3 _ gm265 y268 from by repeat (first | (with_reducible first | exact MP265.out | apply G.MapIs.alloc | apply G.MapIs.drewN | apply G.MapIs.drew | refine G.MapIs.set ?_ (G.MapIs.ne_blk MP265.out BK266.out) _ _) | exact MP265.out)⟩, ⟨by repeat (first | (with_reducible first | exact HB.out | apply below_alloc | apply pw_below_drewN | apply below_drew1 | refine below_set ?_ GE254.out | refine below_set ?_ GE266.out | refine below_set ?_ GE271.out) | exact HB.out)⟩⟩
              ·rw [if_neg c32] at H
               exact absurd H (by simp)
             ·rw [if_neg c31] at H
              have c31b0 : ((rdOf ByteArray.empty t262 x41_2).toList == ([] : List UInt8)) = false := beq_eq_false_iff_ne.mpr c31
              have c31b1 : ((rdOf ByteArray.empty t262 x41_2).toList != ([] : List UInt8)) = true := bne_iff_ne.mpr c31
              obtain ⟨ji43, hji43⟩ : ∃ j_ : Int, (wrap64 (((rdOf ByteArray.empty t262 x41_2).size : Int) - 1)) = j_ := ⟨_, rfl⟩
              replace H : (if 0 ≤ (ji43) then (if (ji43) < ((rdOf ByteArray.empty t262 x41_2).size : Int) then (if (ji43) ≤ ((rdOf ByteArray.empty t262 x41_2).size : Int) then (if ((rdOf ByteArray.empty t262 x41_2).extract 0 ((ji43) : Int).toNat).size ≤ 9223372036854775807 then (if x267000_2.length < 5864062014805 then (impl_trieOf.l2 k2 l0 t262 (t262.length : Int) (wrap64 (x41_2 + 1)) y268 (x267000_2 ++ [(⟨((bt (rdOf ByteArray.empty t262 x41_2) (ji43)) - 97) % 256, G.mapGet y268 ((rdOf ByteArray.empty t262 x41_2).extract 0 ((ji43) : Int).toNat), t270⟩ : S50)])) else (none)) else (none)) else (none)) else (none)) else (none)) = some r := by first | (rw [hji43] at H; exact H) | (simp only [hji43] at H ⊢; exact H)
              (try rw [hji43] at A30)
              have hji43w : (IntKind.i64.wrap (((rdOf ByteArray.empty t262 x41_2).size : Int) - 1)) = ji43 := (i64_w _).trans hji43
              by_cases c44 : 0 ≤ (ji43)
              ·rw [if_pos c44] at H
               have c44b0 : decide (0 ≤ (ji43)) = true := decide_eq_true c44
               clear c44
               by_cases c45 : (ji43) < ((rdOf ByteArray.empty t262 x41_2).size : Int)
               ·rw [if_pos c45] at H
                have c45b0 : decide ((ji43) < ((rdOf ByteArray.empty t262 x41_2).size : Int)) = true := decide_eq_true c45
                clear c45
                have cv47w : (IntKind.i64.wrap (((bt (rdOf ByteArray.empty t262 x41_2) (ji43)) - 97) % 256)) = (((bt (rdOf ByteArray.empty t262 x41_2) (ji43)) - 97) % 256) := (i64_w _).trans (by unfold wrap64; omega)
                have cv48z : wrap64 (((bt (rdOf ByteArray.empty t262 x41_2) (ji43)) - 97) % 256) = (((bt (rdOf ByteArray.empty t262 x41_2) (ji43)) - 97) % 256) := by unfold wrap64; omega
                have c49b0 := eq_true (of_decide_eq_true ax16 : 0 ≤ (ji43))
                by_cases c50 : (ji43) ≤ ((rdOf ByteArray.empty t262 x41_2).size : Int)
                ·rw [if_pos c50] at H
                 have c50b0 := eq_true c50
                 have c50b1 : decide ((ji43) ≤ ((rdOf ByteArray.empty t262 x41_2).size : Int)) = true := decide_eq_true c50
                 clear c50
                 obtain ⟨js51, hjs51⟩ : ∃ j_ : ByteArray, ((rdOf ByteArray.empty t262 x41_2).extract 0 ((ji43) : Int).toNat) = j_ := ⟨_, rfl⟩
                 replace H : (if js51.size ≤ 9223372036854775807 then (if x267000_2.length < 5864062014805 then (impl_trieOf.l2 k2 l0 t262 (t262.length : Int) (wrap64 (x41_2 + 1)) y268 (x267000_2 ++ [(⟨((bt (rdOf ByteArray.empty t262 x41_2) (ji43)) - 97) % 256, G.mapGet y268 js51, t270⟩ : S50)])) else (none)) else (none)) = some r := by first | (rw [hjs51] at H; exact H) | (simp only [hjs51] at H ⊢; exact H)
                 by_cases c52 : js51.size ≤ 9223372036854775807
                 ·rw [if_pos c52] at H
                  have LMc52 := Aside0.mk c52; clear c52
                  by_cases c53 : x267000_2.length < 5864062014805
                  ·rw [if_pos c53] at H
                   have LMc53 := Aside0.mk c53; clear c53
                   obtain ⟨y275, hy275⟩ : ∃ y_ : List (S50), y_ = (x267000_2 ++ [(⟨((bt (rdOf ByteArray.empty t262 x41_2) (ji43)) - 97) % 256, G.mapGet y268 js51, t270⟩ : S50)]) := ⟨_, rfl⟩
                   replace H : (impl_trieOf.l2 k2 l0 t262 (t262.length : Int) (wrap64 (x41_2 + 1)) y268 y275) = some r := by first | (rw [hy275]; with_reducible exact H) | (have H2_ := (Option.bind_some _ _).symm.trans H; rw [hy275]; with_reducible exact H2_) | (have H2_ := (Option.bind_some _ _).symm.trans H; with_reducible exact H2_) | with_reducible exact H | (rw [hy275]; exact H) | exact H
                   have Ny275 := Aside0.mk hy275; clear hy275
                   have H' := Aside0.mk H
                   clear H
                   have p267 : 0 ≤ (x41_2 : Int) := of_decide_eq_true ax16
                   have q267 : x41_2 < (t262.length : Int) := of_decide_eq_true ax16
                   obtain ⟨ad267, e267, hx267_0⟩ := Kd.at_string (Kd.R_reads' HO_39.out).2.2 x41_2 p267 q267
                   cases e267; replace p267 := eq_true p267; replace q267 := eq_true q267
                   try go_wp2_with (first | ((with_reducible refine G.gate_mput (t := 64) (m := .tmp 46) (x := .tmp 47) (v := .tmp 48) rfl ?_); refine G.mput_event ?hg (t := 64) (m := .tmp 46) (x := .tmp 47) (v := .tmp 48) ?ho ?hd (b := gm265) (s := (rdOf ByteArray.empty t262 x41_2)) (i := x41_2) ?hm ?hx ?hv (K := 9) (E := 3) (c := x266000_2) ?ht ?hK ?hE ?hw ?hs ?hl ?hmap ?_; (case hg => rfl); (case ho => rfl); (case hd => rfl); (case hm => rfl); (case hx => rfl); (case hv => rfl); (case ht => exact Tryd.underlying64); (case hK => exact Tryd.underlying9); (case hE => exact Tryd.underlying3); (case hw => exact ax98); (case hs => exact LMc27.out); (case hl => exact LMc26.out); (case hmap => exact ax99); intro w54 hmap hg; rw [← Ny268.out] at hmap; have n0_ := Aside0.mk (Kd.R_grown1 ax100 rfl hg (G.MapIs.ne_row MP265.out HO_39.out)); have n1_ := Aside0.mk (Kd.R_grown1 ax101 rfl hg (G.MapIs.ne_row MP265.out HO_267000.out)); have n2_ := Aside0.mk (blk_grown (g := gb254) (o := .cells #[.slice none 0 0] 38 (0, 0)) ax92 hg (fun e_ => G.MapIs.ne_blk MP265.out BK254.out ax102)); have n3_ := Aside0.mk (blk_grown (g := gb266) (o := .cells #[u267000] 38 (0, 0)) ax103 hg (fun e_ => G.MapIs.ne_blk MP265.out BK266.out ax102)); have n4_ := Aside0.mk (hmap); have n5_ := Aside0.mk (Below.grown ax104 hg (below_size ax104) (fun k_ e_ => by cases e_; exact GM265.out)); clear HO_39; clear HO_267000; clear BK254; clear BK266; clear MP265; clear HB; have HO_39 := n0_; have HO_267000 := n1_; have BK254 := n2_; have BK266 := n3_; have MP265 := n4_; have HB := n5_; clear n0_ n1_ n2_ n3_ n4_ n5_; clear hmap hg) | ((with_reducible refine gate_callee (f := 43) rfl ?_); refine goesL_ (some 52) rfl rfl Tryd.func43 (by kernel_rfl) rfl #[.slice A0 l0.length c0, .string (rdOf ByteArray.empty t262 x41_2)] rfl ax24 ?_; (with_reducible refine (slices_BinarySearch_string_string.calls k2 _ _ l0 (rdOf ByteArray.empty t262 x41_2) t269 t270 _ ?side1 ?side2 A30.out).mono ?_); (case side1 => exact ax22); (case side2 => exact HC0.out); rintro e w' ⟨rfl, ⟨nd, rfl⟩⟩; refine ⟨_, rfl, ?_⟩; (try (rw [drewN_self w54]; generalize hq_ : World.drewN w54 _ = w54; have n0_ : Aside0 (Kd.R k50 50 w54 w.heap.size (fun _ => True) u267000 x267000_2) := ⟨by rw [← hq_]; exact ax101⟩; have n1_ : Aside0 (Kd.R Kd.string 9 w54 w.heap.size (fun _ => True) (.slice (some ad267) t262.length co22) t262) := ⟨by rw [← hq_]; exact ax100⟩; have n2_ : Aside0 (G.MapIs Tryd.prog 9 3 w54 gm265 y268) := ⟨by rw [← hq_]; exact show G.MapIs Tryd.prog 9 3 _ gm265 y268 from by repeat (first | (with_reducible first | exact MP265.out | apply G.MapIs.alloc | apply G.MapIs.drewN | apply G.MapIs.drew) | exact MP265.out)⟩; have n3_ : Aside0 (w54.heap[gb254]? = some (.cells #[.slice none 0 0] 38 (0, 0))) := ⟨by rw [← hq_]; exact ax92⟩; have n4_ : Aside0 (w54.heap[gb266]? = some (.cells #[u267000] 38 (0, 0))) := ⟨by rw [← hq_]; exact ax103⟩; have n5_ : Aside0 (Below w.heap.size w w54) := ⟨by rw [← hq_]; exact ax104⟩; clear HO_267000 HO_39 MP265 BK254 BK266 HB hq_; have HO_267000 := n0_; have HO_39 := n1_; have MP265 := n2_; have BK254 := n3_; have BK266 := n4_; have HB := n5_; clear n0_ n1_ n2_ n3_ n4_ n5_))) | ((with_reducible refine gate_dst (N := 13) rfl ?_); refine box_event ?hg (N := 13) ?hd (cs := #[.int .i64 0, .int .i64 0, .bool false]) (t := 50) ?hr ?_; (case hd => rfl); (case hg => rfl); (case hr => exact ax12); intro gb271 hg w55 hbox hb; have n0_ := Aside0.mk (Kd.R_below ax100 hb); have n1_ := Aside0.mk (Kd.R_below (Kd.R_elderB ax101 gb271 (Nat.le_of_eq hg.symm)) hb); have n2_ := Aside0.mk (blk_below (g := gb254) (o := .cells #[.slice none 0 0] 38 (0, 0)) ax92 hb); have n3_ := Aside0.mk (blk_below (g := gb266) (o := .cells #[u267000] 38 (0, 0)) ax103 hb); have n4_ := Aside0.mk (G.MapIs.below (show G.MapIs Tryd.prog 9 3 _ gm265 y268 from by repeat (first | (with_reducible first | exact MP265.out | apply G.MapIs.alloc | apply G.MapIs.drewN | apply G.MapIs.drew) | exact MP265.out)) hb); have n5_ := Aside0.mk (below_step ax104 hb); have n6_ := Aside0.mk (hbox); have n7_ := Aside0.mk ((ax105 : w.heap.size ≤ gb271)); have n8_ := Aside0.mk ((ax105 : w.heap.size ≤ gb271)); have n9_ := Aside0.mk ((ax96 : gb254 ≠ gb271)); have n10_ := Aside0.mk ((ax97 : gb271 ≠ gb254)); have n11_ := Aside0.mk ((ax106 : gb266 ≠ gb271)); have n12_ := Aside0.mk ((ax107 : gb271 ≠ gb266)); clear HO_39; clear HO_267000; clear BK254; clear BK266; clear MP265; clear HB; have HO_39 := n0_; have HO_267000 := n1_; have BK254 := n2_; have BK266 := n3_; have MP265 := n4_; have HB := n5_; have BK271 := n6_; have GW271 := n7_; have GE271 := n8_; have NB254_271 := n9_; have NB271_254 := n10_; have NB266_271 := n11_; have NB271_266 := n12_; clear n0_ n1_ n2_ n3_ n4_ n5_ n6_ n7_ n8_ n9_ n10_ n11_ n12_; clear hb hbox hg; have hnb56 := NB271_254.out; have hnc56 := NB254_271.out; have hnb57 := NB271_266.out; have hnc57 := NB266_271.out; have hcz58_0 : w55.cell? ⟨gb271, 0, none⟩ = some (.int .i64 0) := (blk_cell BK271.out 0).trans rfl; have hcz58_1 : w55.cell? ⟨gb271, 1, none⟩ = some (.int .i64 0) := (blk_cell BK271.out 1).trans rfl; have hcz58_2 : w55.cell? ⟨gb271, 2, none⟩ = some (.bool false) := (blk_cell BK271.out 2).trans rfl; have hfz58_0 := blk_frozen BK271.out 0; have hfz58_1 := blk_frozen BK271.out 1; have hfz58_2 := blk_frozen BK271.out 2))
                   have n0_ : Aside0 (Kd.R Kd.string 9 (((w55.setCell ⟨gb271, 0, none⟩ (.int .i64 (-1))).setCell ⟨gb271, 1, none⟩ (.int .i64 (-1))).setCell ⟨gb271, 2, none⟩ (.bool t270)) w.heap.size (fun _ => True) (.slice (some ad267) t262.length co22) t262) := ⟨by (with_reducible repeat (first | apply Kd.R_alloc | apply Kd.R_drewN | apply Kd.R_drew)); exact Kd.R_mono (Kd.R_far (p := ⟨gb271, 2, none⟩) (Kd.R_far (p := ⟨gb271, 1, none⟩) (Kd.R_far (p := ⟨gb271, 0, none⟩) (Kd.R_types HO_39.out BK271.out (by decide)) (fun _ hk => hk.2) (.int .i64 (-1))) (fun _ hk => hk.2) (.int .i64 (-1))) (fun _ hk => hk.2) (.bool t270)) (fun _ hk => trivial)⟩
                   have n1_ : Aside0 (Kd.R k50 50 (((w55.setCell ⟨gb271, 0, none⟩ (.int .i64 (-1))).setCell ⟨gb271, 1, none⟩ (.int .i64 (-1))).setCell ⟨gb271, 2, none⟩ (.bool t270)) w.heap.size (fun k_ => k_ ≠ gb271) u267000 x267000_2) := ⟨by (with_reducible repeat (first | apply Kd.R_alloc | apply Kd.R_drewN | apply Kd.R_drew)); exact Kd.R_mono (Kd.R_far (p := ⟨gb271, 2, none⟩) (Kd.R_far (p := ⟨gb271, 1, none⟩) (Kd.R_far (p := ⟨gb271, 0, none⟩) (Kd.R_mono HO_267000.out (fun k_ hk => (⟨hk, hk.2⟩ : _ ∧ k_ ≠ gb271))) (fun _ hk => hk.2) (.int .i64 (-1))) (fun _ hk => hk.2) (.int .i64 (-1))) (fun _ hk => hk.2) (.bool t270)) (fun _ hk => hk.1.2)⟩
                   have n2_ : Aside0 ((((w55.setCell ⟨gb271, 0, none⟩ (.int .i64 (-1))).setCell ⟨gb271, 1, none⟩ (.int .i64 (-1))).setCell ⟨gb271, 2, none⟩ (.bool t270)).heap[gb254]? = some (.cells #[.slice none 0 0] 38 (0, 0))) := ⟨by (with_reducible repeat (first | refine blk_drewN ?_ _ | refine blk_drew ?_ | refine blk_alloc ?_ _)); refine blk_far ?_ NB254_271.out _; (with_reducible repeat (first | refine blk_drewN ?_ _ | refine blk_drew ?_ | refine blk_alloc ?_ _)); refine blk_far ?_ NB254_271.out _; (with_reducible repeat (first | refine blk_drewN ?_ _ | refine blk_drew ?_ | refine blk_alloc ?_ _)); refine blk_far ?_ NB254_271.out _; (with_reducible repeat (first | refine blk_drewN ?_ _ | refine blk_drew ?_ | refine blk_alloc ?_ _)); exact BK254.out⟩
                   have n3_ : Aside0 ((((w55.setCell ⟨gb271, 0, none⟩ (.int .i64 (-1))).setCell ⟨gb271, 1, none⟩ (.int .i64 (-1))).setCell ⟨gb271, 2, none⟩ (.bool t270)).heap[gb266]? = some (.cells #[u267000] 38 (0, 0))) := ⟨by (with_reducible repeat (first | refine blk_drewN ?_ _ | refine blk_drew ?_ | refine blk_alloc ?_ _)); refine blk_far ?_ NB266_271.out _; (with_reducible repeat (first | refine blk_drewN ?_ _ | refine blk_drew ?_ | refine blk_alloc ?_ _)); refine blk_far ?_ NB266_271.out _; (with_reducible repeat (first | refine blk_drewN ?_ _ | refine blk_drew ?_ | refine blk_alloc ?_ _)); refine blk_far ?_ NB266_271.out _; (with_reducible repeat (first | refine blk_drewN ?_ _ | refine blk_drew ?_ | refine blk_alloc ?_ _)); exact BK266.out⟩
                   have n4_ : Aside0 ((((w55.setCell ⟨gb271, 0, none⟩ (.int .i64 (-1))).setCell ⟨gb271, 1, none⟩ (.int .i64 (-1))).setCell ⟨gb271, 2, none⟩ (.bool t270)).heap[gb271]? = some (.cells #[.int .i64 (-1), .int .i64 (-1), .bool t270] 50 (0, 0))) := ⟨by (with_reducible repeat (first | refine blk_drewN ?_ _ | refine blk_drew ?_ | refine blk_alloc ?_ _)); refine blk_put (cs := #[.int .i64 (-1), .int .i64 (-1), .bool false]) ?_ 2 _ rfl; (with_reducible repeat (first | refine blk_drewN ?_ _ | refine blk_drew ?_ | refine blk_alloc ?_ _)); refine blk_put (cs := #[.int .i64 (-1), .int .i64 0, .bool false]) ?_ 1 _ rfl; (with_reducible repeat (first | refine blk_drewN ?_ _ | refine blk_drew ?_ | refine blk_alloc ?_ _)); refine blk_put (cs := #[.int .i64 0, .int .i64 0, .bool false]) ?_ 0 _ rfl; (with_reducible repeat (first | refine blk_drewN ?_ _ | refine blk_drew ?_ | refine blk_alloc ?_ _)); exact BK271.out⟩
                   have n5_ : Aside0 (G.MapIs Tryd.prog 9 3 (((w55.setCell ⟨gb271, 0, none⟩ (.int .i64 (-1))).setCell ⟨gb271, 1, none⟩ (.int .i64 (-1))).setCell ⟨gb271, 2, none⟩ (.bool t270)) gm265 y268) := ⟨show G.MapIs Tryd.prog 9 3 _ gm265 y268 from by repeat (first | (with_reducible first | exact MP265.out | apply G.MapIs.alloc | apply G.MapIs.drewN | apply G.MapIs.drew | refine G.MapIs.set ?_ (G.MapIs.ne_blk MP265.out BK271.out) _ _ | refine G.MapIs.set ?_ (G.MapIs.ne_blk MP265.out BK271.out) _ _ | refine G.MapIs.set ?_ (G.MapIs.ne_blk MP265.out BK271.out) _ _) | exact MP265.out)⟩
                   have n6_ : Aside0 (Below w.heap.size w (((w55.setCell ⟨gb271, 0, none⟩ (.int .i64 (-1))).setCell ⟨gb271, 1, none⟩ (.int .i64 (-1))).setCell ⟨gb271, 2, none⟩ (.bool t270))) := ⟨by repeat (first | (with_reducible first | exact HB.out | apply below_alloc | apply pw_below_drewN | apply below_drew1 | refine below_set ?_ GE254.out | refine below_set ?_ GE266.out | refine below_set ?_ GE271.out) | exact HB.out)⟩
                   (try clear HO_39); (try clear HO_267000); (try clear BK254); (try clear BK266); (try clear BK271); (try clear MP265); (try clear HB); generalize (((w55.setCell ⟨gb271, 0, none⟩ (.int .i64 (-1))).setCell ⟨gb271, 1, none⟩ (.int .i64 (-1))).setCell ⟨gb271, 2, none⟩ (.bool t270)) = w59 at n0_ n1_ n2_ n3_ n4_ n5_ n6_ ⊢; have HO_39 := n0_; have HO_267000 := n1_; have BK254 := n2_; have BK266 := n3_; have BK271 := n4_; have MP265 := n5_; have HB := n6_; clear n0_ n1_ n2_ n3_ n4_ n5_ n6_; have n0_ := Aside0.mk (Kd.R_drew HO_39.out); have n1_ := Aside0.mk (Kd.R_drew HO_267000.out); have n2_ := Aside0.mk (blk_drew BK254.out); have n3_ := Aside0.mk (blk_drew BK266.out); have n4_ := Aside0.mk (blk_drew BK271.out); have n5_ := Aside0.mk (G.MapIs.drew MP265.out); have n6_ := Aside0.mk (below_drew1 HB.out); clear HO_39; clear HO_267000; clear BK254; clear BK266; clear BK271; clear MP265; clear HB; have HO_39 := n0_; have HO_267000 := n1_; have BK254 := n2_; have BK266 := n3_; have BK271 := n4_; have MP265 := n5_; have HB := n6_; clear n0_ n1_ n2_ n3_ n4_ n5_ n6_
                   have p46 : 0 ≤ ((ji43) : Int) := of_decide_eq_true ax16
                   have q46 : (ji43) < ((rdOf ByteArray.empty t262 x41_2).size : Int) := of_decide_eq_true ax16
                   have hx46 := bt_at (rdOf ByteArray.empty t262 x41_2) (ji43); replace p46 := eq_true p46; replace q46 := eq_true q46
                   refine start_ (n := 18) (S := fun w' => G.MapIs Tryd.prog 9 3 w' gm265 y268 ∧ (Instr.lookup 64 (.map (some gm265)) (.string js51) false).run Tryd.prog w' = .ok (.int .i64 (G.mapGet y268 js51)) w') (ds := []) (ob 18 0) (by kernel_rfl) rfl rfl ⟨MP265.out, G.MapIs.run_get MP265.out Tryd.underlying64 Tryd.underlying9 Tryd.underlying3 (Tryd.zeroValue3 _) LMc52.out⟩ (fun hHeld => ?_); refine with_tabW impl_trieOf.tab20 impl_trieOf.bits20 (fun HT_ HW_ => ?_)
                   generalize w59.drew = w60 at HO_39 HO_267000 BK254 BK266 BK271 MP265 HB hHeld ⊢
                   refine pure_ (i := 0) (N := some 59) (v := ?_) (a' := ?_) (ob 18 1) rfl rfl (any_of HT_.out (by kernel_rfl)) (fun _ _ _ h => h) (Or.inl ⟨by rfl, ?_⟩) ?_ ?_; rotate_left; exact ax6; rotate_left; exact ax7
                   refine pure_ (i := 1) (N := some 60) (v := ?_) (a' := ?_) (ob 18 3) rfl rfl (any_of HT_.out (by kernel_rfl)) (fun _ _ _ h => h) (Or.inl ⟨by rfl, ?_⟩) ?_ ?_; rotate_left; exact ax6; rotate_left; exact ax7
                   refine pure_ (i := 2) (N := some 61) (v := ?_) (a' := ?_) (ob 18 7) rfl rfl (any_of HT_.out (by kernel_rfl)) (fun _ _ _ h => h) (Or.inl ⟨by rfl, ?_⟩) ?_ ?_; rotate_left; exact ax6; rotate_left; exact ax7
                   refine pure_ (i := 3) (N := some 62) (v := ?_) (a' := ?_) (ob 18 15) rfl rfl (any_of HT_.out (by kernel_rfl)) (fun _ _ _ h => h) (Or.inl ⟨by rfl, ?_⟩) ?_ ?_; rotate_left; exact ax6; rotate_left; exact ax7
                   refine pure_ (i := 7) (N := some 66) (v := ?_) (a' := ?_) (ob 18 143) rfl rfl (any_of HT_.out (by kernel_rfl)) (fun _ _ _ h => h) (Or.inl ⟨by rfl, ?_⟩) ?_ ?_; rotate_left; exact ax6; rotate_left; exact ax7
                   refine pure_ (i := 8) (N := some 67) (v := ?_) (a' := ?_) (ob 18 399) rfl rfl (any_of HT_.out (by kernel_rfl)) (fun _ _ _ h => h) (Or.inl ⟨by rfl, ?_⟩) ?_ ?_; rotate_left; exact ax6; rotate_left; exact ax7
                   refine pure_ (i := 9) (N := some 68) (v := ?_) (a' := ?_) (ob 18 911) rfl rfl (any_of HT_.out (by kernel_rfl)) (fun _ _ _ h => h) (Or.inl ⟨by rfl, ?_⟩) ?_ ?_; rotate_left; exact ax6; rotate_left; exact ax7
                   refine pure_ (i := 10) (N := some 69) (v := ?_) (a' := ?_) (ob 18 1935) rfl rfl (any_of HT_.out (by kernel_rfl)) (fun _ _ _ h => h) (Or.inl ⟨by rfl, ?_⟩) ?_ ?_; rotate_left; exact ax6; rotate_left; exact ax7
                   refine pure_ (i := 11) (N := some 70) (v := ?_) (a' := ?_) (ob 18 3983) rfl rfl (any_of HT_.out (by kernel_rfl)) (fun _ _ _ h => h) (Or.inl ⟨by rfl, ?_⟩) ?_ ?_; rotate_left; exact ax6; rotate_left; exact ax7
                   refine pure_ (i := 12) (N := some 71) (v := ?_) (a' := ?_) (ob 18 8079) rfl rfl (any_of HT_.out (by kernel_rfl)) (fun _ _ _ h => h) (Or.inl ⟨by rfl, ?_⟩) ?_ ?_; rotate_left; exact ax6; rotate_left; exact ax7
                   refine take_ (i := 4) (N := some 63) (v := ?_) (a' := ?_) (ob 18 8095) rfl rfl (take_ofW HT_.out HW_.out (by kernel_rfl)) (fun _ _ _ h => h) (Or.inl ⟨by rfl, ?_⟩) hHeld ?_ ?_
                   rotate_left
                   ·rintro w' ⟨s0, s1⟩
                    go_simp
                    with_reducible rfl
                   rotate_left
                   ·exact ax7
                   refine pure_ (i := 5) (N := some 64) (v := ?_) (a' := ?_) (ob 18 8127) rfl rfl (any_of HT_.out (by kernel_rfl)) (fun _ _ _ h => h) (Or.inl ⟨by rfl, ?_⟩) ?_ ?_; rotate_left; exact ax6; rotate_left; exact ax7
                   refine pure_ (i := 6) (N := some 65) (v := ?_) (a' := ?_) (ob 18 8191) rfl rfl (any_of HT_.out (by kernel_rfl)) (fun _ _ _ h => h) (Or.inl ⟨by rfl, ?_⟩) ?_ ?_; rotate_left; exact ax6; rotate_left; exact ax7
                   refine pure_ (i := 14) (N := some 73) (v := ?_) (a' := ?_) (ob 18 24575) rfl rfl (any_of HT_.out (by kernel_rfl)) (fun _ _ _ h => h) (Or.inl ⟨by rfl, ?_⟩) ?_ ?_; rotate_left; exact ax6; rotate_left; exact ax7
                   refine take_ (i := 13) (N := some 72) (v := ?_) (a' := ?_) (ob 18 32767) rfl rfl (take_ofW HT_.out HW_.out (by kernel_rfl)) (fun _ _ _ h => h) (Or.inl ⟨by rfl, ?_⟩) hHeld ?_ ?_
                   rotate_left
                   ·rintro w' ⟨s0, s1⟩
                    go_simp
                    with_reducible rfl
                   rotate_left
                   ·exact ax7
                   refine one_ (i := 15) (N := none) (ob 18 65535) rfl rfl (one_of HT_.out (by kernel_rfl)) (by decide) (fun K hK => ?_)
                   have hs61 : w60.cell? ⟨gb271, 0, none⟩ = some (.int .i64 (-1)) := (blk_cell BK271.out 0).trans rfl
                   have hfs61 := blk_frozen BK271.out 0; have hns61_0 := NB254_271.out; have hns61_1 := NB266_271.out; have hms61_0 := NB271_254.out; have hms61_1 := NB271_266.out
                   refine skip_ (w1 := ?_) (by rfl) rfl ?_ ?_
                   rotate_left
                   ·go_simp
                    rfl
                   refine hK.out _ _ ⟨(G.MapIs.set (hHeld.1) (G.MapIs.ne_blk MP265.out BK271.out) _ _), G.MapIs.run_get (G.MapIs.set (hHeld.1) (G.MapIs.ne_blk MP265.out BK271.out) _ _) Tryd.underlying64 Tryd.underlying9 Tryd.underlying3 (Tryd.zeroValue3 _) LMc52.out⟩ (fun hHeld => ?_)
                   clear hK K
                   refine pure_ (i := 16) (N := some 74) (v := ?_) (a' := ?_) (ob 18 131071) rfl rfl (any_of HT_.out (by kernel_rfl)) (fun _ _ _ h => h) (Or.inl ⟨by rfl, ?_⟩) ?_ ?_; rotate_left; exact ax6; rotate_left; exact ax7
                   refine one_ (i := 17) (N := none) (ob 18 262143) rfl rfl (one_of HT_.out (by kernel_rfl)) (by decide) (fun K hK => ?_)
                   have hs62 : w60.cell? ⟨gb271, 1, none⟩ = some (.int .i64 (-1)) := (blk_cell BK271.out 1).trans rfl
                   have hfs62 := blk_frozen BK271.out 1; have hns62_0 := NB254_271.out; have hns62_1 := NB266_271.out; have hms62_0 := NB271_254.out; have hms62_1 := NB271_266.out
                   refine skip_ (w1 := ?_) (by rfl) rfl ?_ ?_
                   rotate_left
                   ·go_simp
                    rfl
                   refine hK.out _ _ ⟨(G.MapIs.set (hHeld.1) (G.MapIs.ne_blk MP265.out BK271.out) _ _), G.MapIs.run_get (G.MapIs.set (hHeld.1) (G.MapIs.ne_blk MP265.out BK271.out) _ _) Tryd.underlying64 Tryd.underlying9 Tryd.underlying3 (Tryd.zeroValue3 _) LMc52.out⟩ (fun hHeld => ?_)
                   clear hK K
                   refine done_ (done_of HT_.out (by kernel_rfl)) ?_
                   have hnb63 := NB266_254.out; have hnc63 := NB254_266.out
                   have hcz64_0 : w60.cell? ⟨gb266, 0, none⟩ = some (u267000) := (blk_cell BK266.out 0).trans rfl
                   have hfz64_0 := blk_frozen BK266.out 0
                   have hcz65_0 : w60.cell? ⟨gb271, 0, none⟩ = some (.int .i64 (-1)) := (blk_cell BK271.out 0).trans rfl
                   have hcz65_1 : w60.cell? ⟨gb271, 1, none⟩ = some (.int .i64 (-1)) := (blk_cell BK271.out 1).trans rfl
                   have hcz65_2 : w60.cell? ⟨gb271, 2, none⟩ = some (.bool t270) := (blk_cell BK271.out 2).trans rfl
                   have hfz65_0 := blk_frozen BK271.out 0; have hfz65_1 := blk_frozen BK271.out 1; have hfz65_2 := blk_frozen BK271.out 2
                   try go_wp2_with (first | ((with_reducible refine gate_builtin (b := .append) (xs := #[.tmp 76, .tmp 78]) rfl ?_); at_builtin; refine Kd.R_append k50 (w0 := w) w.heap.size rfl (.tmp 76) (.tmp 78) 36 50 (.agg #[(.int .i64 0), (.int .i64 0), (.bool false)]) 24 rfl Tryd.underlying36 info50 rfl (by decide) (by omega) u267000 x267000_2 (⟨((bt (rdOf ByteArray.empty t262 x41_2) (ji43)) - 97) % 256, G.mapGet y268 js51, t270⟩ : S50) [.int .i64 (((bt (rdOf ByteArray.empty t262 x41_2) (ji43)) - 97) % 256), .int .i64 (G.mapGet y268 js51), .bool t270] (fun k_ => k_ ≠ gb271) (fun _ => False) rfl ax12 ?aP (fun _ hk => hk.elim) ?aF ?aO ?aB ?aS ?aL ?_; (case aP => exact k50_mkM _ _ _ (⟨((bt (rdOf ByteArray.empty t262 x41_2) (ji43)) - 97) % 256, G.mapGet y268 js51, t270⟩ : S50)); (case aB => exact ax108); (case aF => exact (fun k_ hk => Kd.freshB (g := gb271) (o := .cells #[.int .i64 (((bt (rdOf ByteArray.empty t262 x41_2) (ji43)) - 97) % 256), .int .i64 (G.mapGet y268 js51), .bool t270] 50 (0, 0)) ax111 k_ hk)); (case aO => exact (by (with_reducible repeat (first | apply Kd.R_alloc | apply Kd.R_drewN | apply Kd.R_drew)); exact Kd.R_mono (Kd.R_far (p := ⟨gb271, 1, none⟩) (Kd.R_far (p := ⟨gb271, 0, none⟩) (Kd.R_mono HO_267000.out (fun k_ hk => (⟨hk, hk⟩ : _ ∧ k_ ≠ gb271))) (fun _ hk => hk.2) (.int .i64 (((bt (rdOf ByteArray.empty t262 x41_2) (ji43)) - 97) % 256))) (fun _ hk => hk.2) (.int .i64 (G.mapGet y268 js51))) (fun _ hk => hk.1))); (case aS => exact ax110); (case aL => have := LMc53.out; omega); intro v276 w66 ho hb hg hat; rw [← Ny275.out] at ho; have n0_ := Aside0.mk (Kd.R_over' (by (with_reducible repeat (first | apply Kd.R_alloc | apply Kd.R_drewN | apply Kd.R_drew)); exact (Kd.R_mono (Kd.R_far (p := ⟨gb271, 1, none⟩) (Kd.R_far (p := ⟨gb271, 0, none⟩) (Kd.R_types HO_39.out BK271.out (by decide)) (fun _ hk => hk.2) (.int .i64 (((bt (rdOf ByteArray.empty t262 x41_2) (ji43)) - 97) % 256))) (fun _ hk => hk.2) (.int .i64 (G.mapGet y268 js51))) (fun _ h_ => h_.1))) (Kd.R_typed (by (with_reducible repeat (first | apply Kd.R_alloc | apply Kd.R_drewN | apply Kd.R_drew)); exact (Kd.R_mono (Kd.R_far (p := ⟨gb271, 1, none⟩) (Kd.R_far (p := ⟨gb271, 0, none⟩) (Kd.R_mono HO_267000.out (fun k_ hk => (⟨hk, hk⟩ : _ ∧ k_ ≠ gb271))) (fun _ hk => hk.2) (.int .i64 (((bt (rdOf ByteArray.empty t262 x41_2) (ji43)) - 97) % 256))) (fun _ hk => hk.2) (.int .i64 (G.mapGet y268 js51))) (fun _ h_ => h_.1)))) (by decide) hg); have n1_ := Aside0.mk (blk_grown (g := gb254) (o := .cells #[.slice none 0 0] 38 (0, 0)) (by (with_reducible repeat (first | refine blk_drewN ?_ _ | refine blk_drew ?_ | refine blk_alloc ?_ _)); refine blk_far ?_ NB254_271.out _; (with_reducible repeat (first | refine blk_drewN ?_ _ | refine blk_drew ?_ | refine blk_alloc ?_ _)); refine blk_far ?_ NB254_271.out _; (with_reducible repeat (first | refine blk_drewN ?_ _ | refine blk_drew ?_ | refine blk_alloc ?_ _)); exact BK254.out) hg (Kd.R_ne HO_267000.out BK254.out (by decide))); have n2_ := Aside0.mk (blk_grown (g := gb266) (o := .cells #[u267000] 38 (0, 0)) (by (with_reducible repeat (first | refine blk_drewN ?_ _ | refine blk_drew ?_ | refine blk_alloc ?_ _)); refine blk_far ?_ NB266_271.out _; (with_reducible repeat (first | refine blk_drewN ?_ _ | refine blk_drew ?_ | refine blk_alloc ?_ _)); refine blk_far ?_ NB266_271.out _; (with_reducible repeat (first | refine blk_drewN ?_ _ | refine blk_drew ?_ | refine blk_alloc ?_ _)); exact BK266.out) hg (Kd.R_ne HO_267000.out BK266.out (by decide))); have n3_ := Aside0.mk (G.MapIs.grown (show G.MapIs Tryd.prog 9 3 _ gm265 y268 from by repeat (first | (with_reducible first | exact MP265.out | apply G.MapIs.alloc | apply G.MapIs.drewN | apply G.MapIs.drew | refine G.MapIs.set ?_ (G.MapIs.ne_blk MP265.out BK271.out) _ _ | refine G.MapIs.set ?_ (G.MapIs.ne_blk MP265.out BK271.out) _ _) | exact MP265.out)) hg (G.MapIs.ne_row MP265.out HO_267000.out)); have n4_ := Aside0.mk (blk_grown (g := gb271) (o := .cells #[.int .i64 (((bt (rdOf ByteArray.empty t262 x41_2) (ji43)) - 97) % 256), .int .i64 (G.mapGet y268 js51), .bool t270] 50 (0, 0)) ax111 hg (Kd.R_away HO_267000.out (fun _ hk => hk))); have n5_ := Aside0.mk (hb); have n6_ := Aside0.mk (ho); clear HO_39; clear BK254; clear BK266; clear MP265; clear BK271; clear HB; clear HO_267000; have HO_39 := n0_; have BK254 := n1_; have BK266 := n2_; have MP265 := n3_; have BK271 := n4_; have HB := n5_; have HO277 := n6_; clear n0_ n1_ n2_ n3_ n4_ n5_ n6_; clear ho hb hg hat; obtain ⟨Ao67, co67, eo67⟩ := Kd.R_slice HO277.out; subst eo67; have hcz68_0 : w66.cell? ⟨gb266, 0, none⟩ = some (u267000) := (blk_cell BK266.out 0).trans rfl; have hfz68_0 := blk_frozen BK266.out 0))
                   go_roundg k2
                   case measure => have := HK1.out; have := HK2.out; omega
                   case rel => exact ⟨(wrap64 (x41_2 + 1)), (y268), (y275), (.slice Ao67 y275.length co67), ax15, H', ⟨by have := HK1.out; have := HK2.out; omega⟩, ⟨by (with_reducible repeat (first | apply Kd.R_alloc | apply Kd.R_drewN | apply Kd.R_drew)); exact Kd.R_mono (Kd.R_far (p := ⟨gb266, 0, none⟩) (Kd.R_types HO_39.out BK266.out (by decide)) (fun _ hk => hk.2) (.slice Ao67 y275.length co67)) (fun _ hk => trivial)⟩, ⟨by (with_reducible repeat (first | apply Kd.R_alloc | apply Kd.R_drewN | apply Kd.R_drew)); exact Kd.R_mono (Kd.R_far (p := ⟨gb266, 0, none⟩) (Kd.R_types HO277.out BK266.out (by decide)) (fun _ hk => hk.2) (.slice Ao67 y275.length co67)) (fun _ hk => trivial)⟩, ⟨by (with_reducible repeat (first | refine blk_drewN ?_ _ | refine blk_drew ?_ | refine blk_alloc ?_ _)); refine blk_far ?_ NB254_266.out _; (with_reducible repeat (first | refine blk_drewN ?_ _ | refine blk_drew ?_ | refine blk_alloc ?_ _)); exact BK254.out⟩, ⟨by (with_reducible repeat (first | refine blk_drewN ?_ _ | refine blk_drew ?_ | refine blk_alloc ?_ _)); refine blk_put (cs := #[u267000]) ?_ 0 _ rfl; (with_reducible repeat (first | refine blk_drewN ?_ _ | refine blk_drew ?_ | refine blk_alloc ?_ _)); exact BK266.out⟩, ⟨show G.MapIs Tryd.prog 9 3 _ gm265 y268 from by repeat (first | (with_reducible first | exact MP265.out | apply G.MapIs.alloc | apply G.MapIs.drewN | apply G.MapIs.drew | refine G.MapIs.set ?_ (G.MapIs.ne_blk MP265.out BK266.out) _ _) | exact MP265.out)⟩, ⟨by repeat (first | (with_reducible first | exact HB.out | apply below_alloc | apply pw_below_drewN | apply below_drew1 | refine below_set ?_ GE254.out | refine below_set ?_ GE266.out | refine below_set ?_ GE271.out) | exact HB.out)⟩⟩
                  ·rw [if_neg c53] at H
                   exact absurd H (by simp)
                 ·rw [if_neg c52] at H
                  exact absurd H (by simp)
                ·rw [if_neg c50] at H
                 exact absurd H (by simp)
               ·rw [if_neg c45] at H
                exact absurd H (by simp)
              ·rw [if_neg c44] at H
               exact absurd H (by simp)
            ·rw [if_neg c29] at H
             exact absurd H (by simp)
           ·rw [if_neg c28] at H
            exact absurd H (by simp)
          ·rw [if_neg c27] at H
           exact absurd H (by simp)
         ·rw [if_neg c26] at H
          exact absurd H (by simp)
        ·rw [if_neg c25] at H
         exact absurd H (by simp)
       ·rw [if_neg c24] at H
        exact absurd H (by simp)
      ·rw [if_neg c23] at H
       have c23b0 : decide (x41_2 < (t262.length : Int)) = false := decide_eq_false c23
       clear c23
       obtain rfl := Option.some.inj H
       have hnb69 := NB266_254.out; have hnc69 := NB254_266.out
       have hcz70_0 : wr.cell? ⟨gb266, 0, none⟩ = some (u267000) := (blk_cell BK266.out 0).trans rfl
       have hfz70_0 := blk_frozen BK266.out 0
       obtain ⟨Ao71, co71, eo71⟩ := Kd.R_slice HO_267000.out
       subst eo71
       have hcz72_0 : wr.cell? ⟨gb254, 0, none⟩ = some (.slice none 0 0) := (blk_cell BK254.out 0).trans rfl
       have hfz72_0 := blk_frozen BK254.out 0
       go_wp2
       refine bodyPost_ret (results_cell_row rfl _ _ gb254 38 #[.slice Ao71 x267000_2.length co71] (0, 0) _ rfl (by (with_reducible repeat (first | refine blk_drewN ?_ _ | refine blk_drew ?_ | refine blk_alloc ?_ _)); refine blk_put (cs := #[.slice none 0 0]) ?_ 0 _ rfl; (with_reducible repeat (first | refine blk_drewN ?_ _ | refine blk_drew ?_ | refine blk_alloc ?_ _)); exact BK254.out) Tryd.underlying38 rfl (by kernel_rfl)) rfl ?_
       exact ⟨_, by first | rfl | (simp [errW_none, errW_some] <;> rfl) | (simp [*, errW_none, errW_some] <;> rfl), by (with_reducible repeat (first | apply Kd.R_alloc | apply Kd.R_drewN | apply Kd.R_drew)); exact Kd.R_mono (Kd.R_far (p := ⟨gb254, 0, none⟩) (Kd.R_types HO_267000.out BK254.out (by decide)) (fun _ hk => hk.2) (.slice Ao71 x267000_2.length co71)) (fun _ hk => trivial), by repeat (first | (with_reducible first | exact HB.out | apply below_alloc | apply pw_below_drewN | apply below_drew1 | refine below_set ?_ GE254.out | refine below_set ?_ GE266.out) | exact HB.out)⟩

end Go.Proofs.YtmecniejpoopfaaDoor.X

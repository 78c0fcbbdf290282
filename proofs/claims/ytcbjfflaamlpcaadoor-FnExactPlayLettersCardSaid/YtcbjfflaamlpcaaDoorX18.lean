-- By gen.py (the session's own program over the kit's printer): functions of the program, each with its contract. Lean checks it.
import Derived.Test.YtcbjfflaamlpcaaDoorX0
import Derived.Test.YtcbjfflaamlpcaaDoorX4
import Derived.Test.YtcbjfflaamlpcaaDoorX17
namespace Go.Proofs.YtcbjfflaamlpcaaDoor.X
open Go.RowKit Go.Proofs.YtcbjfflaamlpcaaDoorW.PrintWords Go.Proofs.YtcbjfflaamlpcaaDoorW.PrintLast Go.Proofs.YtcbjfflaamlpcaaDoorW.PrintMore
attribute [local go_sem] max2_int min2_int max_two min_two max_three min_three max_four min_four   -- for this text's walks alone
set_option linter.unusedVariables false
set_option linter.unusedSimpArgs false

/-! ### impl_trieOf: function 55 -/
mutual
def impl_trieOf.l0 : Nat → List ByteArray → List ByteArray → List ByteArray → Int → Int → Option ((List (S53)))
 | 0, _, _, _, _, _ => none
 | k + 1, x0, x3, x15, x16, x17 => if x17 < x16 then (if 0 ≤ x17 then (if x17 < (x15.length : Int) then (impl_trieOf.l1 k x0 x3 (rdOf ByteArray.empty x15 x17) x15 x16 x17 ((rdOf ByteArray.empty x15 x17).size : Int) 0) else (none)) else (none)) else ((impl_set.f x3).bind fun t389 => (impl_trieOf.l2 k x0 t389 (t389.length : Int) 0 ([] : List (ByteArray × Int)) ([] : List (S53))))
def impl_trieOf.l1 : Nat → List ByteArray → List ByteArray → ByteArray → List ByteArray → Int → Int → Int → Int → Option ((List (S53)))
 | 0, _, _, _, _, _, _, _, _ => none
 | k + 1, x0, x3, x5, x15, x16, x17, x22, x23 => if x23 < x22 then (if 0 ≤ (wrap64 (x23 + 1)) then (if (wrap64 (x23 + 1)) ≤ (x5.size : Int) then (if x3.length < 8796093022208 then (impl_trieOf.l1 k x0 (x3 ++ [x5.extract 0 ((wrap64 (x23 + 1)) : Int).toNat]) x5 x15 x16 x17 x22 (wrap64 (x23 + 1))) else (none)) else (none)) else (none)) else (impl_trieOf.l0 k x0 x3 x15 x16 (wrap64 (x17 + 1)))
def impl_trieOf.l2 : Nat → List ByteArray → List ByteArray → Int → Int → List (ByteArray × Int) → List (S53) → Option ((List (S53)))
 | 0, _, _, _, _, _, _ => none
 | k + 1, x0, x39, x40, x41, x393000, x394000 => if x41 < x40 then (if 0 ≤ x41 then (if x41 < (x39.length : Int) then (if x393000.length < 9223372036854775807 then (if (rdOf ByteArray.empty x39 x41).size ≤ 9223372036854775807 then (if -9223372036854775808 ≤ x41 then (if x41 ≤ 9223372036854775807 then ((some ((rdOf ByteArray.empty x39 x41, x41) :: x393000 : List (ByteArray × Int))).bind fun y395 => ((slices_BinarySearch_string_string.f k x0 (rdOf ByteArray.empty x39 x41)).bind fun bt396 => (if (rdOf ByteArray.empty x39 x41).toList = ([] : List UInt8) then (if x394000.length < 5864062014805 then (impl_trieOf.l2 k x0 x39 x40 (wrap64 (x41 + 1)) y395 (x394000 ++ [(⟨(-1), (-1), bt396.2⟩ : S53)])) else (none)) else (if 0 ≤ (wrap64 (((rdOf ByteArray.empty x39 x41).size : Int) - 1)) then (if (wrap64 (((rdOf ByteArray.empty x39 x41).size : Int) - 1)) < ((rdOf ByteArray.empty x39 x41).size : Int) then (if (wrap64 (((rdOf ByteArray.empty x39 x41).size : Int) - 1)) ≤ ((rdOf ByteArray.empty x39 x41).size : Int) then (if ((rdOf ByteArray.empty x39 x41).extract 0 ((wrap64 (((rdOf ByteArray.empty x39 x41).size : Int) - 1)) : Int).toNat).size ≤ 9223372036854775807 then (if x394000.length < 5864062014805 then (impl_trieOf.l2 k x0 x39 x40 (wrap64 (x41 + 1)) y395 (x394000 ++ [(⟨((bt (rdOf ByteArray.empty x39 x41) (wrap64 (((rdOf ByteArray.empty x39 x41).size : Int) - 1))) - 97) % 256, G.mapGet y395 ((rdOf ByteArray.empty x39 x41).extract 0 ((wrap64 (((rdOf ByteArray.empty x39 x41).size : Int) - 1)) : Int).toNat), bt396.2⟩ : S53)])) else (none)) else (none)) else (none)) else (none)) else (none))))) else (none)) else (none)) else (none)) else (none)) else (none)) else (none)) else (some x394000)
end
def impl_trieOf.f (k : Nat) (l0 : List ByteArray) : Option ((List (S53))) := impl_trieOf.l0 k l0 (([(⟨#[]⟩ : ByteArray)] : List ByteArray)) l0 (l0.length : Int) 0
theorem impl_trieOf.mono_l : ∀ k, (∀ y0 y1 y2 y3 y4, LeO (impl_trieOf.l0 k y0 y1 y2 y3 y4) (impl_trieOf.l0 (k + 1) y0 y1 y2 y3 y4)) ∧ (∀ y0 y1 y2 y3 y4 y5 y6 y7, LeO (impl_trieOf.l1 k y0 y1 y2 y3 y4 y5 y6 y7) (impl_trieOf.l1 (k + 1) y0 y1 y2 y3 y4 y5 y6 y7)) ∧ (∀ y0 y1 y2 y3 y4 y5, LeO (impl_trieOf.l2 k y0 y1 y2 y3 y4 y5) (impl_trieOf.l2 (k + 1) y0 y1 y2 y3 y4 y5))
 | 0 => ⟨fun _ _ _ _ _ r h => by simp [impl_trieOf.l0] at h, fun _ _ _ _ _ _ _ _ r h => by simp [impl_trieOf.l1] at h, fun _ _ _ _ _ _ r h => by simp [impl_trieOf.l2] at h⟩
 | k + 1 => by
  obtain ⟨ih0, ih1, ih2⟩ := impl_trieOf.mono_l k
  refine ⟨?_, ?_, ?_⟩
  ·intro y0 y1 y2 y3 y4
   unfold impl_trieOf.l0
   repeat' first
   | (with_reducible exact ih0 _ _ _ _ _)
   | (with_reducible exact ih1 _ _ _ _ _ _ _ _)
   | (with_reducible exact ih2 _ _ _ _ _ _)
   | (with_reducible exact slices_BinarySearch_string_string.mono _ _ _)
   | (with_reducible exact LeO.refl _)
   | (with_reducible exact LeO.none _)
   | (with_reducible refine LeO.ite ?_ ?_)
   | (with_reducible refine LeO.bind ?_ (fun _ => ?_))
   | exact ih0 _ _ _ _ _
   | exact ih1 _ _ _ _ _ _ _ _
   | exact ih2 _ _ _ _ _ _
   | exact slices_BinarySearch_string_string.mono _ _ _
   | exact LeO.none _
   | refine LeO.ite ?_ ?_
   | refine LeO.bind ?_ (fun _ => ?_)
  ·intro y0 y1 y2 y3 y4 y5 y6 y7
   unfold impl_trieOf.l1
   repeat' first
   | (with_reducible exact ih0 _ _ _ _ _)
   | (with_reducible exact ih1 _ _ _ _ _ _ _ _)
   | (with_reducible exact ih2 _ _ _ _ _ _)
   | (with_reducible exact slices_BinarySearch_string_string.mono _ _ _)
   | (with_reducible exact LeO.refl _)
   | (with_reducible exact LeO.none _)
   | (with_reducible refine LeO.ite ?_ ?_)
   | (with_reducible refine LeO.bind ?_ (fun _ => ?_))
   | exact ih0 _ _ _ _ _
   | exact ih1 _ _ _ _ _ _ _ _
   | exact ih2 _ _ _ _ _ _
   | exact slices_BinarySearch_string_string.mono _ _ _
   | exact LeO.none _
   | refine LeO.ite ?_ ?_
   | refine LeO.bind ?_ (fun _ => ?_)
  ·intro y0 y1 y2 y3 y4 y5
   unfold impl_trieOf.l2
   repeat' first
   | (with_reducible exact ih0 _ _ _ _ _)
   | (with_reducible exact ih1 _ _ _ _ _ _ _ _)
   | (with_reducible exact ih2 _ _ _ _ _ _)
   | (with_reducible exact slices_BinarySearch_string_string.mono _ _ _)
   | (with_reducible exact LeO.refl _)
   | (with_reducible exact LeO.none _)
   | (with_reducible refine LeO.ite ?_ ?_)
   | (with_reducible refine LeO.bind ?_ (fun _ => ?_))
   | exact ih0 _ _ _ _ _
   | exact ih1 _ _ _ _ _ _ _ _
   | exact ih2 _ _ _ _ _ _
   | exact slices_BinarySearch_string_string.mono _ _ _
   | exact LeO.none _
   | refine LeO.ite ?_ ?_
   | refine LeO.bind ?_ (fun _ => ?_)
theorem impl_trieOf.mono : ∀ a0 k, LeO (impl_trieOf.f k a0) (impl_trieOf.f (k + 1) a0) := by
 intro a0 k
 obtain ⟨ih0, ih1, ih2⟩ := impl_trieOf.mono_l k
 unfold impl_trieOf.f
 repeat' first
   | (with_reducible exact ih0 _ _ _ _ _)
   | (with_reducible exact ih1 _ _ _ _ _ _ _ _)
   | (with_reducible exact ih2 _ _ _ _ _ _)
   | (with_reducible exact slices_BinarySearch_string_string.mono _ _ _)
   | (with_reducible exact LeO.refl _)
   | (with_reducible exact LeO.none _)
   | (with_reducible refine LeO.ite ?_ ?_)
   | (with_reducible refine LeO.bind ?_ (fun _ => ?_))
   | exact ih0 _ _ _ _ _
   | exact ih1 _ _ _ _ _ _ _ _
   | exact ih2 _ _ _ _ _ _
   | exact slices_BinarySearch_string_string.mono _ _ _
   | exact LeO.none _
   | refine LeO.ite ?_ ?_
   | refine LeO.bind ?_ (fun _ => ?_)
def impl_trieOf.T20 : Bool × List (List Nat × List Nat) := (true, [([], []), ([], []), ([1], [1]), ([2], [2]), ([0, 3], [0, 3]), ([4], [4]), ([5], [5]), ([], []), ([], []), ([], []), ([9], [9]), ([10], [10]), ([8, 11], [8, 11]), ([7, 12], [7, 12]), ([0, 1, 2, 3, 4, 5, 6], []), ([14, 6, 0, 1, 2, 3, 4, 5, 6], [6, 14]), ([0, 1, 2, 3, 4, 5, 6, 7, 8, 9, 10, 11, 12, 13, 14, 15], []), ([16, 13, 15, 0, 1, 2, 3, 4, 5, 6, 7, 8, 9, 10, 11, 12, 13, 14, 15], [13, 16])])
def impl_trieOf.B20 : List Nat := [0, 0, 2, 6, 15, 31, 63, 0, 0, 0, 512, 1536, 3840, 8064, 127, 16511, 65535, 131071]
theorem impl_trieOf.tab20 : rtab .any (opsOf Tryd.f55 20) = impl_trieOf.T20 := by kernel_rfl
theorem impl_trieOf.bits20 : waitsOk impl_trieOf.T20.2 impl_trieOf.B20 = true := by kernel_rfl
set_option maxHeartbeats 8000000 in
set_option maxRecDepth 100000 in
theorem impl_trieOf.calls (k : Nat) (A0 : Option Addr) (c0 : Nat) (l0 : List ByteArray) (r : List (S53)) (w : World) (hr0 : Kd.C Kd.string w A0 l0.length l0) (hc0 : l0.length ≤ c0) (h : impl_trieOf.f k l0 = some r) :
  Calls Tryd.prog 55 #[.slice A0 l0.length c0] w fun e w' => ∃ v0_ : Value, e = .returned (.agg #[v0_]) ∧ Kd.R k53 53 w' w.heap.size (fun _ => True) v0_ r ∧ Below w.heap.size w w' := by
 have hu30 := Tryd.underlying30; have hu53 := Tryd.underlying53; have HR0 := Aside0.mk hr0; have HC0 := Aside0.mk hc0; clear hr0 hc0; have HB := Aside0.mk (Below.refl w.heap.size w)
 have H : (impl_trieOf.l0 k l0 (([(⟨#[]⟩ : ByteArray)] : List ByteArray)) l0 (l0.length : Int) 0) = some r := h
 clear h
 obtain ⟨y382, hy382⟩ : ∃ y_ : List ByteArray, y_ = (([(⟨#[]⟩ : ByteArray)] : List ByteArray)) := ⟨_, rfl⟩
 replace H : (impl_trieOf.l0 k l0 y382 l0 (l0.length : Int) 0) = some r := by first | (rw [hy382]; with_reducible exact H) | (have H2_ := (Option.bind_some _ _).symm.trans H; rw [hy382]; with_reducible exact H2_) | (have H2_ := (Option.bind_some _ _).symm.trans H; with_reducible exact H2_) | with_reducible exact H | (rw [hy382]; exact H) | exact H
 have Ny382 := Aside0.mk hy382; clear hy382
 have H' := Aside0.mk H
 clear H
 go_enter Tryd.func55, Tryd.ntmps55
 go_wp2_with (first | ((with_reducible refine gate_dst (N := 2) rfl ?_); refine box_event ?hg (N := 2) ?hd (cs := #[.slice none 0 0]) (t := 30) ?hr ?_; (case hd => rfl); (case hg => rfl); (case hr => exact ax22); intro gb381 hg w2 hbox hb; have n0_ := Aside0.mk (below_step ax24 hb); have n1_ := Aside0.mk (hbox); have n2_ := Aside0.mk ((ax58 : w.heap.size ≤ gb381)); have n3_ := Aside0.mk ((ax58 : w.heap.size ≤ gb381)); clear HB; have HB := n0_; have BK381 := n1_; have GW381 := n2_; have GE381 := n3_; clear n0_ n1_ n2_ n3_; clear hb hbox hg) | ((with_reducible refine gate_dst (N := 14) rfl ?_); refine Kd.R_lit Kd.string _ 9 ?hg (N := 14) ?hd (xs := ([(⟨#[]⟩ : ByteArray)] : List ByteArray)) (inner := [.string (⟨#[]⟩ : ByteArray)]) (ok := fun _ => True) (okp := fun _ => True) ?hr ?hp (fun _ hk => hk) trivial (Below.refl _ _) (Nat.le_refl _) (by simp) ?_; (case hd => rfl); (case hg => rfl); (case hr => exact ax22); (case hp => exact ax79); intro v383 w3 ho4 hb hg_ hnew_; clear hg_ hnew_; (first | rw [← Ny382.out] at ho4 | (simp only [Int.reduceToNat] at ho4; rw [← Ny382.out] at ho4)); have n0_ := Aside0.mk (Kd.R_lower ho4 (below_size ax157)); have n1_ := Aside0.mk (blk_below (g := gb381) (o := .cells #[.slice none 0 0] 30 (0, 0)) ax158 hb); have n2_ := Aside0.mk (below_step ax157 hb); clear BK381; clear HB; have HO384 := n0_; have BK381 := n1_; have HB := n2_; clear n0_ n1_ n2_; clear hb ho4))
 go_loopg [3, 17] k (fun kq v3 v17 w' => ∃ (x3_1 : List ByteArray) (x17_1 : Int), v17 = .int .i64 x17_1 ∧ Aside0 (impl_trieOf.l0 kq l0 x3_1 l0 (l0.length : Int) x17_1 = some r) ∧ Aside0 (kq ≤ k) ∧ Aside0 (Kd.R Kd.string 9 w' w.heap.size (fun _ => True) v3 x3_1) ∧ Aside0 (w'.heap[gb381]? = some (.cells #[(.slice none 0 0)] 30 (0, 0))) ∧ Aside0 (Below w.heap.size w w'))
 case atStart => exact ⟨(y382), (0), ax20, H', ⟨Nat.le_refl _⟩, ⟨by (with_reducible repeat (first | apply Kd.R_alloc | apply Kd.R_drewN | apply Kd.R_drew)); exact HO384.out⟩, ⟨by (with_reducible repeat (first | refine blk_drewN ?_ _ | refine blk_drew ?_ | refine blk_alloc ?_ _)); exact BK381.out⟩, ⟨by repeat (first | (with_reducible first | exact HB.out | apply below_alloc | apply pw_below_drewN | apply below_drew1 | refine below_set ?_ GE381.out) | exact HB.out)⟩⟩
 case round =>
  clear H'
  try clear p2
  obtain ⟨x3_1, x17_1, rfl, HA, HK1, HO_3, BK381, HB⟩ := hrel
  cases gk with
  | zero => exact absurd HA.out (by simp [impl_trieOf.l0])
  | succ k1 =>
   have H := HA.out; clear HA
   simp only [impl_trieOf.l0] at H
   by_cases c5 : x17_1 < (l0.length : Int)
   ·rw [if_pos c5] at H
    have c5b0 : decide (x17_1 < (l0.length : Int)) = true := decide_eq_true c5
    clear c5
    by_cases c6 : 0 ≤ x17_1
    ·rw [if_pos c6] at H
     have c6b0 : decide (0 ≤ x17_1) = true := decide_eq_true c6
     clear c6
     by_cases c7 : x17_1 < (l0.length : Int)
     ·rw [if_pos c7] at H
      have c7b0 : decide (x17_1 < (l0.length : Int)) = true := decide_eq_true c7
      clear c7
      have H' := Aside0.mk H
      clear H
      have p385 : 0 ≤ (x17_1 : Int) := of_decide_eq_true ax21
      have q385 : x17_1 < (l0.length : Int) := of_decide_eq_true ax21
      obtain ⟨ad385, e385, hx385_0⟩ := Kd.at_string HR0.out x17_1 p385 q385
      cases e385; replace hx385_0 := (HB.out.cell (World.block_lt_of_cell? w _ hx385_0)).trans hx385_0; replace p385 := eq_true p385; replace q385 := eq_true q385
      go_wp2
      go_loopg [3, 23] k1 (fun kq v3 v23 w' => ∃ (x3_2 : List ByteArray) (x23_2 : Int), v23 = .int .i64 x23_2 ∧ Aside0 (impl_trieOf.l1 kq l0 x3_2 (rdOf ByteArray.empty l0 x17_1) l0 (l0.length : Int) x17_1 ((rdOf ByteArray.empty l0 x17_1).size : Int) x23_2 = some r) ∧ Aside0 (kq ≤ k1) ∧ Aside0 (Kd.R Kd.string 9 w' w.heap.size (fun _ => True) v3 x3_2) ∧ Aside0 (w'.heap[gb381]? = some (.cells #[(.slice none 0 0)] 30 (0, 0))) ∧ Aside0 (Below w.heap.size w w'))
      case atStart => exact ⟨(x3_1), (0), ax20, H', ⟨Nat.le_refl _⟩, ⟨by (with_reducible repeat (first | apply Kd.R_alloc | apply Kd.R_drewN | apply Kd.R_drew)); exact HO_3.out⟩, ⟨by (with_reducible repeat (first | refine blk_drewN ?_ _ | refine blk_drew ?_ | refine blk_alloc ?_ _)); exact BK381.out⟩, ⟨by repeat (first | (with_reducible first | exact HB.out | apply below_alloc | apply pw_below_drewN | apply below_drew1 | refine below_set ?_ GE381.out) | exact HB.out)⟩⟩
      case round =>
       clear H'
       try clear p2
       try clear p3
       try clear q3
       try clear hx3
       try clear c5
       try clear c5b0
       try clear c6
       try clear c6b0
       try clear c7
       try clear c7b0
       try clear hx385_0
       try clear p2
       try clear p385
       try clear q385
       obtain ⟨x3_2, x23_2, rfl, HA, HK2, HO_3, BK381, HB⟩ := hrel
       cases gk with
       | zero => exact absurd HA.out (by simp [impl_trieOf.l1])
       | succ k2 =>
        have H := HA.out; clear HA
        simp only [impl_trieOf.l1] at H
        by_cases c8 : x23_2 < ((rdOf ByteArray.empty l0 x17_1).size : Int)
        ·rw [if_pos c8] at H
         have c8b0 : decide (x23_2 < ((rdOf ByteArray.empty l0 x17_1).size : Int)) = true := decide_eq_true c8
         clear c8
         obtain ⟨ji9, hji9⟩ : ∃ j_ : Int, (wrap64 (x23_2 + 1)) = j_ := ⟨_, rfl⟩
         replace H : (if 0 ≤ (ji9) then (if (ji9) ≤ ((rdOf ByteArray.empty l0 x17_1).size : Int) then (if x3_2.length < 8796093022208 then (impl_trieOf.l1 k2 l0 (x3_2 ++ [(rdOf ByteArray.empty l0 x17_1).extract 0 ((ji9) : Int).toNat]) (rdOf ByteArray.empty l0 x17_1) l0 (l0.length : Int) x17_1 ((rdOf ByteArray.empty l0 x17_1).size : Int) ji9) else (none)) else (none)) else (none)) = some r := by first | (rw [hji9] at H; exact H) | (simp only [hji9] at H ⊢; exact H)
         have hji9w : (IntKind.i64.wrap (x23_2 + 1)) = ji9 := (i64_w _).trans hji9
         by_cases c10 : 0 ≤ (ji9)
         ·rw [if_pos c10] at H
          have c10b0 := eq_true c10
          have c10b1 : decide (0 ≤ (ji9)) = true := decide_eq_true c10
          clear c10
          by_cases c11 : (ji9) ≤ ((rdOf ByteArray.empty l0 x17_1).size : Int)
          ·rw [if_pos c11] at H
           have c11b0 := eq_true c11
           have c11b1 : decide ((ji9) ≤ ((rdOf ByteArray.empty l0 x17_1).size : Int)) = true := decide_eq_true c11
           clear c11
           obtain ⟨js12, hjs12⟩ : ∃ j_ : ByteArray, ((rdOf ByteArray.empty l0 x17_1).extract 0 ((ji9) : Int).toNat) = j_ := ⟨_, rfl⟩
           replace H : (if x3_2.length < 8796093022208 then (impl_trieOf.l1 k2 l0 (x3_2 ++ [js12]) (rdOf ByteArray.empty l0 x17_1) l0 (l0.length : Int) x17_1 ((rdOf ByteArray.empty l0 x17_1).size : Int) ji9) else (none)) = some r := by first | (rw [hjs12] at H; exact H) | (simp only [hjs12] at H ⊢; exact H)
           by_cases c13 : x3_2.length < 8796093022208
           ·rw [if_pos c13] at H
            have LMc13 := Aside0.mk c13; clear c13
            obtain ⟨y386, hy386⟩ : ∃ y_ : List ByteArray, y_ = (x3_2 ++ [js12]) := ⟨_, rfl⟩
            replace H : (impl_trieOf.l1 k2 l0 y386 (rdOf ByteArray.empty l0 x17_1) l0 (l0.length : Int) x17_1 ((rdOf ByteArray.empty l0 x17_1).size : Int) ji9) = some r := by first | (rw [hy386]; with_reducible exact H) | (have H2_ := (Option.bind_some _ _).symm.trans H; rw [hy386]; with_reducible exact H2_) | (have H2_ := (Option.bind_some _ _).symm.trans H; with_reducible exact H2_) | with_reducible exact H | (rw [hy386]; exact H) | exact H
            have Ny386 := Aside0.mk hy386; clear hy386
            have H' := Aside0.mk H
            clear H
            go_wp2_with (first | ((with_reducible refine gate_builtin (b := .append) (xs := #[.tmp 26, .tmp 31]) rfl ?_); at_builtin; refine Kd.R_append Kd.string (w0 := w) w.heap.size rfl (.tmp 26) (.tmp 31) 34 9 (.string ⟨#[]⟩) 16 rfl Tryd.underlying34 info9 rfl (by decide) (by omega) u3 x3_2 js12 [.string js12] (fun _ => True) (fun _ => False) rfl rfl ?aP (fun _ hk => hk.elim) ?aF ?aO ?aB ?aS ?aL ?_; (case aP => exact rfl); (case aB => exact ax157); (case aF => exact ax27); (case aO => exact ax73); (case aS => exact (below_size ax157)); (case aL => have := LMc13.out; omega); intro v387 w14 ho hb hg hat; rw [← Ny386.out] at ho; have n0_ := Aside0.mk (blk_grown (g := gb381) (o := .cells #[.slice none 0 0] 30 (0, 0)) ax158 hg (Kd.R_ne HO_3.out BK381.out (by decide))); have n1_ := Aside0.mk (hb); have n2_ := Aside0.mk (ho); clear BK381; clear HB; clear HO_3; have BK381 := n0_; have HB := n1_; have HO388 := n2_; clear n0_ n1_ n2_; clear ho hb hg hat))
            go_roundg k2
            case measure => have := HK1.out; have := HK2.out; omega
            case rel => exact ⟨(y386), (ji9), (by first | rfl | (simp; done) | (simp only [← hji9] <;> (first | rfl | simp)) | (simp [*]; done)), H', ⟨by have := HK1.out; have := HK2.out; omega⟩, ⟨by (with_reducible repeat (first | apply Kd.R_alloc | apply Kd.R_drewN | apply Kd.R_drew)); exact HO388.out⟩, ⟨by (with_reducible repeat (first | refine blk_drewN ?_ _ | refine blk_drew ?_ | refine blk_alloc ?_ _)); exact BK381.out⟩, ⟨by repeat (first | (with_reducible first | exact HB.out | apply below_alloc | apply pw_below_drewN | apply below_drew1 | refine below_set ?_ GE381.out) | exact HB.out)⟩⟩
           ·rw [if_neg c13] at H
            exact absurd H (by simp)
          ·exact ax10
         ·exact ax13
        ·rw [if_neg c8] at H
         have c8b0 : decide (x23_2 < ((rdOf ByteArray.empty l0 x17_1).size : Int)) = false := decide_eq_false c8
         clear c8
         have H' := Aside0.mk H
         clear H
         go_wp2
         go_roundg k2
         case measure => have := HK1.out; have := HK2.out; omega
         case rel => exact ⟨(x3_2), (wrap64 (x17_1 + 1)), ax20, H', ⟨by have := HK1.out; have := HK2.out; omega⟩, ⟨by (with_reducible repeat (first | apply Kd.R_alloc | apply Kd.R_drewN | apply Kd.R_drew)); exact HO_3.out⟩, ⟨by (with_reducible repeat (first | refine blk_drewN ?_ _ | refine blk_drew ?_ | refine blk_alloc ?_ _)); exact BK381.out⟩, ⟨by repeat (first | (with_reducible first | exact HB.out | apply below_alloc | apply pw_below_drewN | apply below_drew1 | refine below_set ?_ GE381.out) | exact HB.out)⟩⟩
     ·exact ax2
    ·exact ax3
   ·rw [if_neg c5] at H
    have c5b0 : decide (x17_1 < (l0.length : Int)) = false := decide_eq_false c5
    clear c5; replace H := Option.bind_eq_some_iff.mp H
    obtain ⟨t389, A150, H⟩ := H
    replace H : (impl_trieOf.l2 k1 l0 t389 (t389.length : Int) 0 ([] : List (ByteArray × Int)) ([] : List (S53))) = some r := H
    have A15 := Aside0.mk A150; clear A150
    have H' := Aside0.mk H
    clear H
    obtain ⟨Ao16, co16, eo16⟩ := Kd.R_slice HO_3.out
    subst eo16
    go_wp2_with (first | ((with_reducible refine gate_callee (f := 30) rfl ?_); refine goesL_ (some 36) rfl rfl Tryd.func30 (by kernel_rfl) rfl #[.slice Ao16 x3_1.length co16] rfl ax30 ?_; (with_reducible refine (impl_set.calls _ _ x3_1 t389 _ ?side1 ?side2 A15.out).mono ?_); (case side1 => repeat (first | exact (Kd.R_reads' HO_3.out).2.2 | (with_reducible refine Kd.C_alloc ?_ _) | (with_reducible refine Kd.C_drewN ?_ _) | (with_reducible refine Kd.C_drew ?_))); (case side2 => exact (Kd.R_reads' HO_3.out).2.1); rintro e w17 ⟨v390, rfl, ho0, hb⟩; refine ⟨_, rfl, ?_⟩; have n0_ := Aside0.mk (Kd.R_elder' ax72 (Kd.R_base ho0) hb); have n1_ := Aside0.mk (Kd.R_lower (Kd.R_new' ho0 (Kd.R_lt ax72)) (below_size ax157)); have n2_ := Aside0.mk (blk_below (g := gb381) (o := .cells #[.slice none 0 0] 30 (0, 0)) ax158 hb); have n3_ := Aside0.mk (below_step ax157 hb); clear HO_3; clear BK381; clear HB; have HO_3 := n0_; have HO391 := n1_; have BK381 := n2_; have HB := n3_; clear n0_ n1_ n2_ n3_; (try clear hb); (try clear hb2); (try clear hk); (try clear hi); (try clear ho0)) | ((with_reducible refine gate_dst (N := 38) rfl ?_); refine G.mnew_event ?hg (N := 38) ?hd 9 3 ?hr ?_; (case hd => rfl); (case hg => rfl); (case hr => first | rfl | (go_simp; done) | (go_simp; rfl) | (simp [execOp, run_makeMap]; done)); intro gm392 hg w18 hmap hb; have n0_ := Aside0.mk (Kd.R_below ax72 hb); have n1_ := Aside0.mk (Kd.R_below ax159 hb); have n2_ := Aside0.mk (blk_below (g := gb381) (o := .cells #[.slice none 0 0] 30 (0, 0)) ax158 hb); have n3_ := Aside0.mk (below_step ax157 hb); have n4_ := Aside0.mk (hmap); have n5_ := Aside0.mk ((ax160 : w.heap.size ≤ gm392)); clear HO_3; clear HO391; clear BK381; clear HB; have HO_3 := n0_; have HO391 := n1_; have BK381 := n2_; have HB := n3_; have MP392 := n4_; have GM392 := n5_; clear n0_ n1_ n2_ n3_ n4_ n5_; clear hb hmap hg) | ((with_reducible refine gate_dst (N := 7) rfl ?_); refine box_event ?hg (N := 7) ?hd (cs := #[.slice none 0 0]) (t := 30) ?hr ?_; (case hd => rfl); (case hg => rfl); (case hr => exact ax22); intro gb393 hg w19 hbox hb; have n0_ := Aside0.mk (Kd.R_below ax72 hb); have n1_ := Aside0.mk (Kd.R_below ax159 hb); have n2_ := Aside0.mk (blk_below (g := gb381) (o := .cells #[.slice none 0 0] 30 (0, 0)) ax158 hb); have n3_ := Aside0.mk (G.MapIs.below (show G.MapIs Tryd.prog 9 3 _ gm392 ([] : List (ByteArray × Int)) from by repeat (first | (with_reducible first | exact MP392.out | apply G.MapIs.alloc | apply G.MapIs.drewN | apply G.MapIs.drew) | exact MP392.out)) hb); have n4_ := Aside0.mk (below_step ax157 hb); have n5_ := Aside0.mk (hbox); have n6_ := Aside0.mk ((ax160 : w.heap.size ≤ gb393)); have n7_ := Aside0.mk ((ax160 : w.heap.size ≤ gb393)); have n8_ := Aside0.mk ((ax161 : gb381 ≠ gb393)); have n9_ := Aside0.mk ((ax162 : gb393 ≠ gb381)); clear HO_3; clear HO391; clear BK381; clear MP392; clear HB; have HO_3 := n0_; have HO391 := n1_; have BK381 := n2_; have MP392 := n3_; have HB := n4_; have BK393 := n5_; have GW393 := n6_; have GE393 := n7_; have NB381_393 := n8_; have NB393_381 := n9_; clear n0_ n1_ n2_ n3_ n4_ n5_ n6_ n7_ n8_ n9_; clear hb hbox hg; have hnb20 := NB393_381.out; have hnc20 := NB381_393.out; have hcz21_0 : w19.cell? ⟨gb393, 0, none⟩ = some (.slice none 0 0) := (blk_cell BK393.out 0).trans rfl; have hfz21_0 := blk_frozen BK393.out 0; obtain ⟨Ao22, co22, eo22⟩ := Kd.R_slice HO391.out; subst eo22))
    go_loopg [41] k1 (fun kq v41 w' => ∃ (x41_2 : Int) (x393000_2 : List (ByteArray × Int)) (x394000_2 : List (S53)) (u394000 : Value), v41 = .int .i64 x41_2 ∧ Aside0 (impl_trieOf.l2 kq l0 t389 (t389.length : Int) x41_2 x393000_2 x394000_2 = some r) ∧ Aside0 (kq ≤ k1) ∧ Aside0 (Kd.R Kd.string 9 w' w.heap.size (fun _ => True) (.slice Ao22 t389.length co22) t389) ∧ Aside0 (Kd.R k53 53 w' w.heap.size (fun _ => True) u394000 x394000_2) ∧ Aside0 (w'.heap[gb381]? = some (.cells #[(.slice none 0 0)] 30 (0, 0))) ∧ Aside0 (w'.heap[gb393]? = some (.cells #[u394000] 30 (0, 0))) ∧ Aside0 (G.MapIs Tryd.prog 9 3 w' gm392 x393000_2) ∧ Aside0 (Below w.heap.size w w'))
    case atStart => exact ⟨(0), (([] : List (ByteArray × Int))), (([] : List (S53))), (.slice none 0 0), ax20, H', ⟨Nat.le_refl _⟩, ⟨by (with_reducible repeat (first | apply Kd.R_alloc | apply Kd.R_drewN | apply Kd.R_drew)); exact Kd.R_mono (Kd.R_far (p := ⟨gb393, 0, none⟩) (Kd.R_types HO391.out BK393.out (by decide)) (fun _ hk => hk.2) (.slice none 0 0)) (fun _ hk => trivial)⟩, ⟨by first | exact Kd.R_nil _ _ _ _ _ | exact Kd.N_nil _ _ _ _ _ | exact Kd.V_nil _ _ _ _ _ | exact Kd.Q_nil _ _ _ _ _ | exact Kd.S_nil _ _ _ _ _⟩, ⟨by (with_reducible repeat (first | refine blk_drewN ?_ _ | refine blk_drew ?_ | refine blk_alloc ?_ _)); refine blk_far ?_ NB381_393.out _; (with_reducible repeat (first | refine blk_drewN ?_ _ | refine blk_drew ?_ | refine blk_alloc ?_ _)); exact BK381.out⟩, ⟨by (with_reducible repeat (first | refine blk_drewN ?_ _ | refine blk_drew ?_ | refine blk_alloc ?_ _)); refine blk_put (cs := #[.slice none 0 0]) ?_ 0 _ rfl; (with_reducible repeat (first | refine blk_drewN ?_ _ | refine blk_drew ?_ | refine blk_alloc ?_ _)); exact BK393.out⟩, ⟨show G.MapIs Tryd.prog 9 3 _ gm392 ([] : List (ByteArray × Int)) from by repeat (first | (with_reducible first | exact MP392.out | apply G.MapIs.alloc | apply G.MapIs.drewN | apply G.MapIs.drew | refine G.MapIs.set ?_ (G.MapIs.ne_blk MP392.out BK393.out) _ _) | exact MP392.out)⟩, ⟨by repeat (first | (with_reducible first | exact HB.out | apply below_alloc | apply pw_below_drewN | apply below_drew1 | refine below_set ?_ GE381.out | refine below_set ?_ GE393.out) | exact HB.out)⟩⟩
    case round =>
     clear H'
     try clear c1
     try clear c2
     try clear p2
     try clear c3
     try clear p3
     try clear q3
     try clear hx3
     try clear c5
     try clear c5b0
     try clear c6
     try clear c6b0
     try clear p6
     try clear c7
     try clear c7b0
     try clear c8
     try clear c8b0
     try clear c10
     try clear c10b0
     try clear c10b1
     try clear c11
     try clear c11b0
     try clear c11b1
     try clear c13
     try clear c20
     try clear hcz21_0
     try clear hfz21_0
     try clear hx385_0
     try clear p2
     try clear p3
     try clear p385
     try clear q3
     try clear q385
     obtain ⟨x41_2, x393000_2, x394000_2, u394000, rfl, HA, HK2, HO_39, HO_394000, BK381, BK393, MP392, HB⟩ := hrel
     cases gk with
     | zero => exact absurd HA.out (by simp [impl_trieOf.l2])
     | succ k2 =>
      have H := HA.out; clear HA
      simp only [impl_trieOf.l2] at H
      by_cases c23 : x41_2 < (t389.length : Int)
      ·rw [if_pos c23] at H
       have c23b0 : decide (x41_2 < (t389.length : Int)) = true := decide_eq_true c23
       clear c23
       by_cases c24 : 0 ≤ x41_2
       ·rw [if_pos c24] at H
        have c24b0 : decide (0 ≤ x41_2) = true := decide_eq_true c24
        clear c24
        by_cases c25 : x41_2 < (t389.length : Int)
        ·rw [if_pos c25] at H
         have c25b0 : decide (x41_2 < (t389.length : Int)) = true := decide_eq_true c25
         clear c25
         by_cases c26 : x393000_2.length < 9223372036854775807
         ·rw [if_pos c26] at H
          have LMc26 := Aside0.mk c26; clear c26
          by_cases c27 : (rdOf ByteArray.empty t389 x41_2).size ≤ 9223372036854775807
          ·rw [if_pos c27] at H
           have LMc27 := Aside0.mk c27; clear c27
           by_cases c28 : -9223372036854775808 ≤ x41_2
           ·rw [if_pos c28] at H
            have LMc28 := Aside0.mk c28; clear c28
            by_cases c29 : x41_2 ≤ 9223372036854775807
            ·rw [if_pos c29] at H
             have LMc29 := Aside0.mk c29; clear c29
             obtain ⟨y395, hy395⟩ : ∃ y_ : List (ByteArray × Int), y_ = ((rdOf ByteArray.empty t389 x41_2, x41_2) :: x393000_2) := ⟨_, rfl⟩
             replace H : ((slices_BinarySearch_string_string.f k2 l0 (rdOf ByteArray.empty t389 x41_2)).bind fun bt396 => (if (rdOf ByteArray.empty t389 x41_2).toList = ([] : List UInt8) then (if x394000_2.length < 5864062014805 then (impl_trieOf.l2 k2 l0 t389 (t389.length : Int) (wrap64 (x41_2 + 1)) y395 (x394000_2 ++ [(⟨(-1), (-1), bt396.2⟩ : S53)])) else (none)) else (if 0 ≤ (wrap64 (((rdOf ByteArray.empty t389 x41_2).size : Int) - 1)) then (if (wrap64 (((rdOf ByteArray.empty t389 x41_2).size : Int) - 1)) < ((rdOf ByteArray.empty t389 x41_2).size : Int) then (if (wrap64 (((rdOf ByteArray.empty t389 x41_2).size : Int) - 1)) ≤ ((rdOf ByteArray.empty t389 x41_2).size : Int) then (if ((rdOf ByteArray.empty t389 x41_2).extract 0 ((wrap64 (((rdOf ByteArray.empty t389 x41_2).size : Int) - 1)) : Int).toNat).size ≤ 9223372036854775807 then (if x394000_2.length < 5864062014805 then (impl_trieOf.l2 k2 l0 t389 (t389.length : Int) (wrap64 (x41_2 + 1)) y395 (x394000_2 ++ [(⟨((bt (rdOf ByteArray.empty t389 x41_2) (wrap64 (((rdOf ByteArray.empty t389 x41_2).size : Int) - 1))) - 97) % 256, G.mapGet y395 ((rdOf ByteArray.empty t389 x41_2).extract 0 ((wrap64 (((rdOf ByteArray.empty t389 x41_2).size : Int) - 1)) : Int).toNat), bt396.2⟩ : S53)])) else (none)) else (none)) else (none)) else (none)) else (none)))) = some r := by first | (rw [hy395]; with_reducible exact H) | (have H2_ := (Option.bind_some _ _).symm.trans H; rw [hy395]; with_reducible exact H2_) | (have H2_ := (Option.bind_some _ _).symm.trans H; with_reducible exact H2_) | with_reducible exact H | (rw [hy395]; exact H) | exact H
             have Ny395 := Aside0.mk hy395; clear hy395; replace H := Option.bind_eq_some_iff.mp H
             obtain ⟨⟨t396, t397⟩, A300, H⟩ := H
             replace H : (if (rdOf ByteArray.empty t389 x41_2).toList = ([] : List UInt8) then (if x394000_2.length < 5864062014805 then (impl_trieOf.l2 k2 l0 t389 (t389.length : Int) (wrap64 (x41_2 + 1)) y395 (x394000_2 ++ [(⟨(-1), (-1), t397⟩ : S53)])) else (none)) else (if 0 ≤ (wrap64 (((rdOf ByteArray.empty t389 x41_2).size : Int) - 1)) then (if (wrap64 (((rdOf ByteArray.empty t389 x41_2).size : Int) - 1)) < ((rdOf ByteArray.empty t389 x41_2).size : Int) then (if (wrap64 (((rdOf ByteArray.empty t389 x41_2).size : Int) - 1)) ≤ ((rdOf ByteArray.empty t389 x41_2).size : Int) then (if ((rdOf ByteArray.empty t389 x41_2).extract 0 ((wrap64 (((rdOf ByteArray.empty t389 x41_2).size : Int) - 1)) : Int).toNat).size ≤ 9223372036854775807 then (if x394000_2.length < 5864062014805 then (impl_trieOf.l2 k2 l0 t389 (t389.length : Int) (wrap64 (x41_2 + 1)) y395 (x394000_2 ++ [(⟨((bt (rdOf ByteArray.empty t389 x41_2) (wrap64 (((rdOf ByteArray.empty t389 x41_2).size : Int) - 1))) - 97) % 256, G.mapGet y395 ((rdOf ByteArray.empty t389 x41_2).extract 0 ((wrap64 (((rdOf ByteArray.empty t389 x41_2).size : Int) - 1)) : Int).toNat), t397⟩ : S53)])) else (none)) else (none)) else (none)) else (none)) else (none))) = some r := H
             have A30 := Aside0.mk A300; clear A300
             by_cases c31 : (rdOf ByteArray.empty t389 x41_2).toList = ([] : List UInt8)
             ·rw [if_pos c31] at H
              have c31b0 : ((rdOf ByteArray.empty t389 x41_2).toList == ([] : List UInt8)) = true := beq_iff_eq.mpr c31
              have c31b1 : ((rdOf ByteArray.empty t389 x41_2).toList != ([] : List UInt8)) = false := bne_eq_false_iff_eq.mpr c31
              clear c31
              by_cases c32 : x394000_2.length < 5864062014805
              ·rw [if_pos c32] at H
               have LMc32 := Aside0.mk c32; clear c32
               obtain ⟨y399, hy399⟩ : ∃ y_ : List (S53), y_ = (x394000_2 ++ [(⟨(-1), (-1), t397⟩ : S53)]) := ⟨_, rfl⟩
               replace H : (impl_trieOf.l2 k2 l0 t389 (t389.length : Int) (wrap64 (x41_2 + 1)) y395 y399) = some r := by first | (rw [hy399]; with_reducible exact H) | (have H2_ := (Option.bind_some _ _).symm.trans H; rw [hy399]; with_reducible exact H2_) | (have H2_ := (Option.bind_some _ _).symm.trans H; with_reducible exact H2_) | with_reducible exact H | (rw [hy399]; exact H) | exact H
               have Ny399 := Aside0.mk hy399; clear hy399
               have H' := Aside0.mk H
               clear H
               have p394 : 0 ≤ (x41_2 : Int) := of_decide_eq_true ax21
               have q394 : x41_2 < (t389.length : Int) := of_decide_eq_true ax21
               obtain ⟨ad394, e394, hx394_0⟩ := Kd.at_string (Kd.R_reads' HO_39.out).2.2 x41_2 p394 q394
               cases e394; replace p394 := eq_true p394; replace q394 := eq_true q394
               go_wp2_with (first | ((with_reducible refine G.gate_mput (t := 84) (m := .tmp 46) (x := .tmp 47) (v := .tmp 48) rfl ?_); refine G.mput_event ?hg (t := 84) (m := .tmp 46) (x := .tmp 47) (v := .tmp 48) ?ho ?hd (b := gm392) (s := (rdOf ByteArray.empty t389 x41_2)) (i := x41_2) ?hm ?hx ?hv (K := 9) (E := 3) (c := x393000_2) ?ht ?hK ?hE ?hw ?hs ?hl ?hmap ?_; (case hg => rfl); (case ho => rfl); (case hd => rfl); (case hm => rfl); (case hx => rfl); (case hv => rfl); (case ht => exact Tryd.underlying84); (case hK => exact Tryd.underlying9); (case hE => exact Tryd.underlying3); (case hw => exact ax163); (case hs => exact LMc27.out); (case hl => exact LMc26.out); (case hmap => exact ax164); intro w33 hmap hg; rw [← Ny395.out] at hmap; have n0_ := Aside0.mk (Kd.R_grown1 ax165 rfl hg (G.MapIs.ne_row MP392.out HO_39.out)); have n1_ := Aside0.mk (Kd.R_grown1 ax166 rfl hg (G.MapIs.ne_row MP392.out HO_394000.out)); have n2_ := Aside0.mk (blk_grown (g := gb381) (o := .cells #[.slice none 0 0] 30 (0, 0)) ax158 hg (fun e_ => G.MapIs.ne_blk MP392.out BK381.out ax167)); have n3_ := Aside0.mk (blk_grown (g := gb393) (o := .cells #[u394000] 30 (0, 0)) ax168 hg (fun e_ => G.MapIs.ne_blk MP392.out BK393.out ax167)); have n4_ := Aside0.mk (hmap); have n5_ := Aside0.mk (Below.grown ax169 hg (below_size ax169) (fun k_ e_ => by cases e_; exact GM392.out)); clear HO_39; clear HO_394000; clear BK381; clear BK393; clear MP392; clear HB; have HO_39 := n0_; have HO_394000 := n1_; have BK381 := n2_; have BK393 := n3_; have MP392 := n4_; have HB := n5_; clear n0_ n1_ n2_ n3_ n4_ n5_; clear hmap hg) | ((with_reducible refine gate_callee (f := 68) rfl ?_); refine goesL_ (some 52) rfl rfl Tryd.func68 (by kernel_rfl) rfl #[.slice A0 l0.length c0, .string (rdOf ByteArray.empty t389 x41_2)] rfl ax30 ?_; (with_reducible refine (slices_BinarySearch_string_string.calls k2 _ _ l0 (rdOf ByteArray.empty t389 x41_2) t396 t397 _ ?side1 ?side2 A30.out).mono ?_); (case side1 => exact ax25); (case side2 => exact HC0.out); rintro e w' ⟨rfl, ⟨nd, rfl⟩⟩; refine ⟨_, rfl, ?_⟩; (try (rw [drewN_self w33]; generalize hq_ : World.drewN w33 _ = w33; have n0_ : Aside0 (Kd.R Kd.string 9 w33 w.heap.size (fun _ => True) (.slice (some ad394) t389.length co22) t389) := ⟨by rw [← hq_]; exact ax165⟩; have n1_ : Aside0 (Kd.R k53 53 w33 w.heap.size (fun _ => True) u394000 x394000_2) := ⟨by rw [← hq_]; exact ax166⟩; have n2_ : Aside0 (G.MapIs Tryd.prog 9 3 w33 gm392 y395) := ⟨by rw [← hq_]; exact show G.MapIs Tryd.prog 9 3 _ gm392 y395 from by repeat (first | (with_reducible first | exact MP392.out | apply G.MapIs.alloc | apply G.MapIs.drewN | apply G.MapIs.drew) | exact MP392.out)⟩; have n3_ : Aside0 (w33.heap[gb381]? = some (.cells #[.slice none 0 0] 30 (0, 0))) := ⟨by rw [← hq_]; exact ax158⟩; have n4_ : Aside0 (w33.heap[gb393]? = some (.cells #[u394000] 30 (0, 0))) := ⟨by rw [← hq_]; exact ax168⟩; have n5_ : Aside0 (Below w.heap.size w w33) := ⟨by rw [← hq_]; exact ax169⟩; clear HO_39 HO_394000 MP392 BK381 BK393 HB hq_; have HO_39 := n0_; have HO_394000 := n1_; have MP392 := n2_; have BK381 := n3_; have BK393 := n4_; have HB := n5_; clear n0_ n1_ n2_ n3_ n4_ n5_))) | ((with_reducible refine gate_dst (N := 13) rfl ?_); refine box_event ?hg (N := 13) ?hd (cs := #[.int .i64 0, .int .i64 0, .bool false]) (t := 53) ?hr ?_; (case hd => rfl); (case hg => rfl); (case hr => exact ax22); intro gb398 hg w34 hbox hb; have n0_ := Aside0.mk (Kd.R_below ax165 hb); have n1_ := Aside0.mk (Kd.R_below (Kd.R_elderB ax166 gb398 (Nat.le_of_eq hg.symm)) hb); have n2_ := Aside0.mk (blk_below (g := gb381) (o := .cells #[.slice none 0 0] 30 (0, 0)) ax158 hb); have n3_ := Aside0.mk (blk_below (g := gb393) (o := .cells #[u394000] 30 (0, 0)) ax168 hb); have n4_ := Aside0.mk (G.MapIs.below (show G.MapIs Tryd.prog 9 3 _ gm392 y395 from by repeat (first | (with_reducible first | exact MP392.out | apply G.MapIs.alloc | apply G.MapIs.drewN | apply G.MapIs.drew) | exact MP392.out)) hb); have n5_ := Aside0.mk (below_step ax169 hb); have n6_ := Aside0.mk (hbox); have n7_ := Aside0.mk ((ax170 : w.heap.size ≤ gb398)); have n8_ := Aside0.mk ((ax170 : w.heap.size ≤ gb398)); have n9_ := Aside0.mk ((ax161 : gb381 ≠ gb398)); have n10_ := Aside0.mk ((ax162 : gb398 ≠ gb381)); have n11_ := Aside0.mk ((ax171 : gb393 ≠ gb398)); have n12_ := Aside0.mk ((ax172 : gb398 ≠ gb393)); clear HO_39; clear HO_394000; clear BK381; clear BK393; clear MP392; clear HB; have HO_39 := n0_; have HO_394000 := n1_; have BK381 := n2_; have BK393 := n3_; have MP392 := n4_; have HB := n5_; have BK398 := n6_; have GW398 := n7_; have GE398 := n8_; have NB381_398 := n9_; have NB398_381 := n10_; have NB393_398 := n11_; have NB398_393 := n12_; clear n0_ n1_ n2_ n3_ n4_ n5_ n6_ n7_ n8_ n9_ n10_ n11_ n12_; clear hb hbox hg; have hnb35 := NB398_381.out; have hnc35 := NB381_398.out; have hnb36 := NB398_393.out; have hnc36 := NB393_398.out; have hcz37_0 : w34.cell? ⟨gb398, 0, none⟩ = some (.int .i64 0) := (blk_cell BK398.out 0).trans rfl; have hcz37_1 : w34.cell? ⟨gb398, 1, none⟩ = some (.int .i64 0) := (blk_cell BK398.out 1).trans rfl; have hcz37_2 : w34.cell? ⟨gb398, 2, none⟩ = some (.bool false) := (blk_cell BK398.out 2).trans rfl; have hfz37_0 := blk_frozen BK398.out 0; have hfz37_1 := blk_frozen BK398.out 1; have hfz37_2 := blk_frozen BK398.out 2; have hnb38 := NB393_381.out; have hnc38 := NB381_393.out; have hcz39_0 : w34.cell? ⟨gb393, 0, none⟩ = some (u394000) := (blk_cell BK393.out 0).trans rfl; have hfz39_0 := blk_frozen BK393.out 0) | ((with_reducible refine gate_builtin (b := .append) (xs := #[.tmp 76, .tmp 78]) rfl ?_); at_builtin; refine Kd.R_append k53 (w0 := w) w.heap.size rfl (.tmp 76) (.tmp 78) 28 53 (.agg #[(.int .i64 0), (.int .i64 0), (.bool false)]) 24 rfl Tryd.underlying28 info53 rfl (by decide) (by omega) u394000 x394000_2 (⟨(-1), (-1), t397⟩ : S53) [.int .i64 (-1), .int .i64 (-1), .bool t397] (fun k_ => k_ ≠ gb398) (fun _ => False) rfl ax22 ?aP (fun _ hk => hk.elim) ?aF ?aO ?aB ?aS ?aL ?_; (case aP => exact k53_mkM _ _ _ (⟨(-1), (-1), t397⟩ : S53)); (case aB => exact ax173); (case aF => exact (fun k_ hk => Kd.freshB (g := gb398) (o := .cells #[.int .i64 (-1), .int .i64 (-1), .bool t397] 53 (0, 0)) ax174 k_ hk)); (case aO => exact (by (with_reducible repeat (first | apply Kd.R_alloc | apply Kd.R_drewN | apply Kd.R_drew)); exact Kd.R_mono (Kd.R_far (p := ⟨gb398, 2, none⟩) (Kd.R_far (p := ⟨gb398, 1, none⟩) (Kd.R_far (p := ⟨gb398, 0, none⟩) (Kd.R_mono HO_394000.out (fun k_ hk => (⟨hk, hk.2⟩ : _ ∧ k_ ≠ gb398))) (fun _ hk => hk.2) (.int .i64 (-1))) (fun _ hk => hk.2) (.int .i64 (-1))) (fun _ hk => hk.2) (.bool t397)) (fun _ hk => hk.1.2))); (case aS => exact ax175); (case aL => have := LMc32.out; omega); intro v400 w40 ho hb hg hat; rw [← Ny399.out] at ho; have n0_ := Aside0.mk (Kd.R_over' (by (with_reducible repeat (first | apply Kd.R_alloc | apply Kd.R_drewN | apply Kd.R_drew)); exact (Kd.R_mono (Kd.R_far (p := ⟨gb398, 2, none⟩) (Kd.R_far (p := ⟨gb398, 1, none⟩) (Kd.R_far (p := ⟨gb398, 0, none⟩) (Kd.R_types HO_39.out BK398.out (by decide)) (fun _ hk => hk.2) (.int .i64 (-1))) (fun _ hk => hk.2) (.int .i64 (-1))) (fun _ hk => hk.2) (.bool t397)) (fun _ h_ => h_.1))) (Kd.R_typed (by (with_reducible repeat (first | apply Kd.R_alloc | apply Kd.R_drewN | apply Kd.R_drew)); exact (Kd.R_mono (Kd.R_far (p := ⟨gb398, 2, none⟩) (Kd.R_far (p := ⟨gb398, 1, none⟩) (Kd.R_far (p := ⟨gb398, 0, none⟩) (Kd.R_mono HO_394000.out (fun k_ hk => (⟨hk, hk.2⟩ : _ ∧ k_ ≠ gb398))) (fun _ hk => hk.2) (.int .i64 (-1))) (fun _ hk => hk.2) (.int .i64 (-1))) (fun _ hk => hk.2) (.bool t397)) (fun _ h_ => h_.1)))) (by decide) hg); have n1_ := Aside0.mk (blk_grown (g := gb381) (o := .cells #[.slice none 0 0] 30 (0, 0)) (by (with_reducible repeat (first | refine blk_drewN ?_ _ | refine blk_drew ?_ | refine blk_alloc ?_ _)); refine blk_far ?_ NB381_398.out _; (with_reducible repeat (first | refine blk_drewN ?_ _ | refine blk_drew ?_ | refine blk_alloc ?_ _)); refine blk_far ?_ NB381_398.out _; (with_reducible repeat (first | refine blk_drewN ?_ _ | refine blk_drew ?_ | refine blk_alloc ?_ _)); refine blk_far ?_ NB381_398.out _; (with_reducible repeat (first | refine blk_drewN ?_ _ | refine blk_drew ?_ | refine blk_alloc ?_ _)); exact BK381.out) hg (Kd.R_ne HO_394000.out BK381.out (by decide))); have n2_ := Aside0.mk (blk_grown (g := gb393) (o := .cells #[u394000] 30 (0, 0)) (by (with_reducible repeat (first | refine blk_drewN ?_ _ | refine blk_drew ?_ | refine blk_alloc ?_ _)); refine blk_far ?_ NB393_398.out _; (with_reducible repeat (first | refine blk_drewN ?_ _ | refine blk_drew ?_ | refine blk_alloc ?_ _)); refine blk_far ?_ NB393_398.out _; (with_reducible repeat (first | refine blk_drewN ?_ _ | refine blk_drew ?_ | refine blk_alloc ?_ _)); refine blk_far ?_ NB393_398.out _; (with_reducible repeat (first | refine blk_drewN ?_ _ | refine blk_drew ?_ | refine blk_alloc ?_ _)); exact BK393.out) hg (Kd.R_ne HO_394000.out BK393.out (by decide))); have n3_ := Aside0.mk (G.MapIs.grown (show G.MapIs Tryd.prog 9 3 _ gm392 y395 from by repeat (first | (with_reducible first | exact MP392.out | apply G.MapIs.alloc | apply G.MapIs.drewN | apply G.MapIs.drew | refine G.MapIs.set ?_ (G.MapIs.ne_blk MP392.out BK398.out) _ _ | refine G.MapIs.set ?_ (G.MapIs.ne_blk MP392.out BK398.out) _ _ | refine G.MapIs.set ?_ (G.MapIs.ne_blk MP392.out BK398.out) _ _) | exact MP392.out)) hg (G.MapIs.ne_row MP392.out HO_394000.out)); have n4_ := Aside0.mk (blk_grown (g := gb398) (o := .cells #[.int .i64 (-1), .int .i64 (-1), .bool t397] 53 (0, 0)) ax174 hg (Kd.R_away HO_394000.out (fun _ hk => hk.2))); have n5_ := Aside0.mk (hb); have n6_ := Aside0.mk (ho); clear HO_39; clear BK381; clear BK393; clear MP392; clear BK398; clear HB; clear HO_394000; have HO_39 := n0_; have BK381 := n1_; have BK393 := n2_; have MP392 := n3_; have BK398 := n4_; have HB := n5_; have HO401 := n6_; clear n0_ n1_ n2_ n3_ n4_ n5_ n6_; clear ho hb hg hat; obtain ⟨Ao41, co41, eo41⟩ := Kd.R_slice HO401.out; subst eo41; have hcz42_0 : w40.cell? ⟨gb393, 0, none⟩ = some (u394000) := (blk_cell BK393.out 0).trans rfl; have hfz42_0 := blk_frozen BK393.out 0))
               go_roundg k2
               case measure => have := HK1.out; have := HK2.out; omega
               case rel => exact ⟨(wrap64 (x41_2 + 1)), (y395), (y399), (.slice Ao41 y399.length co41), ax20, H', ⟨by have := HK1.out; have := HK2.out; omega⟩, ⟨by (with_reducible repeat (first | apply Kd.R_alloc | apply Kd.R_drewN | apply Kd.R_drew)); exact Kd.R_mono (Kd.R_far (p := ⟨gb393, 0, none⟩) (Kd.R_types HO_39.out BK393.out (by decide)) (fun _ hk => hk.2) (.slice Ao41 y399.length co41)) (fun _ hk => trivial)⟩, ⟨by (with_reducible repeat (first | apply Kd.R_alloc | apply Kd.R_drewN | apply Kd.R_drew)); exact Kd.R_mono (Kd.R_far (p := ⟨gb393, 0, none⟩) (Kd.R_types HO401.out BK393.out (by decide)) (fun _ hk => hk.2) (.slice Ao41 y399.length co41)) (fun _ hk => trivial)⟩, ⟨by (with_reducible repeat (first | refine blk_drewN ?_ _ | refine blk_drew ?_ | refine blk_alloc ?_ _)); refine blk_far ?_ NB381_393.out _; (with_reducible repeat (first | refine blk_drewN ?_ _ | refine blk_drew ?_ | refine blk_alloc ?_ _)); exact BK381.out⟩, ⟨by (with_reducible repeat (first | refine blk_drewN ?_ _ | refine blk_drew ?_ | refine blk_alloc ?_ _)); refine blk_put (cs := #[u394000]) ?_ 0 _ rfl; (with_reducible repeat (first | refine blk_drewN ?_ _ | refine blk_drew ?_ | refine blk_alloc ?_ _)); exact BK393.out⟩, ⟨show G.MapIs Tryd.prog 9 3 _ gm392 y395 from by repeat (first | (with_reducible first | exact MP392.out | apply G.MapIs.alloc | apply G.MapIs.drewN | apply G.MapIs.drew | refine G.MapIs.set ?_ (G.MapIs.ne_blk MP392.out BK393.out) _ _) | exact MP392.out)⟩, ⟨by repeat (first | (with_reducible first | exact HB.out | apply below_alloc | apply pw_below_drewN | apply below_drew1 | refine below_set ?_ GE381.out | refine below_set ?_ GE393.out | refine below_set ?_ GE398.out) | exact HB.out)⟩⟩
              ·rw [if_neg c32] at H
               exact absurd H (by simp)
             ·rw [if_neg c31] at H
              have c31b0 : ((rdOf ByteArray.empty t389 x41_2).toList == ([] : List UInt8)) = false := beq_eq_false_iff_ne.mpr c31
              have c31b1 : ((rdOf ByteArray.empty t389 x41_2).toList != ([] : List UInt8)) = true := bne_iff_ne.mpr c31
              obtain ⟨ji43, hji43⟩ : ∃ j_ : Int, (wrap64 (((rdOf ByteArray.empty t389 x41_2).size : Int) - 1)) = j_ := ⟨_, rfl⟩
              replace H : (if 0 ≤ (ji43) then (if (ji43) < ((rdOf ByteArray.empty t389 x41_2).size : Int) then (if (ji43) ≤ ((rdOf ByteArray.empty t389 x41_2).size : Int) then (if ((rdOf ByteArray.empty t389 x41_2).extract 0 ((ji43) : Int).toNat).size ≤ 9223372036854775807 then (if x394000_2.length < 5864062014805 then (impl_trieOf.l2 k2 l0 t389 (t389.length : Int) (wrap64 (x41_2 + 1)) y395 (x394000_2 ++ [(⟨((bt (rdOf ByteArray.empty t389 x41_2) (ji43)) - 97) % 256, G.mapGet y395 ((rdOf ByteArray.empty t389 x41_2).extract 0 ((ji43) : Int).toNat), t397⟩ : S53)])) else (none)) else (none)) else (none)) else (none)) else (none)) = some r := by first | (rw [hji43] at H; exact H) | (simp only [hji43] at H ⊢; exact H)
              (try rw [hji43] at A30)
              have hji43w : (IntKind.i64.wrap (((rdOf ByteArray.empty t389 x41_2).size : Int) - 1)) = ji43 := (i64_w _).trans hji43
              by_cases c44 : 0 ≤ (ji43)
              ·rw [if_pos c44] at H
               have c44b0 : decide (0 ≤ (ji43)) = true := decide_eq_true c44
               clear c44
               by_cases c45 : (ji43) < ((rdOf ByteArray.empty t389 x41_2).size : Int)
               ·rw [if_pos c45] at H
                have c45b0 : decide ((ji43) < ((rdOf ByteArray.empty t389 x41_2).size : Int)) = true := decide_eq_true c45
                clear c45
                have cv47w : (IntKind.i64.wrap (((bt (rdOf ByteArray.empty t389 x41_2) (ji43)) - 97) % 256)) = (((bt (rdOf ByteArray.empty t389 x41_2) (ji43)) - 97) % 256) := (i64_w _).trans (by unfold wrap64; omega)
                have cv48z : wrap64 (((bt (rdOf ByteArray.empty t389 x41_2) (ji43)) - 97) % 256) = (((bt (rdOf ByteArray.empty t389 x41_2) (ji43)) - 97) % 256) := by unfold wrap64; omega
                have c49b0 := eq_true (of_decide_eq_true ax21 : 0 ≤ (ji43))
                by_cases c50 : (ji43) ≤ ((rdOf ByteArray.empty t389 x41_2).size : Int)
                ·rw [if_pos c50] at H
                 have c50b0 := eq_true c50
                 have c50b1 : decide ((ji43) ≤ ((rdOf ByteArray.empty t389 x41_2).size : Int)) = true := decide_eq_true c50
                 clear c50
                 obtain ⟨js51, hjs51⟩ : ∃ j_ : ByteArray, ((rdOf ByteArray.empty t389 x41_2).extract 0 ((ji43) : Int).toNat) = j_ := ⟨_, rfl⟩
                 replace H : (if js51.size ≤ 9223372036854775807 then (if x394000_2.length < 5864062014805 then (impl_trieOf.l2 k2 l0 t389 (t389.length : Int) (wrap64 (x41_2 + 1)) y395 (x394000_2 ++ [(⟨((bt (rdOf ByteArray.empty t389 x41_2) (ji43)) - 97) % 256, G.mapGet y395 js51, t397⟩ : S53)])) else (none)) else (none)) = some r := by first | (rw [hjs51] at H; exact H) | (simp only [hjs51] at H ⊢; exact H)
                 by_cases c52 : js51.size ≤ 9223372036854775807
                 ·rw [if_pos c52] at H
                  have LMc52 := Aside0.mk c52; clear c52
                  by_cases c53 : x394000_2.length < 5864062014805
                  ·rw [if_pos c53] at H
                   have LMc53 := Aside0.mk c53; clear c53
                   obtain ⟨y402, hy402⟩ : ∃ y_ : List (S53), y_ = (x394000_2 ++ [(⟨((bt (rdOf ByteArray.empty t389 x41_2) (ji43)) - 97) % 256, G.mapGet y395 js51, t397⟩ : S53)]) := ⟨_, rfl⟩
                   replace H : (impl_trieOf.l2 k2 l0 t389 (t389.length : Int) (wrap64 (x41_2 + 1)) y395 y402) = some r := by first | (rw [hy402]; with_reducible exact H) | (have H2_ := (Option.bind_some _ _).symm.trans H; rw [hy402]; with_reducible exact H2_) | (have H2_ := (Option.bind_some _ _).symm.trans H; with_reducible exact H2_) | with_reducible exact H | (rw [hy402]; exact H) | exact H
                   have Ny402 := Aside0.mk hy402; clear hy402
                   have H' := Aside0.mk H
                   clear H
                   have p394 : 0 ≤ (x41_2 : Int) := of_decide_eq_true ax21
                   have q394 : x41_2 < (t389.length : Int) := of_decide_eq_true ax21
                   obtain ⟨ad394, e394, hx394_0⟩ := Kd.at_string (Kd.R_reads' HO_39.out).2.2 x41_2 p394 q394
                   cases e394; replace p394 := eq_true p394; replace q394 := eq_true q394
                   try go_wp2_with (first | ((with_reducible refine G.gate_mput (t := 84) (m := .tmp 46) (x := .tmp 47) (v := .tmp 48) rfl ?_); refine G.mput_event ?hg (t := 84) (m := .tmp 46) (x := .tmp 47) (v := .tmp 48) ?ho ?hd (b := gm392) (s := (rdOf ByteArray.empty t389 x41_2)) (i := x41_2) ?hm ?hx ?hv (K := 9) (E := 3) (c := x393000_2) ?ht ?hK ?hE ?hw ?hs ?hl ?hmap ?_; (case hg => rfl); (case ho => rfl); (case hd => rfl); (case hm => rfl); (case hx => rfl); (case hv => rfl); (case ht => exact Tryd.underlying84); (case hK => exact Tryd.underlying9); (case hE => exact Tryd.underlying3); (case hw => exact ax163); (case hs => exact LMc27.out); (case hl => exact LMc26.out); (case hmap => exact ax164); intro w54 hmap hg; rw [← Ny395.out] at hmap; have n0_ := Aside0.mk (Kd.R_grown1 ax165 rfl hg (G.MapIs.ne_row MP392.out HO_39.out)); have n1_ := Aside0.mk (Kd.R_grown1 ax166 rfl hg (G.MapIs.ne_row MP392.out HO_394000.out)); have n2_ := Aside0.mk (blk_grown (g := gb381) (o := .cells #[.slice none 0 0] 30 (0, 0)) ax158 hg (fun e_ => G.MapIs.ne_blk MP392.out BK381.out ax167)); have n3_ := Aside0.mk (blk_grown (g := gb393) (o := .cells #[u394000] 30 (0, 0)) ax168 hg (fun e_ => G.MapIs.ne_blk MP392.out BK393.out ax167)); have n4_ := Aside0.mk (hmap); have n5_ := Aside0.mk (Below.grown ax169 hg (below_size ax169) (fun k_ e_ => by cases e_; exact GM392.out)); clear HO_39; clear HO_394000; clear BK381; clear BK393; clear MP392; clear HB; have HO_39 := n0_; have HO_394000 := n1_; have BK381 := n2_; have BK393 := n3_; have MP392 := n4_; have HB := n5_; clear n0_ n1_ n2_ n3_ n4_ n5_; clear hmap hg) | ((with_reducible refine gate_callee (f := 68) rfl ?_); refine goesL_ (some 52) rfl rfl Tryd.func68 (by kernel_rfl) rfl #[.slice A0 l0.length c0, .string (rdOf ByteArray.empty t389 x41_2)] rfl ax30 ?_; (with_reducible refine (slices_BinarySearch_string_string.calls k2 _ _ l0 (rdOf ByteArray.empty t389 x41_2) t396 t397 _ ?side1 ?side2 A30.out).mono ?_); (case side1 => exact ax25); (case side2 => exact HC0.out); rintro e w' ⟨rfl, ⟨nd, rfl⟩⟩; refine ⟨_, rfl, ?_⟩; (try (rw [drewN_self w54]; generalize hq_ : World.drewN w54 _ = w54; have n0_ : Aside0 (Kd.R Kd.string 9 w54 w.heap.size (fun _ => True) (.slice (some ad394) t389.length co22) t389) := ⟨by rw [← hq_]; exact ax165⟩; have n1_ : Aside0 (Kd.R k53 53 w54 w.heap.size (fun _ => True) u394000 x394000_2) := ⟨by rw [← hq_]; exact ax166⟩; have n2_ : Aside0 (G.MapIs Tryd.prog 9 3 w54 gm392 y395) := ⟨by rw [← hq_]; exact show G.MapIs Tryd.prog 9 3 _ gm392 y395 from by repeat (first | (with_reducible first | exact MP392.out | apply G.MapIs.alloc | apply G.MapIs.drewN | apply G.MapIs.drew) | exact MP392.out)⟩; have n3_ : Aside0 (w54.heap[gb381]? = some (.cells #[.slice none 0 0] 30 (0, 0))) := ⟨by rw [← hq_]; exact ax158⟩; have n4_ : Aside0 (w54.heap[gb393]? = some (.cells #[u394000] 30 (0, 0))) := ⟨by rw [← hq_]; exact ax168⟩; have n5_ : Aside0 (Below w.heap.size w w54) := ⟨by rw [← hq_]; exact ax169⟩; clear HO_39 HO_394000 MP392 BK381 BK393 HB hq_; have HO_39 := n0_; have HO_394000 := n1_; have MP392 := n2_; have BK381 := n3_; have BK393 := n4_; have HB := n5_; clear n0_ n1_ n2_ n3_ n4_ n5_))) | ((with_reducible refine gate_dst (N := 13) rfl ?_); refine box_event ?hg (N := 13) ?hd (cs := #[.int .i64 0, .int .i64 0, .bool false]) (t := 53) ?hr ?_; (case hd => rfl); (case hg => rfl); (case hr => exact ax22); intro gb398 hg w55 hbox hb; have n0_ := Aside0.mk (Kd.R_below ax165 hb); have n1_ := Aside0.mk (Kd.R_below (Kd.R_elderB ax166 gb398 (Nat.le_of_eq hg.symm)) hb); have n2_ := Aside0.mk (blk_below (g := gb381) (o := .cells #[.slice none 0 0] 30 (0, 0)) ax158 hb); have n3_ := Aside0.mk (blk_below (g := gb393) (o := .cells #[u394000] 30 (0, 0)) ax168 hb); have n4_ := Aside0.mk (G.MapIs.below (show G.MapIs Tryd.prog 9 3 _ gm392 y395 from by repeat (first | (with_reducible first | exact MP392.out | apply G.MapIs.alloc | apply G.MapIs.drewN | apply G.MapIs.drew) | exact MP392.out)) hb); have n5_ := Aside0.mk (below_step ax169 hb); have n6_ := Aside0.mk (hbox); have n7_ := Aside0.mk ((ax170 : w.heap.size ≤ gb398)); have n8_ := Aside0.mk ((ax170 : w.heap.size ≤ gb398)); have n9_ := Aside0.mk ((ax161 : gb381 ≠ gb398)); have n10_ := Aside0.mk ((ax162 : gb398 ≠ gb381)); have n11_ := Aside0.mk ((ax171 : gb393 ≠ gb398)); have n12_ := Aside0.mk ((ax172 : gb398 ≠ gb393)); clear HO_39; clear HO_394000; clear BK381; clear BK393; clear MP392; clear HB; have HO_39 := n0_; have HO_394000 := n1_; have BK381 := n2_; have BK393 := n3_; have MP392 := n4_; have HB := n5_; have BK398 := n6_; have GW398 := n7_; have GE398 := n8_; have NB381_398 := n9_; have NB398_381 := n10_; have NB393_398 := n11_; have NB398_393 := n12_; clear n0_ n1_ n2_ n3_ n4_ n5_ n6_ n7_ n8_ n9_ n10_ n11_ n12_; clear hb hbox hg; have hnb56 := NB398_381.out; have hnc56 := NB381_398.out; have hnb57 := NB398_393.out; have hnc57 := NB393_398.out; have hcz58_0 : w55.cell? ⟨gb398, 0, none⟩ = some (.int .i64 0) := (blk_cell BK398.out 0).trans rfl; have hcz58_1 : w55.cell? ⟨gb398, 1, none⟩ = some (.int .i64 0) := (blk_cell BK398.out 1).trans rfl; have hcz58_2 : w55.cell? ⟨gb398, 2, none⟩ = some (.bool false) := (blk_cell BK398.out 2).trans rfl; have hfz58_0 := blk_frozen BK398.out 0; have hfz58_1 := blk_frozen BK398.out 1; have hfz58_2 := blk_frozen BK398.out 2))
                   have n0_ : Aside0 (Kd.R Kd.string 9 (((w55.setCell ⟨gb398, 0, none⟩ (.int .i64 (-1))).setCell ⟨gb398, 1, none⟩ (.int .i64 (-1))).setCell ⟨gb398, 2, none⟩ (.bool t397)) w.heap.size (fun _ => True) (.slice (some ad394) t389.length co22) t389) := ⟨by (with_reducible repeat (first | apply Kd.R_alloc | apply Kd.R_drewN | apply Kd.R_drew)); exact Kd.R_mono (Kd.R_far (p := ⟨gb398, 2, none⟩) (Kd.R_far (p := ⟨gb398, 1, none⟩) (Kd.R_far (p := ⟨gb398, 0, none⟩) (Kd.R_types HO_39.out BK398.out (by decide)) (fun _ hk => hk.2) (.int .i64 (-1))) (fun _ hk => hk.2) (.int .i64 (-1))) (fun _ hk => hk.2) (.bool t397)) (fun _ hk => trivial)⟩
                   have n1_ : Aside0 (Kd.R k53 53 (((w55.setCell ⟨gb398, 0, none⟩ (.int .i64 (-1))).setCell ⟨gb398, 1, none⟩ (.int .i64 (-1))).setCell ⟨gb398, 2, none⟩ (.bool t397)) w.heap.size (fun k_ => k_ ≠ gb398) u394000 x394000_2) := ⟨by (with_reducible repeat (first | apply Kd.R_alloc | apply Kd.R_drewN | apply Kd.R_drew)); exact Kd.R_mono (Kd.R_far (p := ⟨gb398, 2, none⟩) (Kd.R_far (p := ⟨gb398, 1, none⟩) (Kd.R_far (p := ⟨gb398, 0, none⟩) (Kd.R_mono HO_394000.out (fun k_ hk => (⟨hk, hk.2⟩ : _ ∧ k_ ≠ gb398))) (fun _ hk => hk.2) (.int .i64 (-1))) (fun _ hk => hk.2) (.int .i64 (-1))) (fun _ hk => hk.2) (.bool t397)) (fun _ hk => hk.1.2)⟩
                   have n2_ : Aside0 ((((w55.setCell ⟨gb398, 0, none⟩ (.int .i64 (-1))).setCell ⟨gb398, 1, none⟩ (.int .i64 (-1))).setCell ⟨gb398, 2, none⟩ (.bool t397)).heap[gb381]? = some (.cells #[.slice none 0 0] 30 (0, 0))) := ⟨by (with_reducible repeat (first | refine blk_drewN ?_ _ | refine blk_drew ?_ | refine blk_alloc ?_ _)); refine blk_far ?_ NB381_398.out _; (with_reducible repeat (first | refine blk_drewN ?_ _ | refine blk_drew ?_ | refine blk_alloc ?_ _)); refine blk_far ?_ NB381_398.out _; (with_reducible repeat (first | refine blk_drewN ?_ _ | refine blk_drew ?_ | refine blk_alloc ?_ _)); refine blk_far ?_ NB381_398.out _; (with_reducible repeat (first | refine blk_drewN ?_ _ | refine blk_drew ?_ | refine blk_alloc ?_ _)); exact BK381.out⟩
                   have n3_ : Aside0 ((((w55.setCell ⟨gb398, 0, none⟩ (.int .i64 (-1))).setCell ⟨gb398, 1, none⟩ (.int .i64 (-1))).setCell ⟨gb398, 2, none⟩ (.bool t397)).heap[gb393]? = some (.cells #[u394000] 30 (0, 0))) := ⟨by (with_reducible repeat (first | refine blk_drewN ?_ _ | refine blk_drew ?_ | refine blk_alloc ?_ _)); refine blk_far ?_ NB393_398.out _; (with_reducible repeat (first | refine blk_drewN ?_ _ | refine blk_drew ?_ | refine blk_alloc ?_ _)); refine blk_far ?_ NB393_398.out _; (with_reducible repeat (first | refine blk_drewN ?_ _ | refine blk_drew ?_ | refine blk_alloc ?_ _)); refine blk_far ?_ NB393_398.out _; (with_reducible repeat (first | refine blk_drewN ?_ _ | refine blk_drew ?_ | refine blk_alloc ?_ _)); exact BK393.out⟩
                   have n4_ : Aside0 ((((w55.setCell ⟨gb398, 0, none⟩ (.int .i64 (-1))).setCell ⟨gb398, 1, none⟩ (.int .i64 (-1))).setCell ⟨gb398, 2, none⟩ (.bool t397)).heap[gb398]? = some (.cells #[.int .i64 (-1), .int .i64 (-1), .bool t397] 53 (0, 0))) := ⟨by (with_reducible repeat (first | refine blk_drewN ?_ _ | refine blk_drew ?_ | refine blk_alloc ?_ _)); refine blk_put (cs := #[.int .i64 (-1), .int .i64 (-1), .bool false]) ?_ 2 _ rfl; (with_reducible repeat (first | refine blk_drewN ?_ _ | refine blk_drew ?_ | refine blk_alloc ?_ _)); refine blk_put (cs := #[.int .i64 (-1), .int .i64 0, .bool false]) ?_ 1 _ rfl; (with_reducible repeat (first | refine blk_drewN ?_ _ | refine blk_drew ?_ | refine blk_alloc ?_ _)); refine blk_put (cs := #[.int .i64 0, .int .i64 0, .bool false]) ?_ 0 _ rfl; (with_reducible repeat (first | refine blk_drewN ?_ _ | refine blk_drew ?_ | refine blk_alloc ?_ _)); exact BK398.out⟩
                   have n5_ : Aside0 (G.MapIs Tryd.prog 9 3 (((w55.setCell ⟨gb398, 0, none⟩ (.int .i64 (-1))).setCell ⟨gb398, 1, none⟩ (.int .i64 (-1))).setCell ⟨gb398, 2, none⟩ (.bool t397)) gm392 y395) := ⟨show G.MapIs Tryd.prog 9 3 _ gm392 y395 from by repeat (first | (with_reducible first | exact MP392.out | apply G.MapIs.alloc | apply G.MapIs.drewN | apply G.MapIs.drew | refine G.MapIs.set ?_ (G.MapIs.ne_blk MP392.out BK398.out) _ _ | refine G.MapIs.set ?_ (G.MapIs.ne_blk MP392.out BK398.out) _ _ | refine G.MapIs.set ?_ (G.MapIs.ne_blk MP392.out BK398.out) _ _) | exact MP392.out)⟩
                   have n6_ : Aside0 (Below w.heap.size w (((w55.setCell ⟨gb398, 0, none⟩ (.int .i64 (-1))).setCell ⟨gb398, 1, none⟩ (.int .i64 (-1))).setCell ⟨gb398, 2, none⟩ (.bool t397))) := ⟨by repeat (first | (with_reducible first | exact HB.out | apply below_alloc | apply pw_below_drewN | apply below_drew1 | refine below_set ?_ GE381.out | refine below_set ?_ GE393.out | refine below_set ?_ GE398.out) | exact HB.out)⟩
                   (try clear HO_39); (try clear HO_394000); (try clear BK381); (try clear BK393); (try clear BK398); (try clear MP392); (try clear HB); generalize (((w55.setCell ⟨gb398, 0, none⟩ (.int .i64 (-1))).setCell ⟨gb398, 1, none⟩ (.int .i64 (-1))).setCell ⟨gb398, 2, none⟩ (.bool t397)) = w59 at n0_ n1_ n2_ n3_ n4_ n5_ n6_ ⊢; have HO_39 := n0_; have HO_394000 := n1_; have BK381 := n2_; have BK393 := n3_; have BK398 := n4_; have MP392 := n5_; have HB := n6_; clear n0_ n1_ n2_ n3_ n4_ n5_ n6_; have n0_ := Aside0.mk (Kd.R_drew HO_39.out); have n1_ := Aside0.mk (Kd.R_drew HO_394000.out); have n2_ := Aside0.mk (blk_drew BK381.out); have n3_ := Aside0.mk (blk_drew BK393.out); have n4_ := Aside0.mk (blk_drew BK398.out); have n5_ := Aside0.mk (G.MapIs.drew MP392.out); have n6_ := Aside0.mk (below_drew1 HB.out); clear HO_39; clear HO_394000; clear BK381; clear BK393; clear BK398; clear MP392; clear HB; have HO_39 := n0_; have HO_394000 := n1_; have BK381 := n2_; have BK393 := n3_; have BK398 := n4_; have MP392 := n5_; have HB := n6_; clear n0_ n1_ n2_ n3_ n4_ n5_ n6_
                   have p46 : 0 ≤ ((ji43) : Int) := of_decide_eq_true ax21
                   have q46 : (ji43) < ((rdOf ByteArray.empty t389 x41_2).size : Int) := of_decide_eq_true ax21
                   have hx46 := bt_at (rdOf ByteArray.empty t389 x41_2) (ji43); replace p46 := eq_true p46; replace q46 := eq_true q46
                   refine start_ (n := 18) (S := fun w' => G.MapIs Tryd.prog 9 3 w' gm392 y395 ∧ (Instr.lookup 84 (.map (some gm392)) (.string js51) false).run Tryd.prog w' = .ok (.int .i64 (G.mapGet y395 js51)) w') (ds := []) (ob 18 0) (by kernel_rfl) rfl rfl ⟨MP392.out, G.MapIs.run_get MP392.out Tryd.underlying84 Tryd.underlying9 Tryd.underlying3 (Tryd.zeroValue3 _) LMc52.out⟩ (fun hHeld => ?_); refine with_tabW impl_trieOf.tab20 impl_trieOf.bits20 (fun HT_ HW_ => ?_)
                   generalize w59.drew = w60 at HO_39 HO_394000 BK381 BK393 BK398 MP392 HB hHeld ⊢
                   refine pure_ (i := 0) (N := some 59) (v := ?_) (a' := ?_) (ob 18 1) rfl rfl (any_of HT_.out (by kernel_rfl)) (fun _ _ _ h => h) (Or.inl ⟨by rfl, ?_⟩) ?_ ?_; rotate_left; exact ax4; rotate_left; exact ax5
                   refine pure_ (i := 1) (N := some 60) (v := ?_) (a' := ?_) (ob 18 3) rfl rfl (any_of HT_.out (by kernel_rfl)) (fun _ _ _ h => h) (Or.inl ⟨by rfl, ?_⟩) ?_ ?_; rotate_left; exact ax4; rotate_left; exact ax5
                   refine pure_ (i := 2) (N := some 61) (v := ?_) (a' := ?_) (ob 18 7) rfl rfl (any_of HT_.out (by kernel_rfl)) (fun _ _ _ h => h) (Or.inl ⟨by rfl, ?_⟩) ?_ ?_; rotate_left; exact ax4; rotate_left; exact ax5
                   refine pure_ (i := 3) (N := some 62) (v := ?_) (a' := ?_) (ob 18 15) rfl rfl (any_of HT_.out (by kernel_rfl)) (fun _ _ _ h => h) (Or.inl ⟨by rfl, ?_⟩) ?_ ?_; rotate_left; exact ax4; rotate_left; exact ax5
                   refine pure_ (i := 7) (N := some 66) (v := ?_) (a' := ?_) (ob 18 143) rfl rfl (any_of HT_.out (by kernel_rfl)) (fun _ _ _ h => h) (Or.inl ⟨by rfl, ?_⟩) ?_ ?_; rotate_left; exact ax4; rotate_left; exact ax5
                   refine pure_ (i := 8) (N := some 67) (v := ?_) (a' := ?_) (ob 18 399) rfl rfl (any_of HT_.out (by kernel_rfl)) (fun _ _ _ h => h) (Or.inl ⟨by rfl, ?_⟩) ?_ ?_; rotate_left; exact ax4; rotate_left; exact ax5
                   refine pure_ (i := 9) (N := some 68) (v := ?_) (a' := ?_) (ob 18 911) rfl rfl (any_of HT_.out (by kernel_rfl)) (fun _ _ _ h => h) (Or.inl ⟨by rfl, ?_⟩) ?_ ?_; rotate_left; exact ax4; rotate_left; exact ax5
                   refine pure_ (i := 10) (N := some 69) (v := ?_) (a' := ?_) (ob 18 1935) rfl rfl (any_of HT_.out (by kernel_rfl)) (fun _ _ _ h => h) (Or.inl ⟨by rfl, ?_⟩) ?_ ?_; rotate_left; exact ax4; rotate_left; exact ax5
                   refine pure_ (i := 11) (N := some 70) (v := ?_) (a' := ?_) (ob 18 3983) rfl rfl (any_of HT_.out (by kernel_rfl)) (fun _ _ _ h => h) (Or.inl ⟨by rfl, ?_⟩) ?_ ?_; rotate_left; exact ax4; rotate_left; exact ax5
                   refine pure_ (i := 12) (N := some 71) (v := ?_) (a' := ?_) (ob 18 8079) rfl rfl (any_of HT_.out (by kernel_rfl)) (fun _ _ _ h => h) (Or.inl ⟨by rfl, ?_⟩) ?_ ?_; rotate_left; exact ax4; rotate_left; exact ax5
                   refine take_ (i := 4) (N := some 63) (v := ?_) (a' := ?_) (ob 18 8095) rfl rfl (take_ofW HT_.out HW_.out (by kernel_rfl)) (fun _ _ _ h => h) (Or.inl ⟨by rfl, ?_⟩) hHeld ?_ ?_; rotate_left; exact ax17; rotate_left; exact ax5
                   refine pure_ (i := 5) (N := some 64) (v := ?_) (a' := ?_) (ob 18 8127) rfl rfl (any_of HT_.out (by kernel_rfl)) (fun _ _ _ h => h) (Or.inl ⟨by rfl, ?_⟩) ?_ ?_; rotate_left; exact ax4; rotate_left; exact ax5
                   refine pure_ (i := 6) (N := some 65) (v := ?_) (a' := ?_) (ob 18 8191) rfl rfl (any_of HT_.out (by kernel_rfl)) (fun _ _ _ h => h) (Or.inl ⟨by rfl, ?_⟩) ?_ ?_; rotate_left; exact ax4; rotate_left; exact ax5
                   refine pure_ (i := 14) (N := some 73) (v := ?_) (a' := ?_) (ob 18 24575) rfl rfl (any_of HT_.out (by kernel_rfl)) (fun _ _ _ h => h) (Or.inl ⟨by rfl, ?_⟩) ?_ ?_; rotate_left; exact ax4; rotate_left; exact ax5
                   refine take_ (i := 13) (N := some 72) (v := ?_) (a' := ?_) (ob 18 32767) rfl rfl (take_ofW HT_.out HW_.out (by kernel_rfl)) (fun _ _ _ h => h) (Or.inl ⟨by rfl, ?_⟩) hHeld ?_ ?_; rotate_left; exact ax17; rotate_left; exact ax5
                   refine one_ (i := 15) (N := none) (ob 18 65535) rfl rfl (one_of HT_.out (by kernel_rfl)) (by decide) (fun K hK => ?_)
                   have hs61 : w60.cell? ⟨gb398, 0, none⟩ = some (.int .i64 (-1)) := (blk_cell BK398.out 0).trans rfl
                   have hfs61 := blk_frozen BK398.out 0; have hns61_0 := NB381_398.out; have hns61_1 := NB393_398.out; have hms61_0 := NB398_381.out; have hms61_1 := NB398_393.out
                   refine skip_ (w1 := ?_) (by rfl) rfl ?_ ?_
                   rotate_left
                   ·go_simp
                    rfl
                   refine hK.out _ _ ⟨(G.MapIs.set (hHeld.1) (G.MapIs.ne_blk MP392.out BK398.out) _ _), G.MapIs.run_get (G.MapIs.set (hHeld.1) (G.MapIs.ne_blk MP392.out BK398.out) _ _) Tryd.underlying84 Tryd.underlying9 Tryd.underlying3 (Tryd.zeroValue3 _) LMc52.out⟩ (fun hHeld => ?_)
                   clear hK K
                   refine pure_ (i := 16) (N := some 74) (v := ?_) (a' := ?_) (ob 18 131071) rfl rfl (any_of HT_.out (by kernel_rfl)) (fun _ _ _ h => h) (Or.inl ⟨by rfl, ?_⟩) ?_ ?_; rotate_left; exact ax4; rotate_left; exact ax5
                   refine one_ (i := 17) (N := none) (ob 18 262143) rfl rfl (one_of HT_.out (by kernel_rfl)) (by decide) (fun K hK => ?_)
                   have hs62 : w60.cell? ⟨gb398, 1, none⟩ = some (.int .i64 (-1)) := (blk_cell BK398.out 1).trans rfl
                   have hfs62 := blk_frozen BK398.out 1; have hns62_0 := NB381_398.out; have hns62_1 := NB393_398.out; have hms62_0 := NB398_381.out; have hms62_1 := NB398_393.out
                   refine skip_ (w1 := ?_) (by rfl) rfl ?_ ?_
                   rotate_left
                   ·go_simp
                    rfl
                   refine hK.out _ _ ⟨(G.MapIs.set (hHeld.1) (G.MapIs.ne_blk MP392.out BK398.out) _ _), G.MapIs.run_get (G.MapIs.set (hHeld.1) (G.MapIs.ne_blk MP392.out BK398.out) _ _) Tryd.underlying84 Tryd.underlying9 Tryd.underlying3 (Tryd.zeroValue3 _) LMc52.out⟩ (fun hHeld => ?_)
                   clear hK K
                   refine done_ (done_of HT_.out (by kernel_rfl)) ?_
                   have hnb63 := NB393_381.out; have hnc63 := NB381_393.out
                   have hcz64_0 : w60.cell? ⟨gb393, 0, none⟩ = some (u394000) := (blk_cell BK393.out 0).trans rfl
                   have hfz64_0 := blk_frozen BK393.out 0
                   have hcz65_0 : w60.cell? ⟨gb398, 0, none⟩ = some (.int .i64 (-1)) := (blk_cell BK398.out 0).trans rfl
                   have hcz65_1 : w60.cell? ⟨gb398, 1, none⟩ = some (.int .i64 (-1)) := (blk_cell BK398.out 1).trans rfl
                   have hcz65_2 : w60.cell? ⟨gb398, 2, none⟩ = some (.bool t397) := (blk_cell BK398.out 2).trans rfl
                   have hfz65_0 := blk_frozen BK398.out 0; have hfz65_1 := blk_frozen BK398.out 1; have hfz65_2 := blk_frozen BK398.out 2
                   try go_wp2_with (first | ((with_reducible refine gate_builtin (b := .append) (xs := #[.tmp 76, .tmp 78]) rfl ?_); at_builtin; refine Kd.R_append k53 (w0 := w) w.heap.size rfl (.tmp 76) (.tmp 78) 28 53 (.agg #[(.int .i64 0), (.int .i64 0), (.bool false)]) 24 rfl Tryd.underlying28 info53 rfl (by decide) (by omega) u394000 x394000_2 (⟨((bt (rdOf ByteArray.empty t389 x41_2) (ji43)) - 97) % 256, G.mapGet y395 js51, t397⟩ : S53) [.int .i64 (((bt (rdOf ByteArray.empty t389 x41_2) (ji43)) - 97) % 256), .int .i64 (G.mapGet y395 js51), .bool t397] (fun k_ => k_ ≠ gb398) (fun _ => False) rfl ax22 ?aP (fun _ hk => hk.elim) ?aF ?aO ?aB ?aS ?aL ?_; (case aP => exact k53_mkM _ _ _ (⟨((bt (rdOf ByteArray.empty t389 x41_2) (ji43)) - 97) % 256, G.mapGet y395 js51, t397⟩ : S53)); (case aB => exact ax173); (case aF => exact (fun k_ hk => Kd.freshB (g := gb398) (o := .cells #[.int .i64 (((bt (rdOf ByteArray.empty t389 x41_2) (ji43)) - 97) % 256), .int .i64 (G.mapGet y395 js51), .bool t397] 53 (0, 0)) ax176 k_ hk)); (case aO => exact (by (with_reducible repeat (first | apply Kd.R_alloc | apply Kd.R_drewN | apply Kd.R_drew)); exact Kd.R_mono (Kd.R_far (p := ⟨gb398, 1, none⟩) (Kd.R_far (p := ⟨gb398, 0, none⟩) (Kd.R_mono HO_394000.out (fun k_ hk => (⟨hk, hk⟩ : _ ∧ k_ ≠ gb398))) (fun _ hk => hk.2) (.int .i64 (((bt (rdOf ByteArray.empty t389 x41_2) (ji43)) - 97) % 256))) (fun _ hk => hk.2) (.int .i64 (G.mapGet y395 js51))) (fun _ hk => hk.1))); (case aS => exact ax175); (case aL => have := LMc53.out; omega); intro v403 w66 ho hb hg hat; rw [← Ny402.out] at ho; have n0_ := Aside0.mk (Kd.R_over' (by (with_reducible repeat (first | apply Kd.R_alloc | apply Kd.R_drewN | apply Kd.R_drew)); exact (Kd.R_mono (Kd.R_far (p := ⟨gb398, 1, none⟩) (Kd.R_far (p := ⟨gb398, 0, none⟩) (Kd.R_types HO_39.out BK398.out (by decide)) (fun _ hk => hk.2) (.int .i64 (((bt (rdOf ByteArray.empty t389 x41_2) (ji43)) - 97) % 256))) (fun _ hk => hk.2) (.int .i64 (G.mapGet y395 js51))) (fun _ h_ => h_.1))) (Kd.R_typed (by (with_reducible repeat (first | apply Kd.R_alloc | apply Kd.R_drewN | apply Kd.R_drew)); exact (Kd.R_mono (Kd.R_far (p := ⟨gb398, 1, none⟩) (Kd.R_far (p := ⟨gb398, 0, none⟩) (Kd.R_mono HO_394000.out (fun k_ hk => (⟨hk, hk⟩ : _ ∧ k_ ≠ gb398))) (fun _ hk => hk.2) (.int .i64 (((bt (rdOf ByteArray.empty t389 x41_2) (ji43)) - 97) % 256))) (fun _ hk => hk.2) (.int .i64 (G.mapGet y395 js51))) (fun _ h_ => h_.1)))) (by decide) hg); have n1_ := Aside0.mk (blk_grown (g := gb381) (o := .cells #[.slice none 0 0] 30 (0, 0)) (by (with_reducible repeat (first | refine blk_drewN ?_ _ | refine blk_drew ?_ | refine blk_alloc ?_ _)); refine blk_far ?_ NB381_398.out _; (with_reducible repeat (first | refine blk_drewN ?_ _ | refine blk_drew ?_ | refine blk_alloc ?_ _)); refine blk_far ?_ NB381_398.out _; (with_reducible repeat (first | refine blk_drewN ?_ _ | refine blk_drew ?_ | refine blk_alloc ?_ _)); exact BK381.out) hg (Kd.R_ne HO_394000.out BK381.out (by decide))); have n2_ := Aside0.mk (blk_grown (g := gb393) (o := .cells #[u394000] 30 (0, 0)) (by (with_reducible repeat (first | refine blk_drewN ?_ _ | refine blk_drew ?_ | refine blk_alloc ?_ _)); refine blk_far ?_ NB393_398.out _; (with_reducible repeat (first | refine blk_drewN ?_ _ | refine blk_drew ?_ | refine blk_alloc ?_ _)); refine blk_far ?_ NB393_398.out _; (with_reducible repeat (first | refine blk_drewN ?_ _ | refine blk_drew ?_ | refine blk_alloc ?_ _)); exact BK393.out) hg (Kd.R_ne HO_394000.out BK393.out (by decide))); have n3_ := Aside0.mk (G.MapIs.grown (show G.MapIs Tryd.prog 9 3 _ gm392 y395 from by repeat (first | (with_reducible first | exact MP392.out | apply G.MapIs.alloc | apply G.MapIs.drewN | apply G.MapIs.drew | refine G.MapIs.set ?_ (G.MapIs.ne_blk MP392.out BK398.out) _ _ | refine G.MapIs.set ?_ (G.MapIs.ne_blk MP392.out BK398.out) _ _) | exact MP392.out)) hg (G.MapIs.ne_row MP392.out HO_394000.out)); have n4_ := Aside0.mk (blk_grown (g := gb398) (o := .cells #[.int .i64 (((bt (rdOf ByteArray.empty t389 x41_2) (ji43)) - 97) % 256), .int .i64 (G.mapGet y395 js51), .bool t397] 53 (0, 0)) ax176 hg (Kd.R_away HO_394000.out (fun _ hk => hk))); have n5_ := Aside0.mk (hb); have n6_ := Aside0.mk (ho); clear HO_39; clear BK381; clear BK393; clear MP392; clear BK398; clear HB; clear HO_394000; have HO_39 := n0_; have BK381 := n1_; have BK393 := n2_; have MP392 := n3_; have BK398 := n4_; have HB := n5_; have HO404 := n6_; clear n0_ n1_ n2_ n3_ n4_ n5_ n6_; clear ho hb hg hat; obtain ⟨Ao67, co67, eo67⟩ := Kd.R_slice HO404.out; subst eo67; have hcz68_0 : w66.cell? ⟨gb393, 0, none⟩ = some (u394000) := (blk_cell BK393.out 0).trans rfl; have hfz68_0 := blk_frozen BK393.out 0))
                   go_roundg k2
                   case measure => have := HK1.out; have := HK2.out; omega
                   case rel => exact ⟨(wrap64 (x41_2 + 1)), (y395), (y402), (.slice Ao67 y402.length co67), ax20, H', ⟨by have := HK1.out; have := HK2.out; omega⟩, ⟨by (with_reducible repeat (first | apply Kd.R_alloc | apply Kd.R_drewN | apply Kd.R_drew)); exact Kd.R_mono (Kd.R_far (p := ⟨gb393, 0, none⟩) (Kd.R_types HO_39.out BK393.out (by decide)) (fun _ hk => hk.2) (.slice Ao67 y402.length co67)) (fun _ hk => trivial)⟩, ⟨by (with_reducible repeat (first | apply Kd.R_alloc | apply Kd.R_drewN | apply Kd.R_drew)); exact Kd.R_mono (Kd.R_far (p := ⟨gb393, 0, none⟩) (Kd.R_types HO404.out BK393.out (by decide)) (fun _ hk => hk.2) (.slice Ao67 y402.length co67)) (fun _ hk => trivial)⟩, ⟨by (with_reducible repeat (first | refine blk_drewN ?_ _ | refine blk_drew ?_ | refine blk_alloc ?_ _)); refine blk_far ?_ NB381_393.out _; (with_reducible repeat (first | refine blk_drewN ?_ _ | refine blk_drew ?_ | refine blk_alloc ?_ _)); exact BK381.out⟩, ⟨by (with_reducible repeat (first | refine blk_drewN ?_ _ | refine blk_drew ?_ | refine blk_alloc ?_ _)); refine blk_put (cs := #[u394000]) ?_ 0 _ rfl; (with_reducible repeat (first | refine blk_drewN ?_ _ | refine blk_drew ?_ | refine blk_alloc ?_ _)); exact BK393.out⟩, ⟨show G.MapIs Tryd.prog 9 3 _ gm392 y395 from by repeat (first | (with_reducible first | exact MP392.out | apply G.MapIs.alloc | apply G.MapIs.drewN | apply G.MapIs.drew | refine G.MapIs.set ?_ (G.MapIs.ne_blk MP392.out BK393.out) _ _) | exact MP392.out)⟩, ⟨by repeat (first | (with_reducible first | exact HB.out | apply below_alloc | apply pw_below_drewN | apply below_drew1 | refine below_set ?_ GE381.out | refine below_set ?_ GE393.out | refine below_set ?_ GE398.out) | exact HB.out)⟩⟩
                  ·rw [if_neg c53] at H
                   exact absurd H (by simp)
                 ·rw [if_neg c52] at H
                  exact absurd H (by simp)
                ·rw [if_neg c50] at H
                 exact absurd H (by simp)
               ·rw [if_neg c45] at H
                exact absurd H (by simp)
              ·rw [if_neg c44] at H
               exact absurd H (by simp)
            ·rw [if_neg c29] at H
             exact absurd H (by simp)
           ·rw [if_neg c28] at H
            exact absurd H (by simp)
          ·rw [if_neg c27] at H
           exact absurd H (by simp)
         ·rw [if_neg c26] at H
          exact absurd H (by simp)
        ·rw [if_neg c25] at H
         exact absurd H (by simp)
       ·rw [if_neg c24] at H
        exact absurd H (by simp)
      ·rw [if_neg c23] at H
       have c23b0 : decide (x41_2 < (t389.length : Int)) = false := decide_eq_false c23
       clear c23
       obtain rfl := Option.some.inj H
       have hnb69 := NB393_381.out; have hnc69 := NB381_393.out
       have hcz70_0 : wr.cell? ⟨gb393, 0, none⟩ = some (u394000) := (blk_cell BK393.out 0).trans rfl
       have hfz70_0 := blk_frozen BK393.out 0
       obtain ⟨Ao71, co71, eo71⟩ := Kd.R_slice HO_394000.out
       subst eo71
       have hcz72_0 : wr.cell? ⟨gb381, 0, none⟩ = some (.slice none 0 0) := (blk_cell BK381.out 0).trans rfl
       have hfz72_0 := blk_frozen BK381.out 0
       go_wp2
       refine bodyPost_ret (results_cell_row rfl _ _ gb381 30 #[.slice Ao71 x394000_2.length co71] (0, 0) _ rfl (by (with_reducible repeat (first | refine blk_drewN ?_ _ | refine blk_drew ?_ | refine blk_alloc ?_ _)); refine blk_put (cs := #[.slice none 0 0]) ?_ 0 _ rfl; (with_reducible repeat (first | refine blk_drewN ?_ _ | refine blk_drew ?_ | refine blk_alloc ?_ _)); exact BK381.out) Tryd.underlying30 rfl (by kernel_rfl)) rfl ?_
       exact ⟨_, by first | rfl | (simp [errW_none, errW_some] <;> rfl) | (simp [*, errW_none, errW_some] <;> rfl), by (with_reducible repeat (first | apply Kd.R_alloc | apply Kd.R_drewN | apply Kd.R_drew)); exact Kd.R_mono (Kd.R_far (p := ⟨gb381, 0, none⟩) (Kd.R_types HO_394000.out BK381.out (by decide)) (fun _ hk => hk.2) (.slice Ao71 x394000_2.length co71)) (fun _ hk => trivial), by repeat (first | (with_reducible first | exact HB.out | apply below_alloc | apply pw_below_drewN | apply below_drew1 | refine below_set ?_ GE381.out | refine below_set ?_ GE393.out) | exact HB.out)⟩

end Go.Proofs.YtcbjfflaamlpcaaDoor.X

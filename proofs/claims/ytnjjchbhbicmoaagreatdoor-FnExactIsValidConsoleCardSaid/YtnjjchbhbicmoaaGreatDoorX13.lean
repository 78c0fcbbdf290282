-- By gen.py (the session's own program over the kit's printer): functions of the program, each with its contract. Lean checks it.
import Derived.Test.YtnjjchbhbicmoaaGreatDoorX0
import Derived.Test.YtnjjchbhbicmoaaGreatDoorX12
namespace Go.Proofs.YtnjjchbhbicmoaaGreatDoor.X
open Go.RowKit Go.Proofs.YtnjjchbhbicmoaaGreatDoorW.PrintWords Go.Proofs.YtnjjchbhbicmoaaGreatDoorW.PrintLast Go.Proofs.YtnjjchbhbicmoaaGreatDoorW.PrintMore
attribute [local go_sem] max2_int min2_int max_two min_two max_three min_three max_four min_four   -- for this text's walks alone
set_option linter.unusedVariables false
set_option linter.unusedSimpArgs false

/-! ### impl_trieOf: function 41 -/
mutual
def impl_trieOf.l0 : Nat → List ByteArray → List ByteArray → List ByteArray → Int → Int → Option ((List (S68)))
 | 0, _, _, _, _, _ => none
 | k + 1, x0, x3, x15, x16, x17 => if x17 < x16 then (if 0 ≤ x17 then (if x17 < (x15.length : Int) then (impl_trieOf.l1 k x0 x3 (rdOf ByteArray.empty x15 x17) x15 x16 x17 ((rdOf ByteArray.empty x15 x17).size : Int) 0) else (none)) else (none)) else ((impl_set.f x3).bind fun t330 => (impl_trieOf.l2 k x0 t330 (t330.length : Int) 0 ([] : List (ByteArray × Int)) ([] : List (S68))))
def impl_trieOf.l1 : Nat → List ByteArray → List ByteArray → ByteArray → List ByteArray → Int → Int → Int → Int → Option ((List (S68)))
 | 0, _, _, _, _, _, _, _, _ => none
 | k + 1, x0, x3, x5, x15, x16, x17, x22, x23 => if x23 < x22 then (if 0 ≤ (wrap64 (x23 + 1)) then (if (wrap64 (x23 + 1)) ≤ (x5.size : Int) then (if x3.length < 8796093022208 then (impl_trieOf.l1 k x0 (x3 ++ [x5.extract 0 ((wrap64 (x23 + 1)) : Int).toNat]) x5 x15 x16 x17 x22 (wrap64 (x23 + 1))) else (none)) else (none)) else (none)) else (impl_trieOf.l0 k x0 x3 x15 x16 (wrap64 (x17 + 1)))
def impl_trieOf.l2 : Nat → List ByteArray → List ByteArray → Int → Int → List (ByteArray × Int) → List (S68) → Option ((List (S68)))
 | 0, _, _, _, _, _, _ => none
 | k + 1, x0, x39, x40, x41, x334000, x335000 => if x41 < x40 then (if 0 ≤ x41 then (if x41 < (x39.length : Int) then (if x334000.length < 9223372036854775807 then (if (rdOf ByteArray.empty x39 x41).size ≤ 9223372036854775807 then (if -9223372036854775808 ≤ x41 then (if x41 ≤ 9223372036854775807 then ((some ((rdOf ByteArray.empty x39 x41, x41) :: x334000 : List (ByteArray × Int))).bind fun y336 => ((slices_BinarySearch_string_string.f k x0 (rdOf ByteArray.empty x39 x41)).bind fun bt337 => (if (rdOf ByteArray.empty x39 x41).toList = ([] : List UInt8) then (if x335000.length < 5864062014805 then (impl_trieOf.l2 k x0 x39 x40 (wrap64 (x41 + 1)) y336 (x335000 ++ [(⟨(-1), (-1), bt337.2⟩ : S68)])) else (none)) else (if 0 ≤ (wrap64 (((rdOf ByteArray.empty x39 x41).size : Int) - 1)) then (if (wrap64 (((rdOf ByteArray.empty x39 x41).size : Int) - 1)) < ((rdOf ByteArray.empty x39 x41).size : Int) then (if (wrap64 (((rdOf ByteArray.empty x39 x41).size : Int) - 1)) ≤ ((rdOf ByteArray.empty x39 x41).size : Int) then (if ((rdOf ByteArray.empty x39 x41).extract 0 ((wrap64 (((rdOf ByteArray.empty x39 x41).size : Int) - 1)) : Int).toNat).size ≤ 9223372036854775807 then (if x335000.length < 5864062014805 then (impl_trieOf.l2 k x0 x39 x40 (wrap64 (x41 + 1)) y336 (x335000 ++ [(⟨((bt (rdOf ByteArray.empty x39 x41) (wrap64 (((rdOf ByteArray.empty x39 x41).size : Int) - 1))) - 97) % 256, G.mapGet y336 ((rdOf ByteArray.empty x39 x41).extract 0 ((wrap64 (((rdOf ByteArray.empty x39 x41).size : Int) - 1)) : Int).toNat), bt337.2⟩ : S68)])) else (none)) else (none)) else (none)) else (none)) else (none))))) else (none)) else (none)) else (none)) else (none)) else (none)) else (none)) else (some x335000)
end
def impl_trieOf.f (k : Nat) (l0 : List ByteArray) : Option ((List (S68))) := impl_trieOf.l0 k l0 (([(⟨#[]⟩ : ByteArray)] : List ByteArray)) l0 (l0.length : Int) 0
theorem impl_trieOf.mono_l : ∀ k, (∀ y0 y1 y2 y3 y4, LeO (impl_trieOf.l0 k y0 y1 y2 y3 y4) (impl_trieOf.l0 (k + 1) y0 y1 y2 y3 y4)) ∧ (∀ y0 y1 y2 y3 y4 y5 y6 y7, LeO (impl_trieOf.l1 k y0 y1 y2 y3 y4 y5 y6 y7) (impl_trieOf.l1 (k + 1) y0 y1 y2 y3 y4 y5 y6 y7)) ∧ (∀ y0 y1 y2 y3 y4 y5, LeO (impl_trieOf.l2 k y0 y1 y2 y3 y4 y5) (impl_trieOf.l2 (k + 1) y0 y1 y2 y3 y4 y5))
 | 0 => ⟨fun _ _ _ _ _ r h => by simp [impl_trieOf.l0] at h, fun _ _ _ _ _ _ _ _ r h => by simp [impl_trieOf.l1] at h, fun _ _ _ _ _ _ r h => by simp [impl_trieOf.l2] at h⟩
 | k + 1 => by
  obtain ⟨ih0, ih1, ih2⟩ := impl_trieOf.mono_l k
  refine ⟨?_, ?_, ?_⟩ <;> intros
  all_goals (first | unfold impl_trieOf.l0 | unfold impl_trieOf.l1 | unfold impl_trieOf.l2)
  all_goals (repeat' first | (with_reducible first | exact ih0 .. | exact ih1 .. | exact ih2 .. | exact slices_BinarySearch_string_string.mono .. | exact LeO.refl _ | exact LeO.none _ | refine LeO.ite ?_ ?_ | refine LeO.bind ?_ (fun _ => ?_)) | exact ih0 .. | exact ih1 .. | exact ih2 .. | exact slices_BinarySearch_string_string.mono .. | exact LeO.none _ | refine LeO.ite ?_ ?_ | refine LeO.bind ?_ (fun _ => ?_))
theorem impl_trieOf.mono : ∀ a0 k, LeO (impl_trieOf.f k a0) (impl_trieOf.f (k + 1) a0) := by
 intro a0 k
 obtain ⟨ih0, ih1, ih2⟩ := impl_trieOf.mono_l k
 unfold impl_trieOf.f
 repeat' first | (with_reducible first | exact ih0 .. | exact ih1 .. | exact ih2 .. | exact slices_BinarySearch_string_string.mono .. | exact LeO.refl _ | exact LeO.none _ | refine LeO.ite ?_ ?_ | refine LeO.bind ?_ (fun _ => ?_)) | exact ih0 .. | exact ih1 .. | exact ih2 .. | exact slices_BinarySearch_string_string.mono .. | exact LeO.none _ | refine LeO.ite ?_ ?_ | refine LeO.bind ?_ (fun _ => ?_)
def impl_trieOf.T20 : Bool × List (List Nat × List Nat) := (true, [([], []), ([], []), ([1], [1]), ([2], [2]), ([0, 3], [0, 3]), ([4], [4]), ([5], [5]), ([], []), ([], []), ([], []), ([9], [9]), ([10], [10]), ([8, 11], [8, 11]), ([7, 12], [7, 12]), ([0, 1, 2, 3, 4, 5, 6], []), ([14, 6, 0, 1, 2, 3, 4, 5, 6], [6, 14]), ([0, 1, 2, 3, 4, 5, 6, 7, 8, 9, 10, 11, 12, 13, 14, 15], []), ([16, 13, 15, 0, 1, 2, 3, 4, 5, 6, 7, 8, 9, 10, 11, 12, 13, 14, 15], [13, 16])])
def impl_trieOf.B20 : List Nat := [0, 0, 2, 6, 15, 31, 63, 0, 0, 0, 512, 1536, 3840, 8064, 127, 16511, 65535, 131071]
theorem impl_trieOf.tab20 : rtab .any (opsOf Tryz.f41 20) = impl_trieOf.T20 := by kernel_rfl
theorem impl_trieOf.bits20 : waitsOk impl_trieOf.T20.2 impl_trieOf.B20 = true := by kernel_rfl
set_option maxHeartbeats 8000000 in
set_option maxRecDepth 100000 in
theorem impl_trieOf.calls (k : Nat) (A0 : Option Addr) (c0 : Nat) (l0 : List ByteArray) (r : List (S68)) (w : World) (hr0 : Kd.C Kd.string w A0 l0.length l0) (hc0 : l0.length ≤ c0) (h : impl_trieOf.f k l0 = some r) :
  Calls Tryz.prog 41 #[.slice A0 l0.length c0] w fun e w' => ∃ v0_ : Value, e = .returned (.agg #[v0_]) ∧ Kd.R k68 68 w' w.heap.size (fun _ => True) v0_ r ∧ Below w.heap.size w w' := by
 have hu51 := Tryz.underlying51; have hu68 := Tryz.underlying68; have HR0 := Aside0.mk hr0; have HC0 := Aside0.mk hc0; clear hr0 hc0; have HB := Aside0.mk (Below.refl w.heap.size w)
 have H : (impl_trieOf.l0 k l0 (([(⟨#[]⟩ : ByteArray)] : List ByteArray)) l0 (l0.length : Int) 0) = some r := h
 clear h
 obtain ⟨y323, hy323⟩ : ∃ y_ : List ByteArray, y_ = (([(⟨#[]⟩ : ByteArray)] : List ByteArray)) := ⟨_, rfl⟩
 replace H : (impl_trieOf.l0 k l0 y323 l0 (l0.length : Int) 0) = some r := by first | (rw [hy323]; with_reducible exact H) | (have H2_ := (Option.bind_some _ _).symm.trans H; rw [hy323]; with_reducible exact H2_) | (have H2_ := (Option.bind_some _ _).symm.trans H; with_reducible exact H2_) | with_reducible exact H | (rw [hy323]; exact H) | exact H
 have Ny323 := Aside0.mk hy323; clear hy323
 have H' := Aside0.mk H
 clear H
 go_enter Tryz.func41, Tryz.ntmps41
 go_wp2_with (first | ((with_reducible refine gate_dst (N := 2) rfl ?_); refine box_event ?hg (N := 2) ?hd (cs := #[.slice none 0 0]) (t := 51) ?hr ?_; (case hd => rfl); (case hg => rfl); (case hr => exact ax8); intro gb322 hg w2 hbox hb; have n0_ := Aside0.mk (below_step ax9 hb); have n1_ := Aside0.mk (hbox); have n2_ := Aside0.mk ((ax10 : w.heap.size ≤ gb322)); have n3_ := Aside0.mk ((ax10 : w.heap.size ≤ gb322)); clear HB; have HB := n0_; have BK322 := n1_; have GW322 := n2_; have GE322 := n3_; clear n0_ n1_ n2_ n3_; clear hb hbox hg) | ((with_reducible refine gate_dst (N := 14) rfl ?_); refine Kd.R_lit Kd.string _ 9 ?hg (N := 14) ?hd (xs := ([(⟨#[]⟩ : ByteArray)] : List ByteArray)) (inner := [.string (⟨#[]⟩ : ByteArray)]) (ok := fun _ => True) (okp := fun _ => True) ?hr ?hp (fun _ hk => hk) trivial (Below.refl _ _) (Nat.le_refl _) (by simp) ?_; (case hd => rfl); (case hg => rfl); (case hr => exact ax8); (case hp => exact ax59); intro v324 w3 ho4 hb hg_ hnew_; clear hg_ hnew_; (first | rw [← Ny323.out] at ho4 | (simp only [Int.reduceToNat] at ho4; rw [← Ny323.out] at ho4)); have n0_ := Aside0.mk (Kd.R_lower ho4 (below_size ax148)); have n1_ := Aside0.mk (blk_below (g := gb322) (o := .cells #[.slice none 0 0] 51 (0, 0)) ax149 hb); have n2_ := Aside0.mk (below_step ax148 hb); clear BK322; clear HB; have HO325 := n0_; have BK322 := n1_; have HB := n2_; clear n0_ n1_ n2_; clear hb ho4))
 go_loopg [3, 17] k (fun kq v3 v17 w' => ∃ (x3_1 : List ByteArray) (x17_1 : Int), v17 = .int .i64 x17_1 ∧ Aside0 (impl_trieOf.l0 kq l0 x3_1 l0 (l0.length : Int) x17_1 = some r) ∧ Aside0 (kq ≤ k) ∧ Aside0 (Kd.R Kd.string 9 w' w.heap.size (fun _ => True) v3 x3_1) ∧ Aside0 (w'.heap[gb322]? = some (.cells #[(.slice none 0 0)] 51 (0, 0))) ∧ Aside0 (Below w.heap.size w w'))
 case atStart => exact ⟨(y323), (0), ax15, H', ⟨Nat.le_refl _⟩, ⟨(by (with_reducible repeat (first | apply Kd.R_alloc | apply Kd.R_drewN | apply Kd.R_drew)); exact HO325.out)⟩, ⟨ax149⟩, ⟨ax148⟩⟩
 case round =>
  clear H'
  try clear p2
  try clear c4
  obtain ⟨x3_1, x17_1, rfl, HA, HK1, HO_3, BK322, HB⟩ := hrel
  cases gk with
  | zero => exact absurd HA.out (by simp [impl_trieOf.l0])
  | succ k1 =>
   have H := HA.out; clear HA
   simp only [impl_trieOf.l0] at H
   by_cases c5 : x17_1 < (l0.length : Int)
   ·rw [if_pos c5] at H
    have c5b0 : decide (x17_1 < (l0.length : Int)) = true := decide_eq_true c5
    clear c5
    by_cases c6 : 0 ≤ x17_1
    ·rw [if_pos c6] at H
     have c6b0 : decide (0 ≤ x17_1) = true := decide_eq_true c6
     clear c6
     by_cases c7 : x17_1 < (l0.length : Int)
     ·rw [if_pos c7] at H
      have c7b0 : decide (x17_1 < (l0.length : Int)) = true := decide_eq_true c7
      clear c7
      have H' := Aside0.mk H
      clear H
      have p326 : 0 ≤ (x17_1 : Int) := of_decide_eq_true ax17
      have q326 : x17_1 < (l0.length : Int) := of_decide_eq_true ax17
      obtain ⟨ad326, e326, hx326_0⟩ := Kd.at_string HR0.out x17_1 p326 q326
      cases e326; replace hx326_0 := (HB.out.cell (World.block_lt_of_cell? w _ hx326_0)).trans hx326_0; replace p326 := eq_true p326; replace q326 := eq_true q326
      go_wp2
      go_loopg [3, 23] k1 (fun kq v3 v23 w' => ∃ (x3_2 : List ByteArray) (x23_2 : Int), v23 = .int .i64 x23_2 ∧ Aside0 (impl_trieOf.l1 kq l0 x3_2 (rdOf ByteArray.empty l0 x17_1) l0 (l0.length : Int) x17_1 ((rdOf ByteArray.empty l0 x17_1).size : Int) x23_2 = some r) ∧ Aside0 (kq ≤ k1) ∧ Aside0 (Kd.R Kd.string 9 w' w.heap.size (fun _ => True) v3 x3_2) ∧ Aside0 (w'.heap[gb322]? = some (.cells #[(.slice none 0 0)] 51 (0, 0))) ∧ Aside0 (Below w.heap.size w w'))
      case atStart => exact ⟨(x3_1), (0), ax15, H', ⟨Nat.le_refl _⟩, ⟨ax150⟩, ⟨ax149⟩, ⟨ax148⟩⟩
      case round =>
       clear H'
       try clear p2
       try clear p3
       try clear q3
       try clear hx3
       try clear c4
       try clear c5
       try clear c5b0
       try clear c6
       try clear c6b0
       try clear c7
       try clear c7b0
       try clear hx326_0
       try clear p2
       try clear p326
       try clear q326
       obtain ⟨x3_2, x23_2, rfl, HA, HK2, HO_3, BK322, HB⟩ := hrel
       cases gk with
       | zero => exact absurd HA.out (by simp [impl_trieOf.l1])
       | succ k2 =>
        have H := HA.out; clear HA
        simp only [impl_trieOf.l1] at H
        by_cases c8 : x23_2 < ((rdOf ByteArray.empty l0 x17_1).size : Int)
        ·rw [if_pos c8] at H
         have c8b0 : decide (x23_2 < ((rdOf ByteArray.empty l0 x17_1).size : Int)) = true := decide_eq_true c8
         clear c8
         obtain ⟨ji9, hji9⟩ : ∃ j_ : Int, (wrap64 (x23_2 + 1)) = j_ := ⟨_, rfl⟩
         replace H : (if 0 ≤ (ji9) then (if (ji9) ≤ ((rdOf ByteArray.empty l0 x17_1).size : Int) then (if x3_2.length < 8796093022208 then (impl_trieOf.l1 k2 l0 (x3_2 ++ [(rdOf ByteArray.empty l0 x17_1).extract 0 ((ji9) : Int).toNat]) (rdOf ByteArray.empty l0 x17_1) l0 (l0.length : Int) x17_1 ((rdOf ByteArray.empty l0 x17_1).size : Int) ji9) else (none)) else (none)) else (none)) = some r := by first | (rw [hji9] at H; exact H) | (simp only [hji9] at H ⊢; exact H)
         have hji9w : (IntKind.i64.wrap (x23_2 + 1)) = ji9 := (i64_w _).trans hji9
         by_cases c10 : 0 ≤ (ji9)
         ·rw [if_pos c10] at H
          have c10b0 := eq_true c10
          have c10b1 : decide (0 ≤ (ji9)) = true := decide_eq_true c10
          clear c10
          by_cases c11 : (ji9) ≤ ((rdOf ByteArray.empty l0 x17_1).size : Int)
          ·rw [if_pos c11] at H
           have c11b0 := eq_true c11
           have c11b1 : decide ((ji9) ≤ ((rdOf ByteArray.empty l0 x17_1).size : Int)) = true := decide_eq_true c11
           clear c11
           obtain ⟨js12, hjs12⟩ : ∃ j_ : ByteArray, ((rdOf ByteArray.empty l0 x17_1).extract 0 ((ji9) : Int).toNat) = j_ := ⟨_, rfl⟩
           replace H : (if x3_2.length < 8796093022208 then (impl_trieOf.l1 k2 l0 (x3_2 ++ [js12]) (rdOf ByteArray.empty l0 x17_1) l0 (l0.length : Int) x17_1 ((rdOf ByteArray.empty l0 x17_1).size : Int) ji9) else (none)) = some r := by first | (rw [hjs12] at H; exact H) | (simp only [hjs12] at H ⊢; exact H)
           by_cases c13 : x3_2.length < 8796093022208
           ·rw [if_pos c13] at H
            have LMc13 := Aside0.mk c13; clear c13
            obtain ⟨y327, hy327⟩ : ∃ y_ : List ByteArray, y_ = (x3_2 ++ [js12]) := ⟨_, rfl⟩
            replace H : (impl_trieOf.l1 k2 l0 y327 (rdOf ByteArray.empty l0 x17_1) l0 (l0.length : Int) x17_1 ((rdOf ByteArray.empty l0 x17_1).size : Int) ji9) = some r := by first | (rw [hy327]; with_reducible exact H) | (have H2_ := (Option.bind_some _ _).symm.trans H; rw [hy327]; with_reducible exact H2_) | (have H2_ := (Option.bind_some _ _).symm.trans H; with_reducible exact H2_) | with_reducible exact H | (rw [hy327]; exact H) | exact H
            have Ny327 := Aside0.mk hy327; clear hy327
            have H' := Aside0.mk H
            clear H
            go_wp2_with (first | ((with_reducible refine gate_builtin (b := .append) (xs := #[.tmp 26, .tmp 31]) rfl ?_); at_builtin; refine Kd.R_append Kd.string (w0 := w) w.heap.size rfl (.tmp 26) (.tmp 31) 45 9 (.string ⟨#[]⟩) 16 rfl Tryz.underlying45 info9 rfl (by decide) (by omega) u3 x3_2 js12 [.string js12] (fun _ => True) (fun _ => False) rfl rfl ?aP (fun _ hk => hk.elim) ?aF ?aO ?aB ?aS ?aL ?_; (case aP => exact rfl); (case aB => exact ax148); (case aF => exact ax20); (case aO => exact ax150); (case aS => exact (below_size ax148)); (case aL => have := LMc13.out; omega); intro v328 w14 ho hb hg hat; rw [← Ny327.out] at ho; have n0_ := Aside0.mk (blk_grown (g := gb322) (o := .cells #[.slice none 0 0] 51 (0, 0)) ax149 hg (Kd.R_ne HO_3.out BK322.out (by decide))); have n1_ := Aside0.mk (hb); have n2_ := Aside0.mk (ho); clear BK322; clear HB; clear HO_3; have BK322 := n0_; have HB := n1_; have HO329 := n2_; clear n0_ n1_ n2_; clear ho hb hg hat))
            go_roundg k2
            case measure => have := HK1.out; have := HK2.out; omega
            case rel => exact ⟨(y327), (ji9), (by first | rfl | (simp; done) | (simp only [← hji9] <;> (first | rfl | simp)) | (simp [*]; done)), H', ⟨ax63⟩, ⟨(by (with_reducible repeat (first | apply Kd.R_alloc | apply Kd.R_drewN | apply Kd.R_drew)); exact HO329.out)⟩, ⟨ax149⟩, ⟨ax148⟩⟩
           ·rw [if_neg c13] at H
            exact absurd H (by simp)
          ·exact ax3
         ·exact ax4
        ·rw [if_neg c8] at H
         have c8b0 : decide (x23_2 < ((rdOf ByteArray.empty l0 x17_1).size : Int)) = false := decide_eq_false c8
         clear c8
         have H' := Aside0.mk H
         clear H
         go_wp2
         go_roundg k2
         case measure => have := HK1.out; have := HK2.out; omega
         case rel => exact ⟨(x3_2), (wrap64 (x17_1 + 1)), ax15, H', ⟨ax63⟩, ⟨ax150⟩, ⟨ax149⟩, ⟨ax148⟩⟩
     ·exact ax6
    ·exact ax1
   ·rw [if_neg c5] at H
    have c5b0 : decide (x17_1 < (l0.length : Int)) = false := decide_eq_false c5
    clear c5
    obtain ⟨t330, A15, H⟩ := bs H
    have H' := Aside0.mk H
    clear H
    obtain ⟨Ao16, co16, eo16⟩ := Kd.R_slice HO_3.out
    subst eo16
    go_wp2_with (first | ((with_reducible refine gate_callee (f := 40) rfl ?_); refine goesL_ (some 36) rfl rfl Tryz.func40 (by kernel_rfl) rfl #[.slice Ao16 x3_1.length co16] rfl ax12 ?_; (with_reducible refine (impl_set.calls _ _ x3_1 t330 _ ?side1 ?side2 A15.out).mono ?_); (case side1 => repeat (first | exact (Kd.R_reads' HO_3.out).2.2 | (with_reducible refine Kd.C_alloc ?_ _) | (with_reducible refine Kd.C_drewN ?_ _) | (with_reducible refine Kd.C_drew ?_))); (case side2 => exact (Kd.R_reads' HO_3.out).2.1); rintro e w17 ⟨v331, rfl, ho0, hb⟩; refine ⟨_, rfl, ?_⟩; have n0_ := Aside0.mk (Kd.R_elder' ax150 (Kd.R_base ho0) hb); have n1_ := Aside0.mk (Kd.R_lower (Kd.R_new' ho0 (Kd.R_lt ax150)) (below_size ax148)); have n2_ := Aside0.mk (blk_below (g := gb322) (o := .cells #[.slice none 0 0] 51 (0, 0)) ax149 hb); have n3_ := Aside0.mk (below_step ax148 hb); clear HO_3; clear BK322; clear HB; have HO_3 := n0_; have HO332 := n1_; have BK322 := n2_; have HB := n3_; clear n0_ n1_ n2_ n3_; (try clear hb); (try clear hb2); (try clear hk); (try clear hi); (try clear ho0)) | ((with_reducible refine gate_dst (N := 38) rfl ?_); refine G.mnew_event ?hg (N := 38) ?hd 9 3 ?hr ?_; (case hd => rfl); (case hg => rfl); (case hr => first | rfl | (go_simp; done) | (go_simp; rfl) | (simp [execOp, run_makeMap]; done)); intro gm333 hg w18 hmap hb; have n0_ := Aside0.mk (Kd.R_below ax150 hb); have n1_ := Aside0.mk (Kd.R_below ax151 hb); have n2_ := Aside0.mk (blk_below (g := gb322) (o := .cells #[.slice none 0 0] 51 (0, 0)) ax149 hb); have n3_ := Aside0.mk (below_step ax148 hb); have n4_ := Aside0.mk (hmap); have n5_ := Aside0.mk ((ax152 : w.heap.size ≤ gm333)); clear HO_3; clear HO332; clear BK322; clear HB; have HO_3 := n0_; have HO332 := n1_; have BK322 := n2_; have HB := n3_; have MP333 := n4_; have GM333 := n5_; clear n0_ n1_ n2_ n3_ n4_ n5_; clear hb hmap hg) | ((with_reducible refine gate_dst (N := 7) rfl ?_); refine box_event ?hg (N := 7) ?hd (cs := #[.slice none 0 0]) (t := 51) ?hr ?_; (case hd => rfl); (case hg => rfl); (case hr => exact ax8); intro gb334 hg w19 hbox hb; have n0_ := Aside0.mk (Kd.R_below ax150 hb); have n1_ := Aside0.mk (Kd.R_below ax151 hb); have n2_ := Aside0.mk (blk_below (g := gb322) (o := .cells #[.slice none 0 0] 51 (0, 0)) ax149 hb); have n3_ := Aside0.mk (G.MapIs.below (show G.MapIs Tryz.prog 9 3 _ gm333 ([] : List (ByteArray × Int)) from by repeat (first | (with_reducible first | exact MP333.out | apply G.MapIs.alloc | apply G.MapIs.drewN | apply G.MapIs.drew) | exact MP333.out)) hb); have n4_ := Aside0.mk (below_step ax148 hb); have n5_ := Aside0.mk (hbox); have n6_ := Aside0.mk ((ax152 : w.heap.size ≤ gb334)); have n7_ := Aside0.mk ((ax152 : w.heap.size ≤ gb334)); have n8_ := Aside0.mk ((ax153 : gb322 ≠ gb334)); have n9_ := Aside0.mk ((ax154 : gb334 ≠ gb322)); clear HO_3; clear HO332; clear BK322; clear MP333; clear HB; have HO_3 := n0_; have HO332 := n1_; have BK322 := n2_; have MP333 := n3_; have HB := n4_; have BK334 := n5_; have GW334 := n6_; have GE334 := n7_; have NB322_334 := n8_; have NB334_322 := n9_; clear n0_ n1_ n2_ n3_ n4_ n5_ n6_ n7_ n8_ n9_; clear hb hbox hg; have hnb20 := NB334_322.out; have hnc20 := NB322_334.out; have hcz21_0 : w19.cell? ⟨gb334, 0, none⟩ = some (.slice none 0 0) := (blk_cell BK334.out 0).trans rfl; have hfz21_0 := blk_frozen BK334.out 0; obtain ⟨Ao22, co22, eo22⟩ := Kd.R_slice HO332.out; subst eo22))
    go_loopg [41] k1 (fun kq v41 w' => ∃ (x41_2 : Int) (x334000_2 : List (ByteArray × Int)) (x335000_2 : List (S68)) (u335000 : Value), v41 = .int .i64 x41_2 ∧ Aside0 (impl_trieOf.l2 kq l0 t330 (t330.length : Int) x41_2 x334000_2 x335000_2 = some r) ∧ Aside0 (kq ≤ k1) ∧ Aside0 (Kd.R Kd.string 9 w' w.heap.size (fun _ => True) (.slice Ao22 t330.length co22) t330) ∧ Aside0 (Kd.R k68 68 w' w.heap.size (fun _ => True) u335000 x335000_2) ∧ Aside0 (w'.heap[gb322]? = some (.cells #[(.slice none 0 0)] 51 (0, 0))) ∧ Aside0 (w'.heap[gb334]? = some (.cells #[u335000] 51 (0, 0))) ∧ Aside0 (G.MapIs Tryz.prog 9 3 w' gm333 x334000_2) ∧ Aside0 (Below w.heap.size w w'))
    case atStart => exact ⟨(0), (([] : List (ByteArray × Int))), (([] : List (S68))), (.slice none 0 0), ax15, H', ⟨Nat.le_refl _⟩, ⟨(by (with_reducible repeat (first | apply Kd.R_alloc | apply Kd.R_drewN | apply Kd.R_drew)); exact Kd.R_mono (Kd.R_far (p := ⟨gb334, 0, none⟩) (Kd.R_types HO332.out BK334.out (by decide)) (fun _ hk => hk.2) (.slice none 0 0)) (fun _ hk => trivial))⟩, ⟨(by first | exact Kd.R_nil _ _ _ _ _ | exact Kd.N_nil _ _ _ _ _ | exact Kd.V_nil _ _ _ _ _ | exact Kd.Q_nil _ _ _ _ _ | exact Kd.S_nil _ _ _ _ _)⟩, ⟨ax155⟩, ⟨(by (with_reducible repeat (first | refine blk_drewN ?_ _ | refine blk_drew ?_ | refine blk_alloc ?_ _)); refine blk_put (cs := #[.slice none 0 0]) ?_ 0 _ rfl; (with_reducible repeat (first | refine blk_drewN ?_ _ | refine blk_drew ?_ | refine blk_alloc ?_ _)); exact BK334.out)⟩, ⟨show G.MapIs Tryz.prog 9 3 _ gm333 ([] : List (ByteArray × Int)) from by repeat (first | (with_reducible first | exact MP333.out | apply G.MapIs.alloc | apply G.MapIs.drewN | apply G.MapIs.drew | refine G.MapIs.set ?_ (G.MapIs.ne_blk MP333.out BK334.out) _ _) | exact MP333.out)⟩, ⟨ax156⟩⟩
    case round =>
     clear H'
     try clear c1
     try clear c2
     try clear p2
     try clear p3
     try clear q3
     try clear hx3
     try clear c4
     try clear c5
     try clear c5b0
     try clear c6
     try clear c6b0
     try clear p6
     try clear c7
     try clear c7b0
     try clear c8
     try clear c8b0
     try clear c10
     try clear c10b0
     try clear c10b1
     try clear c11
     try clear c11b0
     try clear c11b1
     try clear c13
     try clear c20
     try clear hcz21_0
     try clear hfz21_0
     try clear hx326_0
     try clear p2
     try clear p3
     try clear p326
     try clear q3
     try clear q326
     obtain ⟨x41_2, x334000_2, x335000_2, u335000, rfl, HA, HK2, HO_39, HO_335000, BK322, BK334, MP333, HB⟩ := hrel
     cases gk with
     | zero => exact absurd HA.out (by simp [impl_trieOf.l2])
     | succ k2 =>
      have H := HA.out; clear HA
      simp only [impl_trieOf.l2] at H
      by_cases c23 : x41_2 < (t330.length : Int)
      ·rw [if_pos c23] at H
       have c23b0 : decide (x41_2 < (t330.length : Int)) = true := decide_eq_true c23
       clear c23
       by_cases c24 : 0 ≤ x41_2
       ·rw [if_pos c24] at H
        have c24b0 : decide (0 ≤ x41_2) = true := decide_eq_true c24
        clear c24
        by_cases c25 : x41_2 < (t330.length : Int)
        ·rw [if_pos c25] at H
         have c25b0 : decide (x41_2 < (t330.length : Int)) = true := decide_eq_true c25
         clear c25
         by_cases c26 : x334000_2.length < 9223372036854775807
         ·rw [if_pos c26] at H
          have LMc26 := Aside0.mk c26; clear c26
          by_cases c27 : (rdOf ByteArray.empty t330 x41_2).size ≤ 9223372036854775807
          ·rw [if_pos c27] at H
           have LMc27 := Aside0.mk c27; clear c27
           by_cases c28 : -9223372036854775808 ≤ x41_2
           ·rw [if_pos c28] at H
            have LMc28 := Aside0.mk c28; clear c28
            by_cases c29 : x41_2 ≤ 9223372036854775807
            ·rw [if_pos c29] at H
             have LMc29 := Aside0.mk c29; clear c29
             obtain ⟨y336, hy336⟩ : ∃ y_ : List (ByteArray × Int), y_ = ((rdOf ByteArray.empty t330 x41_2, x41_2) :: x334000_2) := ⟨_, rfl⟩
             replace H : ((slices_BinarySearch_string_string.f k2 l0 (rdOf ByteArray.empty t330 x41_2)).bind fun bt337 => (if (rdOf ByteArray.empty t330 x41_2).toList = ([] : List UInt8) then (if x335000_2.length < 5864062014805 then (impl_trieOf.l2 k2 l0 t330 (t330.length : Int) (wrap64 (x41_2 + 1)) y336 (x335000_2 ++ [(⟨(-1), (-1), bt337.2⟩ : S68)])) else (none)) else (if 0 ≤ (wrap64 (((rdOf ByteArray.empty t330 x41_2).size : Int) - 1)) then (if (wrap64 (((rdOf ByteArray.empty t330 x41_2).size : Int) - 1)) < ((rdOf ByteArray.empty t330 x41_2).size : Int) then (if (wrap64 (((rdOf ByteArray.empty t330 x41_2).size : Int) - 1)) ≤ ((rdOf ByteArray.empty t330 x41_2).size : Int) then (if ((rdOf ByteArray.empty t330 x41_2).extract 0 ((wrap64 (((rdOf ByteArray.empty t330 x41_2).size : Int) - 1)) : Int).toNat).size ≤ 9223372036854775807 then (if x335000_2.length < 5864062014805 then (impl_trieOf.l2 k2 l0 t330 (t330.length : Int) (wrap64 (x41_2 + 1)) y336 (x335000_2 ++ [(⟨((bt (rdOf ByteArray.empty t330 x41_2) (wrap64 (((rdOf ByteArray.empty t330 x41_2).size : Int) - 1))) - 97) % 256, G.mapGet y336 ((rdOf ByteArray.empty t330 x41_2).extract 0 ((wrap64 (((rdOf ByteArray.empty t330 x41_2).size : Int) - 1)) : Int).toNat), bt337.2⟩ : S68)])) else (none)) else (none)) else (none)) else (none)) else (none)))) = some r := by first | (rw [hy336]; with_reducible exact H) | (have H2_ := (Option.bind_some _ _).symm.trans H; rw [hy336]; with_reducible exact H2_) | (have H2_ := (Option.bind_some _ _).symm.trans H; with_reducible exact H2_) | with_reducible exact H | (rw [hy336]; exact H) | exact H
             have Ny336 := Aside0.mk hy336; clear hy336
             obtain ⟨⟨t337, t338⟩, A30, H⟩ := bs H
             by_cases c31 : (rdOf ByteArray.empty t330 x41_2).toList = ([] : List UInt8)
             ·rw [if_pos c31] at H
              have c31b0 : ((rdOf ByteArray.empty t330 x41_2).toList == ([] : List UInt8)) = true := beq_iff_eq.mpr c31
              have c31b1 : ((rdOf ByteArray.empty t330 x41_2).toList != ([] : List UInt8)) = false := bne_eq_false_iff_eq.mpr c31
              clear c31
              by_cases c32 : x335000_2.length < 5864062014805
              ·rw [if_pos c32] at H
               have LMc32 := Aside0.mk c32; clear c32
               obtain ⟨y340, hy340⟩ : ∃ y_ : List (S68), y_ = (x335000_2 ++ [(⟨(-1), (-1), t338⟩ : S68)]) := ⟨_, rfl⟩
               replace H : (impl_trieOf.l2 k2 l0 t330 (t330.length : Int) (wrap64 (x41_2 + 1)) y336 y340) = some r := by first | (rw [hy340]; with_reducible exact H) | (have H2_ := (Option.bind_some _ _).symm.trans H; rw [hy340]; with_reducible exact H2_) | (have H2_ := (Option.bind_some _ _).symm.trans H; with_reducible exact H2_) | with_reducible exact H | (rw [hy340]; exact H) | exact H
               have Ny340 := Aside0.mk hy340; clear hy340
               have H' := Aside0.mk H
               clear H
               have p335 : 0 ≤ (x41_2 : Int) := of_decide_eq_true ax17
               have q335 : x41_2 < (t330.length : Int) := of_decide_eq_true ax17
               obtain ⟨ad335, e335, hx335_0⟩ := Kd.at_string (Kd.R_reads' HO_39.out).2.2 x41_2 p335 q335
               cases e335; replace p335 := eq_true p335; replace q335 := eq_true q335
               go_wp2_with (first | ((with_reducible refine G.gate_mput (t := 91) (m := .tmp 46) (x := .tmp 47) (v := .tmp 48) rfl ?_); refine G.mput_event ?hg (t := 91) (m := .tmp 46) (x := .tmp 47) (v := .tmp 48) ?ho ?hd (b := gm333) (s := (rdOf ByteArray.empty t330 x41_2)) (i := x41_2) ?hm ?hx ?hv (K := 9) (E := 3) (c := x334000_2) ?ht ?hK ?hE ?hw ?hs ?hl ?hmap ?_; (case hg => rfl); (case ho => rfl); (case hd => rfl); (case hm => rfl); (case hx => rfl); (case hv => rfl); (case ht => exact Tryz.underlying91); (case hK => exact Tryz.underlying9); (case hE => exact Tryz.underlying3); (case hw => exact ax157); (case hs => exact LMc27.out); (case hl => exact LMc26.out); (case hmap => exact ax158); intro w33 hmap hg; rw [← Ny336.out] at hmap; have n0_ := Aside0.mk (Kd.R_grown1 ax159 rfl hg (G.MapIs.ne_row MP333.out HO_39.out)); have n1_ := Aside0.mk (Kd.R_grown1 ax160 rfl hg (G.MapIs.ne_row MP333.out HO_335000.out)); have n2_ := Aside0.mk (blk_grown (g := gb322) (o := .cells #[.slice none 0 0] 51 (0, 0)) ax149 hg (fun e_ => G.MapIs.ne_blk MP333.out BK322.out ax161)); have n3_ := Aside0.mk (blk_grown (g := gb334) (o := .cells #[u335000] 51 (0, 0)) ax162 hg (fun e_ => G.MapIs.ne_blk MP333.out BK334.out ax161)); have n4_ := Aside0.mk (hmap); have n5_ := Aside0.mk (Below.grown ax156 hg (below_size ax156) (fun k_ e_ => by cases e_; exact GM333.out)); clear HO_39; clear HO_335000; clear BK322; clear BK334; clear MP333; clear HB; have HO_39 := n0_; have HO_335000 := n1_; have BK322 := n2_; have BK334 := n3_; have MP333 := n4_; have HB := n5_; clear n0_ n1_ n2_ n3_ n4_ n5_; clear hmap hg) | ((with_reducible refine gate_callee (f := 56) rfl ?_); refine goesL_ (some 52) rfl rfl Tryz.func56 (by kernel_rfl) rfl #[.slice A0 l0.length c0, .string (rdOf ByteArray.empty t330 x41_2)] rfl ax12 ?_; (with_reducible refine (slices_BinarySearch_string_string.calls k2 _ _ l0 (rdOf ByteArray.empty t330 x41_2) t337 t338 _ ?side1 ?side2 A30.out).mono ?_); (case side1 => exact ax24); (case side2 => exact HC0.out); rintro e w' ⟨rfl, ⟨nd, rfl⟩⟩; refine ⟨_, rfl, ?_⟩; (try (rw [drewN_self w33]; generalize hq_ : World.drewN w33 _ = w33; have n0_ : Aside0 (Kd.R k68 68 w33 w.heap.size (fun _ => True) u335000 x335000_2) := ⟨ax163⟩; have n1_ : Aside0 (Kd.R Kd.string 9 w33 w.heap.size (fun _ => True) (.slice (some ad335) t330.length co22) t330) := ⟨ax164⟩; have n2_ : Aside0 (G.MapIs Tryz.prog 9 3 w33 gm333 y336) := ⟨ax165⟩; have n3_ : Aside0 (w33.heap[gb322]? = some (.cells #[.slice none 0 0] 51 (0, 0))) := ⟨ax166⟩; have n4_ : Aside0 (w33.heap[gb334]? = some (.cells #[u335000] 51 (0, 0))) := ⟨ax167⟩; have n5_ : Aside0 (Below w.heap.size w w33) := ⟨ax168⟩; clear HO_335000 HO_39 MP333 BK322 BK334 HB hq_; have HO_335000 := n0_; have HO_39 := n1_; have MP333 := n2_; have BK322 := n3_; have BK334 := n4_; have HB := n5_; clear n0_ n1_ n2_ n3_ n4_ n5_))) | ((with_reducible refine gate_dst (N := 13) rfl ?_); refine box_event ?hg (N := 13) ?hd (cs := #[.int .i64 0, .int .i64 0, .bool false]) (t := 68) ?hr ?_; (case hd => rfl); (case hg => rfl); (case hr => exact ax8); intro gb339 hg w34 hbox hb; have n0_ := Aside0.mk (Kd.R_below ax159 hb); have n1_ := Aside0.mk (Kd.R_below (Kd.R_elderB ax160 gb339 (Nat.le_of_eq hg.symm)) hb); have n2_ := Aside0.mk (blk_below (g := gb322) (o := .cells #[.slice none 0 0] 51 (0, 0)) ax149 hb); have n3_ := Aside0.mk (blk_below (g := gb334) (o := .cells #[u335000] 51 (0, 0)) ax162 hb); have n4_ := Aside0.mk (G.MapIs.below (show G.MapIs Tryz.prog 9 3 _ gm333 y336 from by repeat (first | (with_reducible first | exact MP333.out | apply G.MapIs.alloc | apply G.MapIs.drewN | apply G.MapIs.drew) | exact MP333.out)) hb); have n5_ := Aside0.mk (below_step ax156 hb); have n6_ := Aside0.mk (hbox); have n7_ := Aside0.mk ((ax169 : w.heap.size ≤ gb339)); have n8_ := Aside0.mk ((ax169 : w.heap.size ≤ gb339)); have n9_ := Aside0.mk ((ax153 : gb322 ≠ gb339)); have n10_ := Aside0.mk ((ax154 : gb339 ≠ gb322)); have n11_ := Aside0.mk ((ax170 : gb334 ≠ gb339)); have n12_ := Aside0.mk ((ax171 : gb339 ≠ gb334)); clear HO_39; clear HO_335000; clear BK322; clear BK334; clear MP333; clear HB; have HO_39 := n0_; have HO_335000 := n1_; have BK322 := n2_; have BK334 := n3_; have MP333 := n4_; have HB := n5_; have BK339 := n6_; have GW339 := n7_; have GE339 := n8_; have NB322_339 := n9_; have NB339_322 := n10_; have NB334_339 := n11_; have NB339_334 := n12_; clear n0_ n1_ n2_ n3_ n4_ n5_ n6_ n7_ n8_ n9_ n10_ n11_ n12_; clear hb hbox hg; have hnb35 := NB339_322.out; have hnc35 := NB322_339.out; have hnb36 := NB339_334.out; have hnc36 := NB334_339.out; have hcz37_0 : w34.cell? ⟨gb339, 0, none⟩ = some (.int .i64 0) := (blk_cell BK339.out 0).trans rfl; have hcz37_1 : w34.cell? ⟨gb339, 1, none⟩ = some (.int .i64 0) := (blk_cell BK339.out 1).trans rfl; have hcz37_2 : w34.cell? ⟨gb339, 2, none⟩ = some (.bool false) := (blk_cell BK339.out 2).trans rfl; have hfz37_0 := blk_frozen BK339.out 0; have hfz37_1 := blk_frozen BK339.out 1; have hfz37_2 := blk_frozen BK339.out 2; have hnb38 := NB334_322.out; have hnc38 := NB322_334.out; have hcz39_0 : w34.cell? ⟨gb334, 0, none⟩ = some (u335000) := (blk_cell BK334.out 0).trans rfl; have hfz39_0 := blk_frozen BK334.out 0) | ((with_reducible refine gate_builtin (b := .append) (xs := #[.tmp 76, .tmp 78]) rfl ?_); at_builtin; refine Kd.R_append k68 (w0 := w) w.heap.size rfl (.tmp 76) (.tmp 78) 49 68 (.agg #[(.int .i64 0), (.int .i64 0), (.bool false)]) 24 rfl Tryz.underlying49 info68 rfl (by decide) (by omega) u335000 x335000_2 (⟨(-1), (-1), t338⟩ : S68) [.int .i64 (-1), .int .i64 (-1), .bool t338] (fun k_ => k_ ≠ gb339) (fun _ => False) rfl ax8 ?aP (fun _ hk => hk.elim) ?aF ?aO ?aB ?aS ?aL ?_; (case aP => exact k68_mkM _ _ _ (⟨(-1), (-1), t338⟩ : S68)); (case aB => exact ax172); (case aF => exact (fun k_ hk => Kd.freshB (g := gb339) (o := .cells #[.int .i64 (-1), .int .i64 (-1), .bool t338] 68 (0, 0)) ax173 k_ hk)); (case aO => exact ax174); (case aS => exact ax175); (case aL => have := LMc32.out; omega); intro v341 w40 ho hb hg hat; rw [← Ny340.out] at ho; have n0_ := Aside0.mk (Kd.R_over' (by (with_reducible repeat (first | apply Kd.R_alloc | apply Kd.R_drewN | apply Kd.R_drew)); exact (Kd.R_mono (Kd.R_far (p := ⟨gb339, 2, none⟩) (Kd.R_far (p := ⟨gb339, 1, none⟩) (Kd.R_far (p := ⟨gb339, 0, none⟩) (Kd.R_types HO_39.out BK339.out (by decide)) (fun _ hk => hk.2) (.int .i64 (-1))) (fun _ hk => hk.2) (.int .i64 (-1))) (fun _ hk => hk.2) (.bool t338)) (fun _ h_ => h_.1))) (Kd.R_typed (by (with_reducible repeat (first | apply Kd.R_alloc | apply Kd.R_drewN | apply Kd.R_drew)); exact (Kd.R_mono (Kd.R_far (p := ⟨gb339, 2, none⟩) (Kd.R_far (p := ⟨gb339, 1, none⟩) (Kd.R_far (p := ⟨gb339, 0, none⟩) (Kd.R_mono HO_335000.out (fun k_ hk => (⟨hk, hk.2⟩ : _ ∧ k_ ≠ gb339))) (fun _ hk => hk.2) (.int .i64 (-1))) (fun _ hk => hk.2) (.int .i64 (-1))) (fun _ hk => hk.2) (.bool t338)) (fun _ h_ => h_.1)))) (by decide) hg); have n1_ := Aside0.mk (blk_grown (g := gb322) (o := .cells #[.slice none 0 0] 51 (0, 0)) ax176 hg (Kd.R_ne HO_335000.out BK322.out (by decide))); have n2_ := Aside0.mk (blk_grown (g := gb334) (o := .cells #[u335000] 51 (0, 0)) ax177 hg (Kd.R_ne HO_335000.out BK334.out (by decide))); have n3_ := Aside0.mk (G.MapIs.grown (show G.MapIs Tryz.prog 9 3 _ gm333 y336 from by repeat (first | (with_reducible first | exact MP333.out | apply G.MapIs.alloc | apply G.MapIs.drewN | apply G.MapIs.drew | refine G.MapIs.set ?_ (G.MapIs.ne_blk MP333.out BK339.out) _ _ | refine G.MapIs.set ?_ (G.MapIs.ne_blk MP333.out BK339.out) _ _ | refine G.MapIs.set ?_ (G.MapIs.ne_blk MP333.out BK339.out) _ _) | exact MP333.out)) hg (G.MapIs.ne_row MP333.out HO_335000.out)); have n4_ := Aside0.mk (blk_grown (g := gb339) (o := .cells #[.int .i64 (-1), .int .i64 (-1), .bool t338] 68 (0, 0)) ax173 hg (Kd.R_away HO_335000.out (fun _ hk => hk.2))); have n5_ := Aside0.mk (hb); have n6_ := Aside0.mk (ho); clear HO_39; clear BK322; clear BK334; clear MP333; clear BK339; clear HB; clear HO_335000; have HO_39 := n0_; have BK322 := n1_; have BK334 := n2_; have MP333 := n3_; have BK339 := n4_; have HB := n5_; have HO342 := n6_; clear n0_ n1_ n2_ n3_ n4_ n5_ n6_; clear ho hb hg hat; obtain ⟨Ao41, co41, eo41⟩ := Kd.R_slice HO342.out; subst eo41; have hcz42_0 : w40.cell? ⟨gb334, 0, none⟩ = some (u335000) := (blk_cell BK334.out 0).trans rfl; have hfz42_0 := blk_frozen BK334.out 0))
               go_roundg k2
               case measure => have := HK1.out; have := HK2.out; omega
               case rel => exact ⟨(wrap64 (x41_2 + 1)), (y336), (y340), (.slice Ao41 y340.length co41), ax15, H', ⟨ax63⟩, ⟨(by (with_reducible repeat (first | apply Kd.R_alloc | apply Kd.R_drewN | apply Kd.R_drew)); exact Kd.R_mono (Kd.R_far (p := ⟨gb334, 0, none⟩) (Kd.R_types HO_39.out BK334.out (by decide)) (fun _ hk => hk.2) (.slice Ao41 y340.length co41)) (fun _ hk => trivial))⟩, ⟨(by (with_reducible repeat (first | apply Kd.R_alloc | apply Kd.R_drewN | apply Kd.R_drew)); exact Kd.R_mono (Kd.R_far (p := ⟨gb334, 0, none⟩) (Kd.R_types HO342.out BK334.out (by decide)) (fun _ hk => hk.2) (.slice Ao41 y340.length co41)) (fun _ hk => trivial))⟩, ⟨ax155⟩, ⟨ax178⟩, ⟨show G.MapIs Tryz.prog 9 3 _ gm333 y336 from by repeat (first | (with_reducible first | exact MP333.out | apply G.MapIs.alloc | apply G.MapIs.drewN | apply G.MapIs.drew | refine G.MapIs.set ?_ (G.MapIs.ne_blk MP333.out BK334.out) _ _) | exact MP333.out)⟩, ⟨ax179⟩⟩
              ·rw [if_neg c32] at H
               exact absurd H (by simp)
             ·rw [if_neg c31] at H
              have c31b0 : ((rdOf ByteArray.empty t330 x41_2).toList == ([] : List UInt8)) = false := beq_eq_false_iff_ne.mpr c31
              have c31b1 : ((rdOf ByteArray.empty t330 x41_2).toList != ([] : List UInt8)) = true := bne_iff_ne.mpr c31
              obtain ⟨ji43, hji43⟩ : ∃ j_ : Int, (wrap64 (((rdOf ByteArray.empty t330 x41_2).size : Int) - 1)) = j_ := ⟨_, rfl⟩
              replace H : (if 0 ≤ (ji43) then (if (ji43) < ((rdOf ByteArray.empty t330 x41_2).size : Int) then (if (ji43) ≤ ((rdOf ByteArray.empty t330 x41_2).size : Int) then (if ((rdOf ByteArray.empty t330 x41_2).extract 0 ((ji43) : Int).toNat).size ≤ 9223372036854775807 then (if x335000_2.length < 5864062014805 then (impl_trieOf.l2 k2 l0 t330 (t330.length : Int) (wrap64 (x41_2 + 1)) y336 (x335000_2 ++ [(⟨((bt (rdOf ByteArray.empty t330 x41_2) (ji43)) - 97) % 256, G.mapGet y336 ((rdOf ByteArray.empty t330 x41_2).extract 0 ((ji43) : Int).toNat), t338⟩ : S68)])) else (none)) else (none)) else (none)) else (none)) else (none)) = some r := by first | (rw [hji43] at H; exact H) | (simp only [hji43] at H ⊢; exact H)
              (try rw [hji43] at A30)
              have hji43w : (IntKind.i64.wrap (((rdOf ByteArray.empty t330 x41_2).size : Int) - 1)) = ji43 := (i64_w _).trans hji43
              by_cases c44 : 0 ≤ (ji43)
              ·rw [if_pos c44] at H
               have c44b0 : decide (0 ≤ (ji43)) = true := decide_eq_true c44
               clear c44
               by_cases c45 : (ji43) < ((rdOf ByteArray.empty t330 x41_2).size : Int)
               ·rw [if_pos c45] at H
                have c45b0 : decide ((ji43) < ((rdOf ByteArray.empty t330 x41_2).size : Int)) = true := decide_eq_true c45
                clear c45
                have cv47w : (IntKind.i64.wrap (((bt (rdOf ByteArray.empty t330 x41_2) (ji43)) - 97) % 256)) = (((bt (rdOf ByteArray.empty t330 x41_2) (ji43)) - 97) % 256) := (i64_w _).trans (by unfold wrap64; omega)
                have cv48z : wrap64 (((bt (rdOf ByteArray.empty t330 x41_2) (ji43)) - 97) % 256) = (((bt (rdOf ByteArray.empty t330 x41_2) (ji43)) - 97) % 256) := by unfold wrap64; omega
                have c49b0 := eq_true (of_decide_eq_true ax17 : 0 ≤ (ji43))
                by_cases c50 : (ji43) ≤ ((rdOf ByteArray.empty t330 x41_2).size : Int)
                ·rw [if_pos c50] at H
                 have c50b0 := eq_true c50
                 have c50b1 : decide ((ji43) ≤ ((rdOf ByteArray.empty t330 x41_2).size : Int)) = true := decide_eq_true c50
                 clear c50
                 obtain ⟨js51, hjs51⟩ : ∃ j_ : ByteArray, ((rdOf ByteArray.empty t330 x41_2).extract 0 ((ji43) : Int).toNat) = j_ := ⟨_, rfl⟩
                 replace H : (if js51.size ≤ 9223372036854775807 then (if x335000_2.length < 5864062014805 then (impl_trieOf.l2 k2 l0 t330 (t330.length : Int) (wrap64 (x41_2 + 1)) y336 (x335000_2 ++ [(⟨((bt (rdOf ByteArray.empty t330 x41_2) (ji43)) - 97) % 256, G.mapGet y336 js51, t338⟩ : S68)])) else (none)) else (none)) = some r := by first | (rw [hjs51] at H; exact H) | (simp only [hjs51] at H ⊢; exact H)
                 by_cases c52 : js51.size ≤ 9223372036854775807
                 ·rw [if_pos c52] at H
                  have LMc52 := Aside0.mk c52; clear c52
                  by_cases c53 : x335000_2.length < 5864062014805
                  ·rw [if_pos c53] at H
                   have LMc53 := Aside0.mk c53; clear c53
                   obtain ⟨y343, hy343⟩ : ∃ y_ : List (S68), y_ = (x335000_2 ++ [(⟨((bt (rdOf ByteArray.empty t330 x41_2) (ji43)) - 97) % 256, G.mapGet y336 js51, t338⟩ : S68)]) := ⟨_, rfl⟩
                   replace H : (impl_trieOf.l2 k2 l0 t330 (t330.length : Int) (wrap64 (x41_2 + 1)) y336 y343) = some r := by first | (rw [hy343]; with_reducible exact H) | (have H2_ := (Option.bind_some _ _).symm.trans H; rw [hy343]; with_reducible exact H2_) | (have H2_ := (Option.bind_some _ _).symm.trans H; with_reducible exact H2_) | with_reducible exact H | (rw [hy343]; exact H) | exact H
                   have Ny343 := Aside0.mk hy343; clear hy343
                   have H' := Aside0.mk H
                   clear H
                   have p335 : 0 ≤ (x41_2 : Int) := of_decide_eq_true ax17
                   have q335 : x41_2 < (t330.length : Int) := of_decide_eq_true ax17
                   obtain ⟨ad335, e335, hx335_0⟩ := Kd.at_string (Kd.R_reads' HO_39.out).2.2 x41_2 p335 q335
                   cases e335; replace p335 := eq_true p335; replace q335 := eq_true q335
                   try go_wp2_with (first | ((with_reducible refine G.gate_mput (t := 91) (m := .tmp 46) (x := .tmp 47) (v := .tmp 48) rfl ?_); refine G.mput_event ?hg (t := 91) (m := .tmp 46) (x := .tmp 47) (v := .tmp 48) ?ho ?hd (b := gm333) (s := (rdOf ByteArray.empty t330 x41_2)) (i := x41_2) ?hm ?hx ?hv (K := 9) (E := 3) (c := x334000_2) ?ht ?hK ?hE ?hw ?hs ?hl ?hmap ?_; (case hg => rfl); (case ho => rfl); (case hd => rfl); (case hm => rfl); (case hx => rfl); (case hv => rfl); (case ht => exact Tryz.underlying91); (case hK => exact Tryz.underlying9); (case hE => exact Tryz.underlying3); (case hw => exact ax157); (case hs => exact LMc27.out); (case hl => exact LMc26.out); (case hmap => exact ax158); intro w54 hmap hg; rw [← Ny336.out] at hmap; have n0_ := Aside0.mk (Kd.R_grown1 ax159 rfl hg (G.MapIs.ne_row MP333.out HO_39.out)); have n1_ := Aside0.mk (Kd.R_grown1 ax160 rfl hg (G.MapIs.ne_row MP333.out HO_335000.out)); have n2_ := Aside0.mk (blk_grown (g := gb322) (o := .cells #[.slice none 0 0] 51 (0, 0)) ax149 hg (fun e_ => G.MapIs.ne_blk MP333.out BK322.out ax161)); have n3_ := Aside0.mk (blk_grown (g := gb334) (o := .cells #[u335000] 51 (0, 0)) ax162 hg (fun e_ => G.MapIs.ne_blk MP333.out BK334.out ax161)); have n4_ := Aside0.mk (hmap); have n5_ := Aside0.mk (Below.grown ax156 hg (below_size ax156) (fun k_ e_ => by cases e_; exact GM333.out)); clear HO_39; clear HO_335000; clear BK322; clear BK334; clear MP333; clear HB; have HO_39 := n0_; have HO_335000 := n1_; have BK322 := n2_; have BK334 := n3_; have MP333 := n4_; have HB := n5_; clear n0_ n1_ n2_ n3_ n4_ n5_; clear hmap hg) | ((with_reducible refine gate_callee (f := 56) rfl ?_); refine goesL_ (some 52) rfl rfl Tryz.func56 (by kernel_rfl) rfl #[.slice A0 l0.length c0, .string (rdOf ByteArray.empty t330 x41_2)] rfl ax12 ?_; (with_reducible refine (slices_BinarySearch_string_string.calls k2 _ _ l0 (rdOf ByteArray.empty t330 x41_2) t337 t338 _ ?side1 ?side2 A30.out).mono ?_); (case side1 => exact ax24); (case side2 => exact HC0.out); rintro e w' ⟨rfl, ⟨nd, rfl⟩⟩; refine ⟨_, rfl, ?_⟩; (try (rw [drewN_self w54]; generalize hq_ : World.drewN w54 _ = w54; have n0_ : Aside0 (Kd.R k68 68 w54 w.heap.size (fun _ => True) u335000 x335000_2) := ⟨ax163⟩; have n1_ : Aside0 (Kd.R Kd.string 9 w54 w.heap.size (fun _ => True) (.slice (some ad335) t330.length co22) t330) := ⟨ax164⟩; have n2_ : Aside0 (G.MapIs Tryz.prog 9 3 w54 gm333 y336) := ⟨ax165⟩; have n3_ : Aside0 (w54.heap[gb322]? = some (.cells #[.slice none 0 0] 51 (0, 0))) := ⟨ax166⟩; have n4_ : Aside0 (w54.heap[gb334]? = some (.cells #[u335000] 51 (0, 0))) := ⟨ax167⟩; have n5_ : Aside0 (Below w.heap.size w w54) := ⟨ax168⟩; clear HO_335000 HO_39 MP333 BK322 BK334 HB hq_; have HO_335000 := n0_; have HO_39 := n1_; have MP333 := n2_; have BK322 := n3_; have BK334 := n4_; have HB := n5_; clear n0_ n1_ n2_ n3_ n4_ n5_))) | ((with_reducible refine gate_dst (N := 13) rfl ?_); refine box_event ?hg (N := 13) ?hd (cs := #[.int .i64 0, .int .i64 0, .bool false]) (t := 68) ?hr ?_; (case hd => rfl); (case hg => rfl); (case hr => exact ax8); intro gb339 hg w55 hbox hb; have n0_ := Aside0.mk (Kd.R_below ax159 hb); have n1_ := Aside0.mk (Kd.R_below (Kd.R_elderB ax160 gb339 (Nat.le_of_eq hg.symm)) hb); have n2_ := Aside0.mk (blk_below (g := gb322) (o := .cells #[.slice none 0 0] 51 (0, 0)) ax149 hb); have n3_ := Aside0.mk (blk_below (g := gb334) (o := .cells #[u335000] 51 (0, 0)) ax162 hb); have n4_ := Aside0.mk (G.MapIs.below (show G.MapIs Tryz.prog 9 3 _ gm333 y336 from by repeat (first | (with_reducible first | exact MP333.out | apply G.MapIs.alloc | apply G.MapIs.drewN | apply G.MapIs.drew) | exact MP333.out)) hb); have n5_ := Aside0.mk (below_step ax156 hb); have n6_ := Aside0.mk (hbox); have n7_ := Aside0.mk ((ax169 : w.heap.size ≤ gb339)); have n8_ := Aside0.mk ((ax169 : w.heap.size ≤ gb339)); have n9_ := Aside0.mk ((ax153 : gb322 ≠ gb339)); have n10_ := Aside0.mk ((ax154 : gb339 ≠ gb322)); have n11_ := Aside0.mk ((ax170 : gb334 ≠ gb339)); have n12_ := Aside0.mk ((ax171 : gb339 ≠ gb334)); clear HO_39; clear HO_335000; clear BK322; clear BK334; clear MP333; clear HB; have HO_39 := n0_; have HO_335000 := n1_; have BK322 := n2_; have BK334 := n3_; have MP333 := n4_; have HB := n5_; have BK339 := n6_; have GW339 := n7_; have GE339 := n8_; have NB322_339 := n9_; have NB339_322 := n10_; have NB334_339 := n11_; have NB339_334 := n12_; clear n0_ n1_ n2_ n3_ n4_ n5_ n6_ n7_ n8_ n9_ n10_ n11_ n12_; clear hb hbox hg; have hnb56 := NB339_322.out; have hnc56 := NB322_339.out; have hnb57 := NB339_334.out; have hnc57 := NB334_339.out; have hcz58_0 : w55.cell? ⟨gb339, 0, none⟩ = some (.int .i64 0) := (blk_cell BK339.out 0).trans rfl; have hcz58_1 : w55.cell? ⟨gb339, 1, none⟩ = some (.int .i64 0) := (blk_cell BK339.out 1).trans rfl; have hcz58_2 : w55.cell? ⟨gb339, 2, none⟩ = some (.bool false) := (blk_cell BK339.out 2).trans rfl; have hfz58_0 := blk_frozen BK339.out 0; have hfz58_1 := blk_frozen BK339.out 1; have hfz58_2 := blk_frozen BK339.out 2))
                   have n0_ : Aside0 (Kd.R Kd.string 9 (((w55.setCell ⟨gb339, 0, none⟩ (.int .i64 (-1))).setCell ⟨gb339, 1, none⟩ (.int .i64 (-1))).setCell ⟨gb339, 2, none⟩ (.bool t338)) w.heap.size (fun _ => True) (.slice (some ad335) t330.length co22) t330) := ⟨(by (with_reducible repeat (first | apply Kd.R_alloc | apply Kd.R_drewN | apply Kd.R_drew)); exact Kd.R_mono (Kd.R_far (p := ⟨gb339, 2, none⟩) (Kd.R_far (p := ⟨gb339, 1, none⟩) (Kd.R_far (p := ⟨gb339, 0, none⟩) (Kd.R_types HO_39.out BK339.out (by decide)) (fun _ hk => hk.2) (.int .i64 (-1))) (fun _ hk => hk.2) (.int .i64 (-1))) (fun _ hk => hk.2) (.bool t338)) (fun _ hk => trivial))⟩
                   have n1_ : Aside0 (Kd.R k68 68 (((w55.setCell ⟨gb339, 0, none⟩ (.int .i64 (-1))).setCell ⟨gb339, 1, none⟩ (.int .i64 (-1))).setCell ⟨gb339, 2, none⟩ (.bool t338)) w.heap.size (fun k_ => k_ ≠ gb339) u335000 x335000_2) := ⟨ax174⟩
                   have n2_ : Aside0 ((((w55.setCell ⟨gb339, 0, none⟩ (.int .i64 (-1))).setCell ⟨gb339, 1, none⟩ (.int .i64 (-1))).setCell ⟨gb339, 2, none⟩ (.bool t338)).heap[gb322]? = some (.cells #[.slice none 0 0] 51 (0, 0))) := ⟨ax176⟩
                   have n3_ : Aside0 ((((w55.setCell ⟨gb339, 0, none⟩ (.int .i64 (-1))).setCell ⟨gb339, 1, none⟩ (.int .i64 (-1))).setCell ⟨gb339, 2, none⟩ (.bool t338)).heap[gb334]? = some (.cells #[u335000] 51 (0, 0))) := ⟨ax177⟩
                   have n4_ : Aside0 ((((w55.setCell ⟨gb339, 0, none⟩ (.int .i64 (-1))).setCell ⟨gb339, 1, none⟩ (.int .i64 (-1))).setCell ⟨gb339, 2, none⟩ (.bool t338)).heap[gb339]? = some (.cells #[.int .i64 (-1), .int .i64 (-1), .bool t338] 68 (0, 0))) := ⟨ax173⟩
                   have n5_ : Aside0 (G.MapIs Tryz.prog 9 3 (((w55.setCell ⟨gb339, 0, none⟩ (.int .i64 (-1))).setCell ⟨gb339, 1, none⟩ (.int .i64 (-1))).setCell ⟨gb339, 2, none⟩ (.bool t338)) gm333 y336) := ⟨show G.MapIs Tryz.prog 9 3 _ gm333 y336 from by repeat (first | (with_reducible first | exact MP333.out | apply G.MapIs.alloc | apply G.MapIs.drewN | apply G.MapIs.drew | refine G.MapIs.set ?_ (G.MapIs.ne_blk MP333.out BK339.out) _ _ | refine G.MapIs.set ?_ (G.MapIs.ne_blk MP333.out BK339.out) _ _ | refine G.MapIs.set ?_ (G.MapIs.ne_blk MP333.out BK339.out) _ _) | exact MP333.out)⟩
                   have n6_ : Aside0 (Below w.heap.size w (((w55.setCell ⟨gb339, 0, none⟩ (.int .i64 (-1))).setCell ⟨gb339, 1, none⟩ (.int .i64 (-1))).setCell ⟨gb339, 2, none⟩ (.bool t338))) := ⟨ax179⟩
                   (try clear HO_39); (try clear HO_335000); (try clear BK322); (try clear BK334); (try clear BK339); (try clear MP333); (try clear HB); generalize (((w55.setCell ⟨gb339, 0, none⟩ (.int .i64 (-1))).setCell ⟨gb339, 1, none⟩ (.int .i64 (-1))).setCell ⟨gb339, 2, none⟩ (.bool t338)) = w59 at n0_ n1_ n2_ n3_ n4_ n5_ n6_ ⊢; have HO_39 := n0_; have HO_335000 := n1_; have BK322 := n2_; have BK334 := n3_; have BK339 := n4_; have MP333 := n5_; have HB := n6_; clear n0_ n1_ n2_ n3_ n4_ n5_ n6_; have n0_ := Aside0.mk (Kd.R_drew HO_39.out); have n1_ := Aside0.mk (Kd.R_drew HO_335000.out); have n2_ := Aside0.mk (blk_drew BK322.out); have n3_ := Aside0.mk (blk_drew BK334.out); have n4_ := Aside0.mk (blk_drew BK339.out); have n5_ := Aside0.mk (G.MapIs.drew MP333.out); have n6_ := Aside0.mk (below_drew1 HB.out); clear HO_39; clear HO_335000; clear BK322; clear BK334; clear BK339; clear MP333; clear HB; have HO_39 := n0_; have HO_335000 := n1_; have BK322 := n2_; have BK334 := n3_; have BK339 := n4_; have MP333 := n5_; have HB := n6_; clear n0_ n1_ n2_ n3_ n4_ n5_ n6_
                   have p46 : 0 ≤ ((ji43) : Int) := of_decide_eq_true ax17
                   have q46 : (ji43) < ((rdOf ByteArray.empty t330 x41_2).size : Int) := of_decide_eq_true ax17
                   have hx46 := bt_at (rdOf ByteArray.empty t330 x41_2) (ji43); replace p46 := eq_true p46; replace q46 := eq_true q46
                   refine start_ (n := 18) (S := fun w' => G.MapIs Tryz.prog 9 3 w' gm333 y336 ∧ (Instr.lookup 91 (.map (some gm333)) (.string js51) false).run Tryz.prog w' = .ok (.int .i64 (G.mapGet y336 js51)) w') (ds := []) (ob 18 0) (by kernel_rfl) rfl rfl ⟨MP333.out, G.MapIs.run_get MP333.out Tryz.underlying91 Tryz.underlying9 Tryz.underlying3 (Tryz.zeroValue3 _) LMc52.out⟩ (fun hHeld => ?_); refine with_tabW impl_trieOf.tab20 impl_trieOf.bits20 (fun HT_ HW_ => ?_)
                   generalize w59.drew = w60 at HO_39 HO_335000 BK322 BK334 BK339 MP333 HB hHeld ⊢
                   refine pu 0 59 ?_; refine pu 1 60 ?_; refine pu 2 61 ?_; refine pu 3 62 ?_; refine pu 7 66 ?_; refine pu 8 67 ?_; refine pu 9 68 ?_; refine pu 10 69 ?_; refine pu 11 70 ?_; refine pu 12 71 ?_; refine tk 4 63 ?_; refine pu 5 64 ?_; refine pu 6 65 ?_; refine pu 14 73 ?_; refine tk 13 72 ?_
                   refine one_ (i := 15) (N := none) (ob 18 65535) rfl rfl (one_of HT_.out (by kernel_rfl)) (by decide) (fun K hK => ?_)
                   have hs61 : w60.cell? ⟨gb339, 0, none⟩ = some (.int .i64 (-1)) := (blk_cell BK339.out 0).trans rfl
                   have hfs61 := blk_frozen BK339.out 0; have hns61_0 := NB322_339.out; have hns61_1 := NB334_339.out; have hms61_0 := NB339_322.out; have hms61_1 := NB339_334.out
                   refine skip_ (w1 := ?_) (by rfl) rfl ?_ ?_
                   rotate_left
                   ·go_simp
                    rfl
                   refine hK.out _ _ ⟨(G.MapIs.set (hHeld.1) (G.MapIs.ne_blk MP333.out BK339.out) _ _), G.MapIs.run_get (G.MapIs.set (hHeld.1) (G.MapIs.ne_blk MP333.out BK339.out) _ _) Tryz.underlying91 Tryz.underlying9 Tryz.underlying3 (Tryz.zeroValue3 _) LMc52.out⟩ (fun hHeld => ?_)
                   clear hK K
                   refine pu 16 74 ?_
                   refine one_ (i := 17) (N := none) (ob 18 262143) rfl rfl (one_of HT_.out (by kernel_rfl)) (by decide) (fun K hK => ?_)
                   have hs62 : w60.cell? ⟨gb339, 1, none⟩ = some (.int .i64 (-1)) := (blk_cell BK339.out 1).trans rfl
                   have hfs62 := blk_frozen BK339.out 1; have hns62_0 := NB322_339.out; have hns62_1 := NB334_339.out; have hms62_0 := NB339_322.out; have hms62_1 := NB339_334.out
                   refine skip_ (w1 := ?_) (by rfl) rfl ?_ ?_
                   rotate_left
                   ·go_simp
                    rfl
                   refine hK.out _ _ ⟨(G.MapIs.set (hHeld.1) (G.MapIs.ne_blk MP333.out BK339.out) _ _), G.MapIs.run_get (G.MapIs.set (hHeld.1) (G.MapIs.ne_blk MP333.out BK339.out) _ _) Tryz.underlying91 Tryz.underlying9 Tryz.underlying3 (Tryz.zeroValue3 _) LMc52.out⟩ (fun hHeld => ?_)
                   clear hK K
                   refine dn ?_
                   have hnb63 := NB334_322.out; have hnc63 := NB322_334.out
                   have hcz64_0 : w60.cell? ⟨gb334, 0, none⟩ = some (u335000) := (blk_cell BK334.out 0).trans rfl
                   have hfz64_0 := blk_frozen BK334.out 0
                   have hcz65_0 : w60.cell? ⟨gb339, 0, none⟩ = some (.int .i64 (-1)) := (blk_cell BK339.out 0).trans rfl
                   have hcz65_1 : w60.cell? ⟨gb339, 1, none⟩ = some (.int .i64 (-1)) := (blk_cell BK339.out 1).trans rfl
                   have hcz65_2 : w60.cell? ⟨gb339, 2, none⟩ = some (.bool t338) := (blk_cell BK339.out 2).trans rfl
                   have hfz65_0 := blk_frozen BK339.out 0; have hfz65_1 := blk_frozen BK339.out 1; have hfz65_2 := blk_frozen BK339.out 2
                   try go_wp2_with (first | ((with_reducible refine gate_builtin (b := .append) (xs := #[.tmp 76, .tmp 78]) rfl ?_); at_builtin; refine Kd.R_append k68 (w0 := w) w.heap.size rfl (.tmp 76) (.tmp 78) 49 68 (.agg #[(.int .i64 0), (.int .i64 0), (.bool false)]) 24 rfl Tryz.underlying49 info68 rfl (by decide) (by omega) u335000 x335000_2 (⟨((bt (rdOf ByteArray.empty t330 x41_2) (ji43)) - 97) % 256, G.mapGet y336 js51, t338⟩ : S68) [.int .i64 (((bt (rdOf ByteArray.empty t330 x41_2) (ji43)) - 97) % 256), .int .i64 (G.mapGet y336 js51), .bool t338] (fun k_ => k_ ≠ gb339) (fun _ => False) rfl ax8 ?aP (fun _ hk => hk.elim) ?aF ?aO ?aB ?aS ?aL ?_; (case aP => exact k68_mkM _ _ _ (⟨((bt (rdOf ByteArray.empty t330 x41_2) (ji43)) - 97) % 256, G.mapGet y336 js51, t338⟩ : S68)); (case aB => exact ax172); (case aF => exact (fun k_ hk => Kd.freshB (g := gb339) (o := .cells #[.int .i64 (((bt (rdOf ByteArray.empty t330 x41_2) (ji43)) - 97) % 256), .int .i64 (G.mapGet y336 js51), .bool t338] 68 (0, 0)) ax180 k_ hk)); (case aO => exact (by (with_reducible repeat (first | apply Kd.R_alloc | apply Kd.R_drewN | apply Kd.R_drew)); exact Kd.R_mono (Kd.R_far (p := ⟨gb339, 1, none⟩) (Kd.R_far (p := ⟨gb339, 0, none⟩) (Kd.R_mono HO_335000.out (fun k_ hk => (⟨hk, hk⟩ : _ ∧ k_ ≠ gb339))) (fun _ hk => hk.2) (.int .i64 (((bt (rdOf ByteArray.empty t330 x41_2) (ji43)) - 97) % 256))) (fun _ hk => hk.2) (.int .i64 (G.mapGet y336 js51))) (fun _ hk => hk.1))); (case aS => exact ax175); (case aL => have := LMc53.out; omega); intro v344 w66 ho hb hg hat; rw [← Ny343.out] at ho; have n0_ := Aside0.mk (Kd.R_over' (by (with_reducible repeat (first | apply Kd.R_alloc | apply Kd.R_drewN | apply Kd.R_drew)); exact (Kd.R_mono (Kd.R_far (p := ⟨gb339, 1, none⟩) (Kd.R_far (p := ⟨gb339, 0, none⟩) (Kd.R_types HO_39.out BK339.out (by decide)) (fun _ hk => hk.2) (.int .i64 (((bt (rdOf ByteArray.empty t330 x41_2) (ji43)) - 97) % 256))) (fun _ hk => hk.2) (.int .i64 (G.mapGet y336 js51))) (fun _ h_ => h_.1))) (Kd.R_typed (by (with_reducible repeat (first | apply Kd.R_alloc | apply Kd.R_drewN | apply Kd.R_drew)); exact (Kd.R_mono (Kd.R_far (p := ⟨gb339, 1, none⟩) (Kd.R_far (p := ⟨gb339, 0, none⟩) (Kd.R_mono HO_335000.out (fun k_ hk => (⟨hk, hk⟩ : _ ∧ k_ ≠ gb339))) (fun _ hk => hk.2) (.int .i64 (((bt (rdOf ByteArray.empty t330 x41_2) (ji43)) - 97) % 256))) (fun _ hk => hk.2) (.int .i64 (G.mapGet y336 js51))) (fun _ h_ => h_.1)))) (by decide) hg); have n1_ := Aside0.mk (blk_grown (g := gb322) (o := .cells #[.slice none 0 0] 51 (0, 0)) (by (with_reducible repeat (first | refine blk_drewN ?_ _ | refine blk_drew ?_ | refine blk_alloc ?_ _)); refine blk_far ?_ NB322_339.out _; (with_reducible repeat (first | refine blk_drewN ?_ _ | refine blk_drew ?_ | refine blk_alloc ?_ _)); refine blk_far ?_ NB322_339.out _; (with_reducible repeat (first | refine blk_drewN ?_ _ | refine blk_drew ?_ | refine blk_alloc ?_ _)); exact BK322.out) hg (Kd.R_ne HO_335000.out BK322.out (by decide))); have n2_ := Aside0.mk (blk_grown (g := gb334) (o := .cells #[u335000] 51 (0, 0)) (by (with_reducible repeat (first | refine blk_drewN ?_ _ | refine blk_drew ?_ | refine blk_alloc ?_ _)); refine blk_far ?_ NB334_339.out _; (with_reducible repeat (first | refine blk_drewN ?_ _ | refine blk_drew ?_ | refine blk_alloc ?_ _)); refine blk_far ?_ NB334_339.out _; (with_reducible repeat (first | refine blk_drewN ?_ _ | refine blk_drew ?_ | refine blk_alloc ?_ _)); exact BK334.out) hg (Kd.R_ne HO_335000.out BK334.out (by decide))); have n3_ := Aside0.mk (G.MapIs.grown (show G.MapIs Tryz.prog 9 3 _ gm333 y336 from by repeat (first | (with_reducible first | exact MP333.out | apply G.MapIs.alloc | apply G.MapIs.drewN | apply G.MapIs.drew | refine G.MapIs.set ?_ (G.MapIs.ne_blk MP333.out BK339.out) _ _ | refine G.MapIs.set ?_ (G.MapIs.ne_blk MP333.out BK339.out) _ _) | exact MP333.out)) hg (G.MapIs.ne_row MP333.out HO_335000.out)); have n4_ := Aside0.mk (blk_grown (g := gb339) (o := .cells #[.int .i64 (((bt (rdOf ByteArray.empty t330 x41_2) (ji43)) - 97) % 256), .int .i64 (G.mapGet y336 js51), .bool t338] 68 (0, 0)) ax180 hg (Kd.R_away HO_335000.out (fun _ hk => hk))); have n5_ := Aside0.mk (hb); have n6_ := Aside0.mk (ho); clear HO_39; clear BK322; clear BK334; clear MP333; clear BK339; clear HB; clear HO_335000; have HO_39 := n0_; have BK322 := n1_; have BK334 := n2_; have MP333 := n3_; have BK339 := n4_; have HB := n5_; have HO345 := n6_; clear n0_ n1_ n2_ n3_ n4_ n5_ n6_; clear ho hb hg hat; obtain ⟨Ao67, co67, eo67⟩ := Kd.R_slice HO345.out; subst eo67; have hcz68_0 : w66.cell? ⟨gb334, 0, none⟩ = some (u335000) := (blk_cell BK334.out 0).trans rfl; have hfz68_0 := blk_frozen BK334.out 0))
                   go_roundg k2
                   case measure => have := HK1.out; have := HK2.out; omega
                   case rel => exact ⟨(wrap64 (x41_2 + 1)), (y336), (y343), (.slice Ao67 y343.length co67), ax15, H', ⟨ax63⟩, ⟨(by (with_reducible repeat (first | apply Kd.R_alloc | apply Kd.R_drewN | apply Kd.R_drew)); exact Kd.R_mono (Kd.R_far (p := ⟨gb334, 0, none⟩) (Kd.R_types HO_39.out BK334.out (by decide)) (fun _ hk => hk.2) (.slice Ao67 y343.length co67)) (fun _ hk => trivial))⟩, ⟨(by (with_reducible repeat (first | apply Kd.R_alloc | apply Kd.R_drewN | apply Kd.R_drew)); exact Kd.R_mono (Kd.R_far (p := ⟨gb334, 0, none⟩) (Kd.R_types HO345.out BK334.out (by decide)) (fun _ hk => hk.2) (.slice Ao67 y343.length co67)) (fun _ hk => trivial))⟩, ⟨ax155⟩, ⟨ax178⟩, ⟨show G.MapIs Tryz.prog 9 3 _ gm333 y336 from by repeat (first | (with_reducible first | exact MP333.out | apply G.MapIs.alloc | apply G.MapIs.drewN | apply G.MapIs.drew | refine G.MapIs.set ?_ (G.MapIs.ne_blk MP333.out BK334.out) _ _) | exact MP333.out)⟩, ⟨ax179⟩⟩
                  ·rw [if_neg c53] at H
                   exact absurd H (by simp)
                 ·rw [if_neg c52] at H
                  exact absurd H (by simp)
                ·rw [if_neg c50] at H
                 exact absurd H (by simp)
               ·rw [if_neg c45] at H
                exact absurd H (by simp)
              ·rw [if_neg c44] at H
               exact absurd H (by simp)
            ·rw [if_neg c29] at H
             exact absurd H (by simp)
           ·rw [if_neg c28] at H
            exact absurd H (by simp)
          ·rw [if_neg c27] at H
           exact absurd H (by simp)
         ·rw [if_neg c26] at H
          exact absurd H (by simp)
        ·rw [if_neg c25] at H
         exact absurd H (by simp)
       ·rw [if_neg c24] at H
        exact absurd H (by simp)
      ·rw [if_neg c23] at H
       have c23b0 : decide (x41_2 < (t330.length : Int)) = false := decide_eq_false c23
       clear c23
       obtain rfl := Option.some.inj H
       have hnb69 := NB334_322.out; have hnc69 := NB322_334.out
       have hcz70_0 : wr.cell? ⟨gb334, 0, none⟩ = some (u335000) := (blk_cell BK334.out 0).trans rfl
       have hfz70_0 := blk_frozen BK334.out 0
       obtain ⟨Ao71, co71, eo71⟩ := Kd.R_slice HO_335000.out
       subst eo71
       have hcz72_0 : wr.cell? ⟨gb322, 0, none⟩ = some (.slice none 0 0) := (blk_cell BK322.out 0).trans rfl
       have hfz72_0 := blk_frozen BK322.out 0
       go_wp2
       refine bodyPost_ret (results_cell_row rfl _ _ gb322 51 #[.slice Ao71 x335000_2.length co71] (0, 0) _ rfl (by (with_reducible repeat (first | refine blk_drewN ?_ _ | refine blk_drew ?_ | refine blk_alloc ?_ _)); refine blk_put (cs := #[.slice none 0 0]) ?_ 0 _ rfl; (with_reducible repeat (first | refine blk_drewN ?_ _ | refine blk_drew ?_ | refine blk_alloc ?_ _)); exact BK322.out) Tryz.underlying51 rfl (by kernel_rfl)) rfl ?_
       exact ⟨_, by first | rfl | (simp [errW_none, errW_some] <;> rfl) | (simp [*, errW_none, errW_some] <;> rfl), by (with_reducible repeat (first | apply Kd.R_alloc | apply Kd.R_drewN | apply Kd.R_drew)); exact Kd.R_mono (Kd.R_far (p := ⟨gb322, 0, none⟩) (Kd.R_types HO_335000.out BK322.out (by decide)) (fun _ hk => hk.2) (.slice Ao71 x335000_2.length co71)) (fun _ hk => trivial), by repeat (first | (with_reducible first | exact HB.out | apply below_alloc | apply pw_below_drewN | apply below_drew1 | refine below_set ?_ GE322.out | refine below_set ?_ GE334.out) | exact HB.out)⟩

end Go.Proofs.YtnjjchbhbicmoaaGreatDoor.X

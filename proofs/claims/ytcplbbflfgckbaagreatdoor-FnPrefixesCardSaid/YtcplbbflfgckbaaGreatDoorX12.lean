-- By gen.py (the session's own program over the kit's printer): functions of the program, each with its contract. Lean checks it.
import Derived.Test.YtcplbbflfgckbaaGreatDoorX0
import Derived.Test.YtcplbbflfgckbaaGreatDoorX11
namespace Go.Proofs.YtcplbbflfgckbaaGreatDoor.X
open Go.RowKit Go.Proofs.YtcplbbflfgckbaaGreatDoorW.PrintWords Go.Proofs.YtcplbbflfgckbaaGreatDoorW.PrintLast Go.Proofs.YtcplbbflfgckbaaGreatDoorW.PrintMore
attribute [local go_sem] max2_int min2_int max_two min_two max_three min_three max_four min_four   -- for this text's walks alone
set_option linter.unusedVariables false
set_option linter.unusedSimpArgs false

/-! ### impl_trieOf: function 150 -/
mutual
def impl_trieOf.l0 : Nat → List ByteArray → List ByteArray → List ByteArray → Int → Int → Option ((List (S74)))
 | 0, _, _, _, _, _ => none
 | k + 1, x0, x3, x15, x16, x17 => if x17 < x16 then (if 0 ≤ x17 then (if x17 < (x15.length : Int) then (impl_trieOf.l1 k x0 x3 (rdOf ByteArray.empty x15 x17) x15 x16 x17 ((rdOf ByteArray.empty x15 x17).size : Int) 0) else (none)) else (none)) else ((impl_set.f x3).bind fun t445 => (impl_trieOf.l2 k x0 t445 (t445.length : Int) 0 ([] : List (ByteArray × Int)) ([] : List (S74))))
def impl_trieOf.l1 : Nat → List ByteArray → List ByteArray → ByteArray → List ByteArray → Int → Int → Int → Int → Option ((List (S74)))
 | 0, _, _, _, _, _, _, _, _ => none
 | k + 1, x0, x3, x5, x15, x16, x17, x22, x23 => if x23 < x22 then (if 0 ≤ (wrap64 (x23 + 1)) then (if (wrap64 (x23 + 1)) ≤ (x5.size : Int) then (if x3.length < 8796093022208 then (impl_trieOf.l1 k x0 (x3 ++ [x5.extract 0 ((wrap64 (x23 + 1)) : Int).toNat]) x5 x15 x16 x17 x22 (wrap64 (x23 + 1))) else (none)) else (none)) else (none)) else (impl_trieOf.l0 k x0 x3 x15 x16 (wrap64 (x17 + 1)))
def impl_trieOf.l2 : Nat → List ByteArray → List ByteArray → Int → Int → List (ByteArray × Int) → List (S74) → Option ((List (S74)))
 | 0, _, _, _, _, _, _ => none
 | k + 1, x0, x39, x40, x41, x449000, x450000 => if x41 < x40 then (if 0 ≤ x41 then (if x41 < (x39.length : Int) then (if x449000.length < 9223372036854775807 then (if (rdOf ByteArray.empty x39 x41).size ≤ 9223372036854775807 then (if -9223372036854775808 ≤ x41 then (if x41 ≤ 9223372036854775807 then ((some ((rdOf ByteArray.empty x39 x41, x41) :: x449000 : List (ByteArray × Int))).bind fun y451 => ((slices_BinarySearch_string_string.f k x0 (rdOf ByteArray.empty x39 x41)).bind fun bt452 => (if (rdOf ByteArray.empty x39 x41).toList = ([] : List UInt8) then (if x450000.length < 5864062014805 then (impl_trieOf.l2 k x0 x39 x40 (wrap64 (x41 + 1)) y451 (x450000 ++ [(⟨(-1), (-1), bt452.2⟩ : S74)])) else (none)) else (if 0 ≤ (wrap64 (((rdOf ByteArray.empty x39 x41).size : Int) - 1)) then (if (wrap64 (((rdOf ByteArray.empty x39 x41).size : Int) - 1)) < ((rdOf ByteArray.empty x39 x41).size : Int) then (if (wrap64 (((rdOf ByteArray.empty x39 x41).size : Int) - 1)) ≤ ((rdOf ByteArray.empty x39 x41).size : Int) then (if ((rdOf ByteArray.empty x39 x41).extract 0 ((wrap64 (((rdOf ByteArray.empty x39 x41).size : Int) - 1)) : Int).toNat).size ≤ 9223372036854775807 then (if x450000.length < 5864062014805 then (impl_trieOf.l2 k x0 x39 x40 (wrap64 (x41 + 1)) y451 (x450000 ++ [(⟨((bt (rdOf ByteArray.empty x39 x41) (wrap64 (((rdOf ByteArray.empty x39 x41).size : Int) - 1))) - 97) % 256, G.mapGet y451 ((rdOf ByteArray.empty x39 x41).extract 0 ((wrap64 (((rdOf ByteArray.empty x39 x41).size : Int) - 1)) : Int).toNat), bt452.2⟩ : S74)])) else (none)) else (none)) else (none)) else (none)) else (none))))) else (none)) else (none)) else (none)) else (none)) else (none)) else (none)) else (some x450000)
end
def impl_trieOf.f (k : Nat) (l0 : List ByteArray) : Option ((List (S74))) := impl_trieOf.l0 k l0 (([(⟨#[]⟩ : ByteArray)] : List ByteArray)) l0 (l0.length : Int) 0
theorem impl_trieOf.mono_l : ∀ k, (∀ y0 y1 y2 y3 y4, LeO (impl_trieOf.l0 k y0 y1 y2 y3 y4) (impl_trieOf.l0 (k + 1) y0 y1 y2 y3 y4)) ∧ (∀ y0 y1 y2 y3 y4 y5 y6 y7, LeO (impl_trieOf.l1 k y0 y1 y2 y3 y4 y5 y6 y7) (impl_trieOf.l1 (k + 1) y0 y1 y2 y3 y4 y5 y6 y7)) ∧ (∀ y0 y1 y2 y3 y4 y5, LeO (impl_trieOf.l2 k y0 y1 y2 y3 y4 y5) (impl_trieOf.l2 (k + 1) y0 y1 y2 y3 y4 y5))
 | 0 => ⟨fun _ _ _ _ _ r h => by simp [impl_trieOf.l0] at h, fun _ _ _ _ _ _ _ _ r h => by simp [impl_trieOf.l1] at h, fun _ _ _ _ _ _ r h => by simp [impl_trieOf.l2] at h⟩
 | k + 1 => by
  obtain ⟨ih0, ih1, ih2⟩ := impl_trieOf.mono_l k
  refine ⟨?_, ?_, ?_⟩ <;> intros
  all_goals (first | unfold impl_trieOf.l0 | unfold impl_trieOf.l1 | unfold impl_trieOf.l2)
  all_goals (repeat' first | (with_reducible first | exact ih0 .. | exact ih1 .. | exact ih2 .. | exact slices_BinarySearch_string_string.mono .. | exact LeO.refl _ | exact LeO.none _ | refine LeO.ite ?_ ?_ | refine LeO.bind ?_ (fun _ => ?_)) | exact ih0 .. | exact ih1 .. | exact ih2 .. | exact slices_BinarySearch_string_string.mono .. | exact LeO.none _ | refine LeO.ite ?_ ?_ | refine LeO.bind ?_ (fun _ => ?_))
theorem impl_trieOf.mono : ∀ a0 k, LeO (impl_trieOf.f k a0) (impl_trieOf.f (k + 1) a0) := by
 intro a0 k
 obtain ⟨ih0, ih1, ih2⟩ := impl_trieOf.mono_l k
 unfold impl_trieOf.f
 repeat' first | (with_reducible first | exact ih0 .. | exact ih1 .. | exact ih2 .. | exact slices_BinarySearch_string_string.mono .. | exact LeO.refl _ | exact LeO.none _ | refine LeO.ite ?_ ?_ | refine LeO.bind ?_ (fun _ => ?_)) | exact ih0 .. | exact ih1 .. | exact ih2 .. | exact slices_BinarySearch_string_string.mono .. | exact LeO.none _ | refine LeO.ite ?_ ?_ | refine LeO.bind ?_ (fun _ => ?_)
def impl_trieOf.T20 : Bool × List (List Nat × List Nat) := (true, [([], []), ([], []), ([1], [1]), ([2], [2]), ([0, 3], [0, 3]), ([4], [4]), ([5], [5]), ([], []), ([], []), ([], []), ([9], [9]), ([10], [10]), ([8, 11], [8, 11]), ([7, 12], [7, 12]), ([0, 1, 2, 3, 4, 5, 6], []), ([14, 6, 0, 1, 2, 3, 4, 5, 6], [6, 14]), ([0, 1, 2, 3, 4, 5, 6, 7, 8, 9, 10, 11, 12, 13, 14, 15], []), ([16, 13, 15, 0, 1, 2, 3, 4, 5, 6, 7, 8, 9, 10, 11, 12, 13, 14, 15], [13, 16])])
def impl_trieOf.B20 : List Nat := [0, 0, 2, 6, 15, 31, 63, 0, 0, 0, 512, 1536, 3840, 8064, 127, 16511, 65535, 131071]
theorem impl_trieOf.tab20 : rtab .any (opsOf Tryz.f150 20) = impl_trieOf.T20 := by kernel_rfl
theorem impl_trieOf.bits20 : waitsOk impl_trieOf.T20.2 impl_trieOf.B20 = true := by kernel_rfl
set_option maxHeartbeats 8000000 in
set_option maxRecDepth 100000 in
theorem impl_trieOf.calls (k : Nat) (A0 : Option Addr) (c0 : Nat) (l0 : List ByteArray) (r : List (S74)) (w : World) (hr0 : Kd.C Kd.string w A0 l0.length l0) (hc0 : l0.length ≤ c0) (h : impl_trieOf.f k l0 = some r) :
  Calls Tryz.prog 150 #[.slice A0 l0.length c0] w fun e w' => ∃ v0_ : Value, e = .returned (.agg #[v0_]) ∧ Kd.R k74 74 w' w.heap.size (fun _ => True) v0_ r ∧ Below w.heap.size w w' := by
 have hu26 := Tryz.underlying26; have hu74 := Tryz.underlying74; have HR0 := Aside0.mk hr0; have HC0 := Aside0.mk hc0; clear hr0 hc0; have HB := Aside0.mk (Below.refl w.heap.size w)
 have H : (impl_trieOf.l0 k l0 (([(⟨#[]⟩ : ByteArray)] : List ByteArray)) l0 (l0.length : Int) 0) = some r := h
 clear h
 obtain ⟨y438, hy438⟩ : ∃ y_ : List ByteArray, y_ = (([(⟨#[]⟩ : ByteArray)] : List ByteArray)) := ⟨_, rfl⟩
 replace H : (impl_trieOf.l0 k l0 y438 l0 (l0.length : Int) 0) = some r := by first | (rw [hy438]; with_reducible exact H) | (have H2_ := (Option.bind_some _ _).symm.trans H; rw [hy438]; with_reducible exact H2_) | (have H2_ := (Option.bind_some _ _).symm.trans H; with_reducible exact H2_) | with_reducible exact H | (rw [hy438]; exact H) | exact H
 have Ny438 := Aside0.mk hy438; clear hy438
 have H' := Aside0.mk H
 clear H
 go_enter Tryz.func150, Tryz.ntmps150
 go_wp2_with (first | ((with_reducible refine gate_dst (N := 2) rfl ?_); refine box_event ?hg (N := 2) ?hd (cs := #[.slice none 0 0]) (t := 26) ?hr ?_; (case hd => rfl); (case hg => rfl); (case hr => exact ax31); intro gb437 hg w2 hbox hb; have BK437 := Aside0.mk (hbox); have GW437 := uG hg HB; have GE437 := uG hg HB; replace HB := uB HB hb; clear hb hbox hg) | ((with_reducible refine gate_dst (N := 14) rfl ?_); refine Kd.R_lit Kd.string _ 9 ?hg (N := 14) ?hd (xs := ([(⟨#[]⟩ : ByteArray)] : List ByteArray)) (inner := [.string (⟨#[]⟩ : ByteArray)]) (ok := fun _ => True) (okp := fun _ => True) ?hr ?hp (fun _ hk => hk) trivial (Below.refl _ _) (Nat.le_refl _) (by simp) ?_; (case hd => rfl); (case hg => rfl); (case hr => exact ax31); (case hp => exact ax62); intro v439 w3 ho4 hb hg_ hnew_; clear hg_ hnew_; (first | rw [← Ny438.out] at ho4 | (simp only [Int.reduceToNat] at ho4; rw [← Ny438.out] at ho4)); have HO440 := Aside0.mk (Kd.R_lower ho4 (below_size ax183)); replace BK437 := ub BK437 hb; replace HB := Aside0.mk (below_step ax183 hb); clear hb ho4))
 go_loopg [3, 17] k (fun kq v3 v17 w' => ∃ (x3_1 : List ByteArray) (x17_1 : Int), v17 = .int .i64 x17_1 ∧ Aside0 (impl_trieOf.l0 kq l0 x3_1 l0 (l0.length : Int) x17_1 = some r) ∧ Aside0 (kq ≤ k) ∧ Aside0 (Kd.R Kd.string 9 w' w.heap.size (fun _ => True) v3 x3_1) ∧ Aside0 (w'.heap[gb437]? = some (.cells #[(.slice none 0 0)] 26 (0, 0))) ∧ Aside0 (Below w.heap.size w w'))
 case atStart => exact ⟨(y438), (0), ax30, H', ⟨Nat.le_refl _⟩, ⟨(by (with_reducible repeat (first | apply Kd.R_alloc | apply Kd.R_drewN | apply Kd.R_drew)); exact HO440.out)⟩, ⟨ax184⟩, ⟨ax183⟩⟩
 case round =>
  clear H'
  obtain ⟨x3_1, x17_1, rfl, HA, HK1, HO_3, BK437, HB⟩ := hrel
  cases gk with
  | zero => exact absurd HA.out (by simp [impl_trieOf.l0])
  | succ k1 =>
   have H := HA.out; clear HA
   simp only [impl_trieOf.l0] at H
   by_cases c5 : x17_1 < (l0.length : Int)
   ·rw [if_pos c5] at H
    have c5b0 : decide (x17_1 < (l0.length : Int)) = true := decide_eq_true c5
    clear c5
    by_cases c6 : 0 ≤ x17_1
    ·rw [if_pos c6] at H
     have c6b0 : decide (0 ≤ x17_1) = true := decide_eq_true c6
     clear c6
     by_cases c7 : x17_1 < (l0.length : Int)
     ·rw [if_pos c7] at H
      have c7b0 : decide (x17_1 < (l0.length : Int)) = true := decide_eq_true c7
      clear c7
      have H' := Aside0.mk H
      clear H
      have p441 : 0 ≤ (x17_1 : Int) := of_decide_eq_true ax25
      have q441 : x17_1 < (l0.length : Int) := of_decide_eq_true ax25
      obtain ⟨ad441, e441, hx441_0⟩ := Kd.at_string HR0.out x17_1 p441 q441
      cases e441; replace hx441_0 := (HB.out.cell (World.block_lt_of_cell? w _ hx441_0)).trans hx441_0; replace p441 := eq_true p441; replace q441 := eq_true q441
      go_wp2
      go_loopg [3, 23] k1 (fun kq v3 v23 w' => ∃ (x3_2 : List ByteArray) (x23_2 : Int), v23 = .int .i64 x23_2 ∧ Aside0 (impl_trieOf.l1 kq l0 x3_2 (rdOf ByteArray.empty l0 x17_1) l0 (l0.length : Int) x17_1 ((rdOf ByteArray.empty l0 x17_1).size : Int) x23_2 = some r) ∧ Aside0 (kq ≤ k1) ∧ Aside0 (Kd.R Kd.string 9 w' w.heap.size (fun _ => True) v3 x3_2) ∧ Aside0 (w'.heap[gb437]? = some (.cells #[(.slice none 0 0)] 26 (0, 0))) ∧ Aside0 (Below w.heap.size w w'))
      case atStart => exact ⟨(x3_1), (0), ax30, H', ⟨Nat.le_refl _⟩, ⟨ax91⟩, ⟨ax184⟩, ⟨ax183⟩⟩
      case round =>
       clear H'
       (try clear q441);(try clear p441);(try clear hx441_0);(try clear c7);(try clear c7b0);(try clear c6);(try clear c6b0);(try clear c5);(try clear c5b0)
       obtain ⟨x3_2, x23_2, rfl, HA, HK2, HO_3, BK437, HB⟩ := hrel
       cases gk with
       | zero => exact absurd HA.out (by simp [impl_trieOf.l1])
       | succ k2 =>
        have H := HA.out; clear HA
        simp only [impl_trieOf.l1] at H
        by_cases c8 : x23_2 < ((rdOf ByteArray.empty l0 x17_1).size : Int)
        ·rw [if_pos c8] at H
         have c8b0 : decide (x23_2 < ((rdOf ByteArray.empty l0 x17_1).size : Int)) = true := decide_eq_true c8
         clear c8
         obtain ⟨ji9, hji9⟩ : ∃ j_ : Int, (wrap64 (x23_2 + 1)) = j_ := ⟨_, rfl⟩
         replace H : (if 0 ≤ (ji9) then (if (ji9) ≤ ((rdOf ByteArray.empty l0 x17_1).size : Int) then (if x3_2.length < 8796093022208 then (impl_trieOf.l1 k2 l0 (x3_2 ++ [(rdOf ByteArray.empty l0 x17_1).extract 0 ((ji9) : Int).toNat]) (rdOf ByteArray.empty l0 x17_1) l0 (l0.length : Int) x17_1 ((rdOf ByteArray.empty l0 x17_1).size : Int) ji9) else (none)) else (none)) else (none)) = some r := by first | (rw [hji9] at H; exact H) | (simp only [hji9] at H ⊢; exact H)
         have hji9w : (IntKind.i64.wrap (x23_2 + 1)) = ji9 := (i64_w _).trans hji9
         by_cases c10 : 0 ≤ (ji9)
         ·rw [if_pos c10] at H
          have c10b0 := eq_true c10
          have c10b1 : decide (0 ≤ (ji9)) = true := decide_eq_true c10
          clear c10
          by_cases c11 : (ji9) ≤ ((rdOf ByteArray.empty l0 x17_1).size : Int)
          ·rw [if_pos c11] at H
           have c11b0 := eq_true c11
           have c11b1 : decide ((ji9) ≤ ((rdOf ByteArray.empty l0 x17_1).size : Int)) = true := decide_eq_true c11
           clear c11
           obtain ⟨js12, hjs12⟩ : ∃ j_ : ByteArray, ((rdOf ByteArray.empty l0 x17_1).extract 0 ((ji9) : Int).toNat) = j_ := ⟨_, rfl⟩
           replace H : (if x3_2.length < 8796093022208 then (impl_trieOf.l1 k2 l0 (x3_2 ++ [js12]) (rdOf ByteArray.empty l0 x17_1) l0 (l0.length : Int) x17_1 ((rdOf ByteArray.empty l0 x17_1).size : Int) ji9) else (none)) = some r := by first | (rw [hjs12] at H; exact H) | (simp only [hjs12] at H ⊢; exact H)
           by_cases c13 : x3_2.length < 8796093022208
           ·rw [if_pos c13] at H
            have LMc13 := Aside0.mk c13; clear c13
            obtain ⟨y442, hy442⟩ : ∃ y_ : List ByteArray, y_ = (x3_2 ++ [js12]) := ⟨_, rfl⟩
            replace H : (impl_trieOf.l1 k2 l0 y442 (rdOf ByteArray.empty l0 x17_1) l0 (l0.length : Int) x17_1 ((rdOf ByteArray.empty l0 x17_1).size : Int) ji9) = some r := by first | (rw [hy442]; with_reducible exact H) | (have H2_ := (Option.bind_some _ _).symm.trans H; rw [hy442]; with_reducible exact H2_) | (have H2_ := (Option.bind_some _ _).symm.trans H; with_reducible exact H2_) | with_reducible exact H | (rw [hy442]; exact H) | exact H
            have Ny442 := Aside0.mk hy442; clear hy442
            have H' := Aside0.mk H
            clear H
            go_wp2_with (first | ((with_reducible refine gate_builtin (b := .append) (xs := #[.tmp 26, .tmp 31]) rfl ?_); at_builtin; refine Kd.R_append Kd.string (w0 := w) w.heap.size rfl (.tmp 26) (.tmp 31) 31 9 (.string ⟨#[]⟩) 16 rfl Tryz.underlying31 info9 rfl (by decide) (by omega) u3 x3_2 js12 [.string js12] (fun _ => True) (fun _ => False) rfl rfl ?aP (fun _ hk => hk.elim) ?aF ?aO ?aB ?aS ?aL ?_; (case aP => exact rfl); (case aB => exact ax183); (case aF => exact ax35); (case aO => exact ax98); (case aS => exact (below_size ax183)); (case aL => have := LMc13.out; omega); intro v443 w14 ho hb hg hat; rw [← Ny442.out] at ho; have n0_ := Aside0.mk (blk_grown (g := gb437) (o := .cells #[.slice none 0 0] 26 (0, 0)) ax184 hg (Kd.R_ne HO_3.out BK437.out (by decide))); have n1_ := Aside0.mk (hb); have n2_ := Aside0.mk (ho); clear BK437; clear HB; clear HO_3; have BK437 := n0_; have HB := n1_; have HO444 := n2_; clear n0_ n1_ n2_; clear ho hb hg hat))
            go_roundg k2
            case measure => have := HK1.out; have := HK2.out; omega
            case rel => exact ⟨(y442), (ji9), (by first | rfl | (simp; done) | (simp only [← hji9] <;> (first | rfl | simp)) | (simp [*]; done)), H', ⟨ax66⟩, ⟨(by (with_reducible repeat (first | apply Kd.R_alloc | apply Kd.R_drewN | apply Kd.R_drew)); exact HO444.out)⟩, ⟨ax184⟩, ⟨ax183⟩⟩
           ·exact ax18
          ·exact ax7
         ·exact ax15
        ·rw [if_neg c8] at H
         have c8b0 : decide (x23_2 < ((rdOf ByteArray.empty l0 x17_1).size : Int)) = false := decide_eq_false c8
         clear c8
         have H' := Aside0.mk H
         clear H
         go_wp2
         go_roundg k2
         case measure => have := HK1.out; have := HK2.out; omega
         case rel => exact ⟨(x3_2), (wrap64 (x17_1 + 1)), ax30, H', ⟨ax66⟩, ⟨ax91⟩, ⟨ax184⟩, ⟨ax183⟩⟩
     ·exact ax3
    ·exact ax4
   ·rw [if_neg c5] at H
    have c5b0 : decide (x17_1 < (l0.length : Int)) = false := decide_eq_false c5
    clear c5
    obtain ⟨t445, A15, H⟩ := bs H
    have H' := Aside0.mk H
    clear H
    obtain ⟨Ao16, co16, eo16⟩ := Kd.R_slice HO_3.out
    subst eo16
    go_wp2_with (first | ((with_reducible refine gd 36 206 ?_); refine gc 36 Tryz.func206 #[.slice Ao16 x3_1.length co16] (impl_set.calls _ _ x3_1 t445 _ (by repeat (first | exact (Kd.R_reads' HO_3.out).2.2 | (with_reducible refine Kd.C_alloc ?_ _) | (with_reducible refine Kd.C_drewN ?_ _) | (with_reducible refine Kd.C_drew ?_))) ((Kd.R_reads' HO_3.out).2.1) A15.out) ?_; rintro e w17 ⟨v446, rfl, ho0, hb⟩; refine ⟨_, rfl, ?_⟩; have HO447 := Aside0.mk (Kd.R_lower (Kd.R_new' ho0 (Kd.R_lt ax91)) (below_size ax183)); replace HO_3 := Aside0.mk (Kd.R_elder' ax91 (Kd.R_base ho0) hb); replace BK437 := ub BK437 hb; replace HB := Aside0.mk (below_step ax183 hb); (try clear hb); (try clear hb2); (try clear hk); (try clear hi); (try clear ho0)) | ((with_reducible refine gate_dst (N := 38) rfl ?_); refine G.mnew_event ?hg (N := 38) ?hd 9 3 ?hr ?_; (case hd => rfl); (case hg => rfl); (case hr => first | rfl | (go_simp; done) | (go_simp; rfl) | (simp [execOp, run_makeMap]; done)); intro gm448 hg w18 hmap hb; replace HO_3 := uR HO_3 hb; replace HO447 := uR HO447 hb; replace BK437 := ub BK437 hb; have MP448 := Aside0.mk (hmap); have GM448 := Aside0.mk ((ax185 : w.heap.size ≤ gm448)); replace HB := Aside0.mk (below_step ax183 hb); clear hb hmap hg) | ((with_reducible refine gate_dst (N := 7) rfl ?_); refine box_event ?hg (N := 7) ?hd (cs := #[.slice none 0 0]) (t := 26) ?hr ?_; (case hd => rfl); (case hg => rfl); (case hr => exact ax31); intro gb449 hg w19 hbox hb; replace HO_3 := uR HO_3 hb; replace HO447 := uR HO447 hb; replace MP448 := Aside0.mk (G.MapIs.below (show G.MapIs Tryz.prog 9 3 _ gm448 ([] : List (ByteArray × Int)) from by repeat (first | (with_reducible first | exact MP448.out | apply G.MapIs.alloc | apply G.MapIs.drewN | apply G.MapIs.drew) | exact MP448.out)) hb); have BK449 := Aside0.mk (hbox); have GW449 := Aside0.mk ((ax185 : w.heap.size ≤ gb449)); have GE449 := Aside0.mk ((ax185 : w.heap.size ≤ gb449)); replace HB := Aside0.mk (below_step ax183 hb); have NB437_449 := uN hg BK437; have NB449_437 := uM hg BK437; replace BK437 := ub BK437 hb; clear hb hbox hg; have hnb20 := NB449_437.out; have hnc20 := NB437_449.out; have hcz21_0 := bc (.slice none 0 0) BK449 0; have hfz21_0 := blk_frozen BK449.out 0; obtain ⟨Ao22, co22, eo22⟩ := Kd.R_slice HO447.out; subst eo22))
    go_loopg [41] k1 (fun kq v41 w' => ∃ (x41_2 : Int) (x449000_2 : List (ByteArray × Int)) (x450000_2 : List (S74)) (u450000 : Value), v41 = .int .i64 x41_2 ∧ Aside0 (impl_trieOf.l2 kq l0 t445 (t445.length : Int) x41_2 x449000_2 x450000_2 = some r) ∧ Aside0 (kq ≤ k1) ∧ Aside0 (Kd.R Kd.string 9 w' w.heap.size (fun _ => True) (.slice Ao22 t445.length co22) t445) ∧ Aside0 (Kd.R k74 74 w' w.heap.size (fun _ => True) u450000 x450000_2) ∧ Aside0 (w'.heap[gb437]? = some (.cells #[(.slice none 0 0)] 26 (0, 0))) ∧ Aside0 (w'.heap[gb449]? = some (.cells #[u450000] 26 (0, 0))) ∧ Aside0 (G.MapIs Tryz.prog 9 3 w' gm448 x449000_2) ∧ Aside0 (Below w.heap.size w w'))
    case atStart => exact ⟨(0), (([] : List (ByteArray × Int))), (([] : List (S74))), (.slice none 0 0), ax30, H', ⟨Nat.le_refl _⟩, ⟨(by (with_reducible repeat (first | apply Kd.R_alloc | apply Kd.R_drewN | apply Kd.R_drew)); exact Kd.R_mono (Kd.R_far (p := ⟨gb449, 0, none⟩) (Kd.R_types HO447.out BK449.out (by decide)) (fun _ hk => hk.2) (.slice none 0 0)) (fun _ hk => trivial))⟩, ⟨(by first | exact Kd.R_nil _ _ _ _ _ | exact Kd.N_nil _ _ _ _ _ | exact Kd.V_nil _ _ _ _ _ | exact Kd.Q_nil _ _ _ _ _ | exact Kd.S_nil _ _ _ _ _)⟩, ⟨ax186⟩, ⟨(by (with_reducible repeat (first | refine blk_drewN ?_ _ | refine blk_drew ?_ | refine blk_alloc ?_ _)); refine blk_put (cs := #[.slice none 0 0]) ?_ 0 _ rfl; (with_reducible repeat (first | refine blk_drewN ?_ _ | refine blk_drew ?_ | refine blk_alloc ?_ _)); exact BK449.out)⟩, ⟨show G.MapIs Tryz.prog 9 3 _ gm448 ([] : List (ByteArray × Int)) from by repeat (first | (with_reducible first | exact MP448.out | apply G.MapIs.alloc | apply G.MapIs.drewN | apply G.MapIs.drew | refine G.MapIs.set ?_ (G.MapIs.ne_blk MP448.out BK449.out) _ _) | exact MP448.out)⟩, ⟨ax187⟩⟩
    case round =>
     clear H'
     (try clear hcz21_0);(try clear hfz21_0);(try clear c5);(try clear c5b0);(try clear c6)
     obtain ⟨x41_2, x449000_2, x450000_2, u450000, rfl, HA, HK2, HO_39, HO_450000, BK437, BK449, MP448, HB⟩ := hrel
     cases gk with
     | zero => exact absurd HA.out (by simp [impl_trieOf.l2])
     | succ k2 =>
      have H := HA.out; clear HA
      simp only [impl_trieOf.l2] at H
      by_cases c23 : x41_2 < (t445.length : Int)
      ·rw [if_pos c23] at H
       have c23b0 : decide (x41_2 < (t445.length : Int)) = true := decide_eq_true c23
       clear c23
       by_cases c24 : 0 ≤ x41_2
       ·rw [if_pos c24] at H
        have c24b0 : decide (0 ≤ x41_2) = true := decide_eq_true c24
        clear c24
        by_cases c25 : x41_2 < (t445.length : Int)
        ·rw [if_pos c25] at H
         have c25b0 : decide (x41_2 < (t445.length : Int)) = true := decide_eq_true c25
         clear c25
         by_cases c26 : x449000_2.length < 9223372036854775807
         ·rw [if_pos c26] at H
          have LMc26 := Aside0.mk c26; clear c26
          by_cases c27 : (rdOf ByteArray.empty t445 x41_2).size ≤ 9223372036854775807
          ·rw [if_pos c27] at H
           have LMc27 := Aside0.mk c27; clear c27
           by_cases c28 : -9223372036854775808 ≤ x41_2
           ·rw [if_pos c28] at H
            have LMc28 := Aside0.mk c28; clear c28
            by_cases c29 : x41_2 ≤ 9223372036854775807
            ·rw [if_pos c29] at H
             have LMc29 := Aside0.mk c29; clear c29
             obtain ⟨y451, hy451⟩ : ∃ y_ : List (ByteArray × Int), y_ = ((rdOf ByteArray.empty t445 x41_2, x41_2) :: x449000_2) := ⟨_, rfl⟩
             replace H : ((slices_BinarySearch_string_string.f k2 l0 (rdOf ByteArray.empty t445 x41_2)).bind fun bt452 => (if (rdOf ByteArray.empty t445 x41_2).toList = ([] : List UInt8) then (if x450000_2.length < 5864062014805 then (impl_trieOf.l2 k2 l0 t445 (t445.length : Int) (wrap64 (x41_2 + 1)) y451 (x450000_2 ++ [(⟨(-1), (-1), bt452.2⟩ : S74)])) else (none)) else (if 0 ≤ (wrap64 (((rdOf ByteArray.empty t445 x41_2).size : Int) - 1)) then (if (wrap64 (((rdOf ByteArray.empty t445 x41_2).size : Int) - 1)) < ((rdOf ByteArray.empty t445 x41_2).size : Int) then (if (wrap64 (((rdOf ByteArray.empty t445 x41_2).size : Int) - 1)) ≤ ((rdOf ByteArray.empty t445 x41_2).size : Int) then (if ((rdOf ByteArray.empty t445 x41_2).extract 0 ((wrap64 (((rdOf ByteArray.empty t445 x41_2).size : Int) - 1)) : Int).toNat).size ≤ 9223372036854775807 then (if x450000_2.length < 5864062014805 then (impl_trieOf.l2 k2 l0 t445 (t445.length : Int) (wrap64 (x41_2 + 1)) y451 (x450000_2 ++ [(⟨((bt (rdOf ByteArray.empty t445 x41_2) (wrap64 (((rdOf ByteArray.empty t445 x41_2).size : Int) - 1))) - 97) % 256, G.mapGet y451 ((rdOf ByteArray.empty t445 x41_2).extract 0 ((wrap64 (((rdOf ByteArray.empty t445 x41_2).size : Int) - 1)) : Int).toNat), bt452.2⟩ : S74)])) else (none)) else (none)) else (none)) else (none)) else (none)))) = some r := by first | (rw [hy451]; with_reducible exact H) | (have H2_ := (Option.bind_some _ _).symm.trans H; rw [hy451]; with_reducible exact H2_) | (have H2_ := (Option.bind_some _ _).symm.trans H; with_reducible exact H2_) | with_reducible exact H | (rw [hy451]; exact H) | exact H
             have Ny451 := Aside0.mk hy451; clear hy451
             obtain ⟨⟨t452, t453⟩, A30, H⟩ := bs H
             by_cases c31 : (rdOf ByteArray.empty t445 x41_2).toList = ([] : List UInt8)
             ·rw [if_pos c31] at H
              have c31b0 : ((rdOf ByteArray.empty t445 x41_2).toList == ([] : List UInt8)) = true := beq_iff_eq.mpr c31
              have c31b1 : ((rdOf ByteArray.empty t445 x41_2).toList != ([] : List UInt8)) = false := bne_eq_false_iff_eq.mpr c31
              clear c31
              by_cases c32 : x450000_2.length < 5864062014805
              ·rw [if_pos c32] at H
               have LMc32 := Aside0.mk c32; clear c32
               obtain ⟨y455, hy455⟩ : ∃ y_ : List (S74), y_ = (x450000_2 ++ [(⟨(-1), (-1), t453⟩ : S74)]) := ⟨_, rfl⟩
               replace H : (impl_trieOf.l2 k2 l0 t445 (t445.length : Int) (wrap64 (x41_2 + 1)) y451 y455) = some r := by first | (rw [hy455]; with_reducible exact H) | (have H2_ := (Option.bind_some _ _).symm.trans H; rw [hy455]; with_reducible exact H2_) | (have H2_ := (Option.bind_some _ _).symm.trans H; with_reducible exact H2_) | with_reducible exact H | (rw [hy455]; exact H) | exact H
               have Ny455 := Aside0.mk hy455; clear hy455
               have H' := Aside0.mk H
               clear H
               have p450 : 0 ≤ (x41_2 : Int) := of_decide_eq_true ax25
               have q450 : x41_2 < (t445.length : Int) := of_decide_eq_true ax25
               obtain ⟨ad450, e450, hx450_0⟩ := Kd.at_string (Kd.R_reads' HO_39.out).2.2 x41_2 p450 q450
               cases e450; replace p450 := eq_true p450; replace q450 := eq_true q450
               go_wp2_with (first | ((with_reducible refine G.gate_mput (t := 139) (m := .tmp 46) (x := .tmp 47) (v := .tmp 48) rfl ?_); refine G.mput_event ?hg (t := 139) (m := .tmp 46) (x := .tmp 47) (v := .tmp 48) ?ho ?hd (b := gm448) (s := (rdOf ByteArray.empty t445 x41_2)) (i := x41_2) ?hm ?hx ?hv (K := 9) (E := 3) (c := x449000_2) ?ht ?hK ?hE ?hw ?hs ?hl ?hmap ?_; (case hg => rfl); (case ho => rfl); (case hd => rfl); (case hm => rfl); (case hx => rfl); (case hv => rfl); (case ht => exact Tryz.underlying139); (case hK => exact Tryz.underlying9); (case hE => exact Tryz.underlying3); (case hw => exact ax188); (case hs => exact LMc27.out); (case hl => exact LMc26.out); (case hmap => exact ax189); intro w33 hmap hg; rw [← Ny451.out] at hmap; replace HO_39 := Aside0.mk (Kd.R_grown1 ax190 rfl hg (G.MapIs.ne_row MP448.out HO_39.out)); replace HO_450000 := Aside0.mk (Kd.R_grown1 ax191 rfl hg (G.MapIs.ne_row MP448.out HO_450000.out)); replace BK437 := Aside0.mk (blk_grown (g := gb437) (o := .cells #[.slice none 0 0] 26 (0, 0)) ax184 hg (fun e_ => G.MapIs.ne_blk MP448.out BK437.out ax192)); replace BK449 := Aside0.mk (blk_grown (g := gb449) (o := .cells #[u450000] 26 (0, 0)) ax193 hg (fun e_ => G.MapIs.ne_blk MP448.out BK449.out ax192)); replace MP448 := Aside0.mk (hmap); replace HB := Aside0.mk (Below.grown ax187 hg (below_size ax187) (fun k_ e_ => by cases e_; exact GM448.out)); clear hmap hg) | ((with_reducible refine gd 52 169 ?_); refine gc 52 Tryz.func169 #[.slice A0 l0.length c0, .string (rdOf ByteArray.empty t445 x41_2)] (slices_BinarySearch_string_string.calls k2 _ _ l0 (rdOf ByteArray.empty t445 x41_2) t452 t453 _ ax33 (HC0.out) A30.out) ?_; rintro e w' ⟨rfl, ⟨nd, rfl⟩⟩; refine ⟨_, rfl, ?_⟩; (try (rw [drewN_self w33]; generalize hq_ : World.drewN w33 _ = w33; have n0_ : Aside0 (Kd.R Kd.string 9 w33 w.heap.size (fun _ => True) (.slice (some ad450) t445.length co22) t445) := ⟨ax194⟩; have n1_ : Aside0 (Kd.R k74 74 w33 w.heap.size (fun _ => True) u450000 x450000_2) := ⟨ax195⟩; have n2_ : Aside0 (G.MapIs Tryz.prog 9 3 w33 gm448 y451) := ⟨ax196⟩; have n3_ : Aside0 (w33.heap[gb437]? = some (.cells #[.slice none 0 0] 26 (0, 0))) := ⟨ax197⟩; have n4_ : Aside0 (w33.heap[gb449]? = some (.cells #[u450000] 26 (0, 0))) := ⟨ax198⟩; have n5_ : Aside0 (Below w.heap.size w w33) := ⟨ax199⟩; clear HO_39 HO_450000 MP448 BK437 BK449 HB hq_; have HO_39 := n0_; have HO_450000 := n1_; have MP448 := n2_; have BK437 := n3_; have BK449 := n4_; have HB := n5_; clear n0_ n1_ n2_ n3_ n4_ n5_))) | ((with_reducible refine gate_dst (N := 13) rfl ?_); refine box_event ?hg (N := 13) ?hd (cs := #[.int .i64 0, .int .i64 0, .bool false]) (t := 74) ?hr ?_; (case hd => rfl); (case hg => rfl); (case hr => exact ax31); intro gb454 hg w34 hbox hb; replace HO_39 := uR HO_39 hb; replace HO_450000 := Aside0.mk (Kd.R_below (Kd.R_elderB ax191 gb454 (Nat.le_of_eq hg.symm)) hb); replace MP448 := Aside0.mk (G.MapIs.below (show G.MapIs Tryz.prog 9 3 _ gm448 y451 from by repeat (first | (with_reducible first | exact MP448.out | apply G.MapIs.alloc | apply G.MapIs.drewN | apply G.MapIs.drew) | exact MP448.out)) hb); have BK454 := Aside0.mk (hbox); have GW454 := Aside0.mk ((ax200 : w.heap.size ≤ gb454)); have GE454 := Aside0.mk ((ax200 : w.heap.size ≤ gb454)); replace HB := Aside0.mk (below_step ax187 hb); have NB437_454 := uN hg BK437; have NB454_437 := uM hg BK437; replace BK437 := ub BK437 hb; have NB449_454 := uN hg BK449; have NB454_449 := uM hg BK449; replace BK449 := ub BK449 hb; clear hb hbox hg; have hnb35 := NB454_437.out; have hnc35 := NB437_454.out; have hnb36 := NB454_449.out; have hnc36 := NB449_454.out; have hcz37_0 := bc (.int .i64 0) BK454 0; have hcz37_1 := bc (.int .i64 0) BK454 1; have hcz37_2 := bc (.bool false) BK454 2; have hfz37_0 := blk_frozen BK454.out 0; have hfz37_1 := blk_frozen BK454.out 1; have hfz37_2 := blk_frozen BK454.out 2; have hnb38 := NB449_437.out; have hnc38 := NB437_449.out; have hcz39_0 := bc (u450000) BK449 0; have hfz39_0 := blk_frozen BK449.out 0) | ((with_reducible refine gate_builtin (b := .append) (xs := #[.tmp 76, .tmp 78]) rfl ?_); at_builtin; refine Kd.R_append k74 (w0 := w) w.heap.size rfl (.tmp 76) (.tmp 78) 24 74 (.agg #[(.int .i64 0), (.int .i64 0), (.bool false)]) 24 rfl Tryz.underlying24 info74 rfl (by decide) (by omega) u450000 x450000_2 (⟨(-1), (-1), t453⟩ : S74) [.int .i64 (-1), .int .i64 (-1), .bool t453] (fun k_ => k_ ≠ gb454) (fun _ => False) rfl ax31 ?aP (fun _ hk => hk.elim) ?aF ?aO ?aB ?aS ?aL ?_; (case aP => exact k74_mkM _ _ _ (⟨(-1), (-1), t453⟩ : S74)); (case aB => exact ax201); (case aF => exact (fun k_ hk => Kd.freshB (g := gb454) (o := .cells #[.int .i64 (-1), .int .i64 (-1), .bool t453] 74 (0, 0)) ax202 k_ hk)); (case aO => exact ax203); (case aS => exact ax204); (case aL => have := LMc32.out; omega); intro v456 w40 ho hb hg hat; rw [← Ny455.out] at ho; have n0_ := Aside0.mk (Kd.R_over' (by (with_reducible repeat (first | apply Kd.R_alloc | apply Kd.R_drewN | apply Kd.R_drew)); exact (Kd.R_mono (Kd.R_far (p := ⟨gb454, 2, none⟩) (Kd.R_far (p := ⟨gb454, 1, none⟩) (Kd.R_far (p := ⟨gb454, 0, none⟩) (Kd.R_types HO_39.out BK454.out (by decide)) (fun _ hk => hk.2) (.int .i64 (-1))) (fun _ hk => hk.2) (.int .i64 (-1))) (fun _ hk => hk.2) (.bool t453)) (fun _ h_ => h_.1))) (Kd.R_typed (by (with_reducible repeat (first | apply Kd.R_alloc | apply Kd.R_drewN | apply Kd.R_drew)); exact (Kd.R_mono (Kd.R_far (p := ⟨gb454, 2, none⟩) (Kd.R_far (p := ⟨gb454, 1, none⟩) (Kd.R_far (p := ⟨gb454, 0, none⟩) (Kd.R_mono HO_450000.out (fun k_ hk => (⟨hk, hk.2⟩ : _ ∧ k_ ≠ gb454))) (fun _ hk => hk.2) (.int .i64 (-1))) (fun _ hk => hk.2) (.int .i64 (-1))) (fun _ hk => hk.2) (.bool t453)) (fun _ h_ => h_.1)))) (by decide) hg); have n1_ := Aside0.mk (blk_grown (g := gb437) (o := .cells #[.slice none 0 0] 26 (0, 0)) ax205 hg (Kd.R_ne HO_450000.out BK437.out (by decide))); have n2_ := Aside0.mk (blk_grown (g := gb449) (o := .cells #[u450000] 26 (0, 0)) ax206 hg (Kd.R_ne HO_450000.out BK449.out (by decide))); have n3_ := Aside0.mk (G.MapIs.grown (show G.MapIs Tryz.prog 9 3 _ gm448 y451 from by repeat (first | (with_reducible first | exact MP448.out | apply G.MapIs.alloc | apply G.MapIs.drewN | apply G.MapIs.drew | refine G.MapIs.set ?_ (G.MapIs.ne_blk MP448.out BK454.out) _ _ | refine G.MapIs.set ?_ (G.MapIs.ne_blk MP448.out BK454.out) _ _ | refine G.MapIs.set ?_ (G.MapIs.ne_blk MP448.out BK454.out) _ _) | exact MP448.out)) hg (G.MapIs.ne_row MP448.out HO_450000.out)); have n4_ := Aside0.mk (blk_grown (g := gb454) (o := .cells #[.int .i64 (-1), .int .i64 (-1), .bool t453] 74 (0, 0)) ax202 hg (Kd.R_away HO_450000.out (fun _ hk => hk.2))); have n5_ := Aside0.mk (hb); have n6_ := Aside0.mk (ho); clear HO_39; clear BK437; clear BK449; clear MP448; clear BK454; clear HB; clear HO_450000; have HO_39 := n0_; have BK437 := n1_; have BK449 := n2_; have MP448 := n3_; have BK454 := n4_; have HB := n5_; have HO457 := n6_; clear n0_ n1_ n2_ n3_ n4_ n5_ n6_; clear ho hb hg hat; obtain ⟨Ao41, co41, eo41⟩ := Kd.R_slice HO457.out; subst eo41; have hcz42_0 := bc (u450000) BK449 0; have hfz42_0 := blk_frozen BK449.out 0))
               go_roundg k2
               case measure => have := HK1.out; have := HK2.out; omega
               case rel => exact ⟨(wrap64 (x41_2 + 1)), (y451), (y455), (.slice Ao41 y455.length co41), ax30, H', ⟨ax66⟩, ⟨(by (with_reducible repeat (first | apply Kd.R_alloc | apply Kd.R_drewN | apply Kd.R_drew)); exact Kd.R_mono (Kd.R_far (p := ⟨gb449, 0, none⟩) (Kd.R_types HO_39.out BK449.out (by decide)) (fun _ hk => hk.2) (.slice Ao41 y455.length co41)) (fun _ hk => trivial))⟩, ⟨(by (with_reducible repeat (first | apply Kd.R_alloc | apply Kd.R_drewN | apply Kd.R_drew)); exact Kd.R_mono (Kd.R_far (p := ⟨gb449, 0, none⟩) (Kd.R_types HO457.out BK449.out (by decide)) (fun _ hk => hk.2) (.slice Ao41 y455.length co41)) (fun _ hk => trivial))⟩, ⟨ax186⟩, ⟨ax207⟩, ⟨show G.MapIs Tryz.prog 9 3 _ gm448 y451 from by repeat (first | (with_reducible first | exact MP448.out | apply G.MapIs.alloc | apply G.MapIs.drewN | apply G.MapIs.drew | refine G.MapIs.set ?_ (G.MapIs.ne_blk MP448.out BK449.out) _ _) | exact MP448.out)⟩, ⟨ax208⟩⟩
              ·rw [if_neg c32] at H
               exact absurd H (by simp)
             ·rw [if_neg c31] at H
              have c31b0 : ((rdOf ByteArray.empty t445 x41_2).toList == ([] : List UInt8)) = false := beq_eq_false_iff_ne.mpr c31
              have c31b1 : ((rdOf ByteArray.empty t445 x41_2).toList != ([] : List UInt8)) = true := bne_iff_ne.mpr c31
              obtain ⟨ji43, hji43⟩ : ∃ j_ : Int, (wrap64 (((rdOf ByteArray.empty t445 x41_2).size : Int) - 1)) = j_ := ⟨_, rfl⟩
              replace H : (if 0 ≤ (ji43) then (if (ji43) < ((rdOf ByteArray.empty t445 x41_2).size : Int) then (if (ji43) ≤ ((rdOf ByteArray.empty t445 x41_2).size : Int) then (if ((rdOf ByteArray.empty t445 x41_2).extract 0 ((ji43) : Int).toNat).size ≤ 9223372036854775807 then (if x450000_2.length < 5864062014805 then (impl_trieOf.l2 k2 l0 t445 (t445.length : Int) (wrap64 (x41_2 + 1)) y451 (x450000_2 ++ [(⟨((bt (rdOf ByteArray.empty t445 x41_2) (ji43)) - 97) % 256, G.mapGet y451 ((rdOf ByteArray.empty t445 x41_2).extract 0 ((ji43) : Int).toNat), t453⟩ : S74)])) else (none)) else (none)) else (none)) else (none)) else (none)) = some r := by first | (rw [hji43] at H; exact H) | (simp only [hji43] at H ⊢; exact H)
              (try rw [hji43] at A30)
              have hji43w : (IntKind.i64.wrap (((rdOf ByteArray.empty t445 x41_2).size : Int) - 1)) = ji43 := (i64_w _).trans hji43
              by_cases c44 : 0 ≤ (ji43)
              ·rw [if_pos c44] at H
               have c44b0 : decide (0 ≤ (ji43)) = true := decide_eq_true c44
               clear c44
               by_cases c45 : (ji43) < ((rdOf ByteArray.empty t445 x41_2).size : Int)
               ·rw [if_pos c45] at H
                have c45b0 : decide ((ji43) < ((rdOf ByteArray.empty t445 x41_2).size : Int)) = true := decide_eq_true c45
                clear c45
                have cv47w : (IntKind.i64.wrap (((bt (rdOf ByteArray.empty t445 x41_2) (ji43)) - 97) % 256)) = (((bt (rdOf ByteArray.empty t445 x41_2) (ji43)) - 97) % 256) := (i64_w _).trans (by unfold wrap64; omega)
                have cv48z : wrap64 (((bt (rdOf ByteArray.empty t445 x41_2) (ji43)) - 97) % 256) = (((bt (rdOf ByteArray.empty t445 x41_2) (ji43)) - 97) % 256) := by unfold wrap64; omega
                have c49b0 := eq_true (of_decide_eq_true ax25 : 0 ≤ (ji43))
                by_cases c50 : (ji43) ≤ ((rdOf ByteArray.empty t445 x41_2).size : Int)
                ·rw [if_pos c50] at H
                 have c50b0 := eq_true c50
                 have c50b1 : decide ((ji43) ≤ ((rdOf ByteArray.empty t445 x41_2).size : Int)) = true := decide_eq_true c50
                 clear c50
                 obtain ⟨js51, hjs51⟩ : ∃ j_ : ByteArray, ((rdOf ByteArray.empty t445 x41_2).extract 0 ((ji43) : Int).toNat) = j_ := ⟨_, rfl⟩
                 replace H : (if js51.size ≤ 9223372036854775807 then (if x450000_2.length < 5864062014805 then (impl_trieOf.l2 k2 l0 t445 (t445.length : Int) (wrap64 (x41_2 + 1)) y451 (x450000_2 ++ [(⟨((bt (rdOf ByteArray.empty t445 x41_2) (ji43)) - 97) % 256, G.mapGet y451 js51, t453⟩ : S74)])) else (none)) else (none)) = some r := by first | (rw [hjs51] at H; exact H) | (simp only [hjs51] at H ⊢; exact H)
                 by_cases c52 : js51.size ≤ 9223372036854775807
                 ·rw [if_pos c52] at H
                  have LMc52 := Aside0.mk c52; clear c52
                  by_cases c53 : x450000_2.length < 5864062014805
                  ·rw [if_pos c53] at H
                   have LMc53 := Aside0.mk c53; clear c53
                   obtain ⟨y458, hy458⟩ : ∃ y_ : List (S74), y_ = (x450000_2 ++ [(⟨((bt (rdOf ByteArray.empty t445 x41_2) (ji43)) - 97) % 256, G.mapGet y451 js51, t453⟩ : S74)]) := ⟨_, rfl⟩
                   replace H : (impl_trieOf.l2 k2 l0 t445 (t445.length : Int) (wrap64 (x41_2 + 1)) y451 y458) = some r := by first | (rw [hy458]; with_reducible exact H) | (have H2_ := (Option.bind_some _ _).symm.trans H; rw [hy458]; with_reducible exact H2_) | (have H2_ := (Option.bind_some _ _).symm.trans H; with_reducible exact H2_) | with_reducible exact H | (rw [hy458]; exact H) | exact H
                   have Ny458 := Aside0.mk hy458; clear hy458
                   have H' := Aside0.mk H
                   clear H
                   have p450 : 0 ≤ (x41_2 : Int) := of_decide_eq_true ax25
                   have q450 : x41_2 < (t445.length : Int) := of_decide_eq_true ax25
                   obtain ⟨ad450, e450, hx450_0⟩ := Kd.at_string (Kd.R_reads' HO_39.out).2.2 x41_2 p450 q450
                   cases e450; replace p450 := eq_true p450; replace q450 := eq_true q450
                   try go_wp2_with (first | ((with_reducible refine G.gate_mput (t := 139) (m := .tmp 46) (x := .tmp 47) (v := .tmp 48) rfl ?_); refine G.mput_event ?hg (t := 139) (m := .tmp 46) (x := .tmp 47) (v := .tmp 48) ?ho ?hd (b := gm448) (s := (rdOf ByteArray.empty t445 x41_2)) (i := x41_2) ?hm ?hx ?hv (K := 9) (E := 3) (c := x449000_2) ?ht ?hK ?hE ?hw ?hs ?hl ?hmap ?_; (case hg => rfl); (case ho => rfl); (case hd => rfl); (case hm => rfl); (case hx => rfl); (case hv => rfl); (case ht => exact Tryz.underlying139); (case hK => exact Tryz.underlying9); (case hE => exact Tryz.underlying3); (case hw => exact ax188); (case hs => exact LMc27.out); (case hl => exact LMc26.out); (case hmap => exact ax189); intro w54 hmap hg; rw [← Ny451.out] at hmap; replace HO_39 := Aside0.mk (Kd.R_grown1 ax190 rfl hg (G.MapIs.ne_row MP448.out HO_39.out)); replace HO_450000 := Aside0.mk (Kd.R_grown1 ax191 rfl hg (G.MapIs.ne_row MP448.out HO_450000.out)); replace BK437 := Aside0.mk (blk_grown (g := gb437) (o := .cells #[.slice none 0 0] 26 (0, 0)) ax184 hg (fun e_ => G.MapIs.ne_blk MP448.out BK437.out ax192)); replace BK449 := Aside0.mk (blk_grown (g := gb449) (o := .cells #[u450000] 26 (0, 0)) ax193 hg (fun e_ => G.MapIs.ne_blk MP448.out BK449.out ax192)); replace MP448 := Aside0.mk (hmap); replace HB := Aside0.mk (Below.grown ax187 hg (below_size ax187) (fun k_ e_ => by cases e_; exact GM448.out)); clear hmap hg) | ((with_reducible refine gd 52 169 ?_); refine gc 52 Tryz.func169 #[.slice A0 l0.length c0, .string (rdOf ByteArray.empty t445 x41_2)] (slices_BinarySearch_string_string.calls k2 _ _ l0 (rdOf ByteArray.empty t445 x41_2) t452 t453 _ ax33 (HC0.out) A30.out) ?_; rintro e w' ⟨rfl, ⟨nd, rfl⟩⟩; refine ⟨_, rfl, ?_⟩; (try (rw [drewN_self w54]; generalize hq_ : World.drewN w54 _ = w54; have n0_ : Aside0 (Kd.R Kd.string 9 w54 w.heap.size (fun _ => True) (.slice (some ad450) t445.length co22) t445) := ⟨ax194⟩; have n1_ : Aside0 (Kd.R k74 74 w54 w.heap.size (fun _ => True) u450000 x450000_2) := ⟨ax195⟩; have n2_ : Aside0 (G.MapIs Tryz.prog 9 3 w54 gm448 y451) := ⟨ax196⟩; have n3_ : Aside0 (w54.heap[gb437]? = some (.cells #[.slice none 0 0] 26 (0, 0))) := ⟨ax197⟩; have n4_ : Aside0 (w54.heap[gb449]? = some (.cells #[u450000] 26 (0, 0))) := ⟨ax198⟩; have n5_ : Aside0 (Below w.heap.size w w54) := ⟨ax199⟩; clear HO_39 HO_450000 MP448 BK437 BK449 HB hq_; have HO_39 := n0_; have HO_450000 := n1_; have MP448 := n2_; have BK437 := n3_; have BK449 := n4_; have HB := n5_; clear n0_ n1_ n2_ n3_ n4_ n5_))) | ((with_reducible refine gate_dst (N := 13) rfl ?_); refine box_event ?hg (N := 13) ?hd (cs := #[.int .i64 0, .int .i64 0, .bool false]) (t := 74) ?hr ?_; (case hd => rfl); (case hg => rfl); (case hr => exact ax31); intro gb454 hg w55 hbox hb; replace HO_39 := uR HO_39 hb; replace HO_450000 := Aside0.mk (Kd.R_below (Kd.R_elderB ax191 gb454 (Nat.le_of_eq hg.symm)) hb); replace MP448 := Aside0.mk (G.MapIs.below (show G.MapIs Tryz.prog 9 3 _ gm448 y451 from by repeat (first | (with_reducible first | exact MP448.out | apply G.MapIs.alloc | apply G.MapIs.drewN | apply G.MapIs.drew) | exact MP448.out)) hb); have BK454 := Aside0.mk (hbox); have GW454 := Aside0.mk ((ax200 : w.heap.size ≤ gb454)); have GE454 := Aside0.mk ((ax200 : w.heap.size ≤ gb454)); replace HB := Aside0.mk (below_step ax187 hb); have NB437_454 := uN hg BK437; have NB454_437 := uM hg BK437; replace BK437 := ub BK437 hb; have NB449_454 := uN hg BK449; have NB454_449 := uM hg BK449; replace BK449 := ub BK449 hb; clear hb hbox hg; have hnb56 := NB454_437.out; have hnc56 := NB437_454.out; have hnb57 := NB454_449.out; have hnc57 := NB449_454.out; have hcz58_0 := bc (.int .i64 0) BK454 0; have hcz58_1 := bc (.int .i64 0) BK454 1; have hcz58_2 := bc (.bool false) BK454 2; have hfz58_0 := blk_frozen BK454.out 0; have hfz58_1 := blk_frozen BK454.out 1; have hfz58_2 := blk_frozen BK454.out 2))
                   have n0_ : Aside0 (Kd.R Kd.string 9 (((w55.setCell ⟨gb454, 0, none⟩ (.int .i64 (-1))).setCell ⟨gb454, 1, none⟩ (.int .i64 (-1))).setCell ⟨gb454, 2, none⟩ (.bool t453)) w.heap.size (fun _ => True) (.slice (some ad450) t445.length co22) t445) := ⟨(by (with_reducible repeat (first | apply Kd.R_alloc | apply Kd.R_drewN | apply Kd.R_drew)); exact Kd.R_mono (Kd.R_far (p := ⟨gb454, 2, none⟩) (Kd.R_far (p := ⟨gb454, 1, none⟩) (Kd.R_far (p := ⟨gb454, 0, none⟩) (Kd.R_types HO_39.out BK454.out (by decide)) (fun _ hk => hk.2) (.int .i64 (-1))) (fun _ hk => hk.2) (.int .i64 (-1))) (fun _ hk => hk.2) (.bool t453)) (fun _ hk => trivial))⟩
                   have n1_ : Aside0 (Kd.R k74 74 (((w55.setCell ⟨gb454, 0, none⟩ (.int .i64 (-1))).setCell ⟨gb454, 1, none⟩ (.int .i64 (-1))).setCell ⟨gb454, 2, none⟩ (.bool t453)) w.heap.size (fun k_ => k_ ≠ gb454) u450000 x450000_2) := ⟨ax203⟩
                   have n2_ : Aside0 ((((w55.setCell ⟨gb454, 0, none⟩ (.int .i64 (-1))).setCell ⟨gb454, 1, none⟩ (.int .i64 (-1))).setCell ⟨gb454, 2, none⟩ (.bool t453)).heap[gb437]? = some (.cells #[.slice none 0 0] 26 (0, 0))) := ⟨ax205⟩
                   have n3_ : Aside0 ((((w55.setCell ⟨gb454, 0, none⟩ (.int .i64 (-1))).setCell ⟨gb454, 1, none⟩ (.int .i64 (-1))).setCell ⟨gb454, 2, none⟩ (.bool t453)).heap[gb449]? = some (.cells #[u450000] 26 (0, 0))) := ⟨ax206⟩
                   have n4_ : Aside0 ((((w55.setCell ⟨gb454, 0, none⟩ (.int .i64 (-1))).setCell ⟨gb454, 1, none⟩ (.int .i64 (-1))).setCell ⟨gb454, 2, none⟩ (.bool t453)).heap[gb454]? = some (.cells #[.int .i64 (-1), .int .i64 (-1), .bool t453] 74 (0, 0))) := ⟨ax202⟩
                   have n5_ : Aside0 (G.MapIs Tryz.prog 9 3 (((w55.setCell ⟨gb454, 0, none⟩ (.int .i64 (-1))).setCell ⟨gb454, 1, none⟩ (.int .i64 (-1))).setCell ⟨gb454, 2, none⟩ (.bool t453)) gm448 y451) := ⟨show G.MapIs Tryz.prog 9 3 _ gm448 y451 from by repeat (first | (with_reducible first | exact MP448.out | apply G.MapIs.alloc | apply G.MapIs.drewN | apply G.MapIs.drew | refine G.MapIs.set ?_ (G.MapIs.ne_blk MP448.out BK454.out) _ _ | refine G.MapIs.set ?_ (G.MapIs.ne_blk MP448.out BK454.out) _ _ | refine G.MapIs.set ?_ (G.MapIs.ne_blk MP448.out BK454.out) _ _) | exact MP448.out)⟩
                   have n6_ : Aside0 (Below w.heap.size w (((w55.setCell ⟨gb454, 0, none⟩ (.int .i64 (-1))).setCell ⟨gb454, 1, none⟩ (.int .i64 (-1))).setCell ⟨gb454, 2, none⟩ (.bool t453))) := ⟨ax208⟩
                   (try clear HO_39); (try clear HO_450000); (try clear BK437); (try clear BK449); (try clear BK454); (try clear MP448); (try clear HB); generalize (((w55.setCell ⟨gb454, 0, none⟩ (.int .i64 (-1))).setCell ⟨gb454, 1, none⟩ (.int .i64 (-1))).setCell ⟨gb454, 2, none⟩ (.bool t453)) = w59 at n0_ n1_ n2_ n3_ n4_ n5_ n6_ ⊢; have HO_39 := n0_; have HO_450000 := n1_; have BK437 := n2_; have BK449 := n3_; have BK454 := n4_; have MP448 := n5_; have HB := n6_; clear n0_ n1_ n2_ n3_ n4_ n5_ n6_; replace HO_39 := Aside0.mk (Kd.R_drew HO_39.out); replace HO_450000 := Aside0.mk (Kd.R_drew HO_450000.out); replace BK437 := Aside0.mk (blk_drew BK437.out); replace BK449 := Aside0.mk (blk_drew BK449.out); replace BK454 := Aside0.mk (blk_drew BK454.out); replace MP448 := Aside0.mk (G.MapIs.drew MP448.out); replace HB := Aside0.mk (below_drew1 HB.out)
                   have p46 : 0 ≤ ((ji43) : Int) := of_decide_eq_true ax25
                   have q46 : (ji43) < ((rdOf ByteArray.empty t445 x41_2).size : Int) := of_decide_eq_true ax25
                   have hx46 := bt_at (rdOf ByteArray.empty t445 x41_2) (ji43); replace p46 := eq_true p46; replace q46 := eq_true q46
                   refine start_ (n := 18) (S := fun w' => G.MapIs Tryz.prog 9 3 w' gm448 y451 ∧ (Instr.lookup 139 (.map (some gm448)) (.string js51) false).run Tryz.prog w' = .ok (.int .i64 (G.mapGet y451 js51)) w') (ds := []) (ob 18 0) (by kernel_rfl) rfl rfl ⟨MP448.out, G.MapIs.run_get MP448.out Tryz.underlying139 Tryz.underlying9 Tryz.underlying3 (Tryz.zeroValue3 _) LMc52.out⟩ (fun hHeld => ?_); refine with_tabW impl_trieOf.tab20 impl_trieOf.bits20 (fun HT_ HW_ => ?_)
                   generalize w59.drew = w60 at HO_39 HO_450000 BK437 BK449 BK454 MP448 HB hHeld ⊢
                   refine pu 0 59 ?_; refine pu 1 60 ?_; refine pu 2 61 ?_; refine pu 3 62 ?_; refine pu 7 66 ?_; refine pu 8 67 ?_; refine pu 9 68 ?_; refine pu 10 69 ?_; refine pu 11 70 ?_; refine pu 12 71 ?_; refine tk 4 63 ?_; refine pu 5 64 ?_; refine pu 6 65 ?_; refine pu 14 73 ?_; refine tk 13 72 ?_
                   refine one_ (i := 15) (N := none) (ob 18 65535) rfl rfl (one_of HT_.out (by kernel_rfl)) (by decide) (fun K hK => ?_)
                   have hs61 : w60.cell? ⟨gb454, 0, none⟩ = some (.int .i64 (-1)) := (blk_cell BK454.out 0).trans rfl
                   have hfs61 := blk_frozen BK454.out 0; have hns61_0 := NB437_454.out; have hns61_1 := NB449_454.out; have hms61_0 := NB454_437.out; have hms61_1 := NB454_449.out
                   refine skip_ (w1 := ?_) (by rfl) rfl ?_ ?_
                   rotate_left
                   ·go_simp
                    rfl
                   refine hK.out _ _ ⟨(G.MapIs.set (hHeld.1) (G.MapIs.ne_blk MP448.out BK454.out) _ _), G.MapIs.run_get (G.MapIs.set (hHeld.1) (G.MapIs.ne_blk MP448.out BK454.out) _ _) Tryz.underlying139 Tryz.underlying9 Tryz.underlying3 (Tryz.zeroValue3 _) LMc52.out⟩ (fun hHeld => ?_)
                   clear hK K
                   refine pu 16 74 ?_
                   refine one_ (i := 17) (N := none) (ob 18 262143) rfl rfl (one_of HT_.out (by kernel_rfl)) (by decide) (fun K hK => ?_)
                   have hs62 : w60.cell? ⟨gb454, 1, none⟩ = some (.int .i64 (-1)) := (blk_cell BK454.out 1).trans rfl
                   have hfs62 := blk_frozen BK454.out 1; have hns62_0 := NB437_454.out; have hns62_1 := NB449_454.out; have hms62_0 := NB454_437.out; have hms62_1 := NB454_449.out
                   refine skip_ (w1 := ?_) (by rfl) rfl ?_ ?_
                   rotate_left
                   ·go_simp
                    rfl
                   refine hK.out _ _ ⟨(G.MapIs.set (hHeld.1) (G.MapIs.ne_blk MP448.out BK454.out) _ _), G.MapIs.run_get (G.MapIs.set (hHeld.1) (G.MapIs.ne_blk MP448.out BK454.out) _ _) Tryz.underlying139 Tryz.underlying9 Tryz.underlying3 (Tryz.zeroValue3 _) LMc52.out⟩ (fun hHeld => ?_)
                   clear hK K
                   refine dn ?_
                   have hnb63 := NB449_437.out; have hnc63 := NB437_449.out; have hcz64_0 := bc (u450000) BK449 0; have hfz64_0 := blk_frozen BK449.out 0; have hcz65_0 := bc (.int .i64 (-1)) BK454 0; have hcz65_1 := bc (.int .i64 (-1)) BK454 1; have hcz65_2 := bc (.bool t453) BK454 2; have hfz65_0 := blk_frozen BK454.out 0; have hfz65_1 := blk_frozen BK454.out 1; have hfz65_2 := blk_frozen BK454.out 2
                   try go_wp2_with (first | ((with_reducible refine gate_builtin (b := .append) (xs := #[.tmp 76, .tmp 78]) rfl ?_); at_builtin; refine Kd.R_append k74 (w0 := w) w.heap.size rfl (.tmp 76) (.tmp 78) 24 74 (.agg #[(.int .i64 0), (.int .i64 0), (.bool false)]) 24 rfl Tryz.underlying24 info74 rfl (by decide) (by omega) u450000 x450000_2 (⟨((bt (rdOf ByteArray.empty t445 x41_2) (ji43)) - 97) % 256, G.mapGet y451 js51, t453⟩ : S74) [.int .i64 (((bt (rdOf ByteArray.empty t445 x41_2) (ji43)) - 97) % 256), .int .i64 (G.mapGet y451 js51), .bool t453] (fun k_ => k_ ≠ gb454) (fun _ => False) rfl ax31 ?aP (fun _ hk => hk.elim) ?aF ?aO ?aB ?aS ?aL ?_; (case aP => exact k74_mkM _ _ _ (⟨((bt (rdOf ByteArray.empty t445 x41_2) (ji43)) - 97) % 256, G.mapGet y451 js51, t453⟩ : S74)); (case aB => exact ax201); (case aF => exact (fun k_ hk => Kd.freshB (g := gb454) (o := .cells #[.int .i64 (((bt (rdOf ByteArray.empty t445 x41_2) (ji43)) - 97) % 256), .int .i64 (G.mapGet y451 js51), .bool t453] 74 (0, 0)) ax209 k_ hk)); (case aO => exact (by (with_reducible repeat (first | apply Kd.R_alloc | apply Kd.R_drewN | apply Kd.R_drew)); exact Kd.R_mono (Kd.R_far (p := ⟨gb454, 1, none⟩) (Kd.R_far (p := ⟨gb454, 0, none⟩) (Kd.R_mono HO_450000.out (fun k_ hk => (⟨hk, hk⟩ : _ ∧ k_ ≠ gb454))) (fun _ hk => hk.2) (.int .i64 (((bt (rdOf ByteArray.empty t445 x41_2) (ji43)) - 97) % 256))) (fun _ hk => hk.2) (.int .i64 (G.mapGet y451 js51))) (fun _ hk => hk.1))); (case aS => exact ax204); (case aL => have := LMc53.out; omega); intro v459 w66 ho hb hg hat; rw [← Ny458.out] at ho; have n0_ := Aside0.mk (Kd.R_over' (by (with_reducible repeat (first | apply Kd.R_alloc | apply Kd.R_drewN | apply Kd.R_drew)); exact (Kd.R_mono (Kd.R_far (p := ⟨gb454, 1, none⟩) (Kd.R_far (p := ⟨gb454, 0, none⟩) (Kd.R_types HO_39.out BK454.out (by decide)) (fun _ hk => hk.2) (.int .i64 (((bt (rdOf ByteArray.empty t445 x41_2) (ji43)) - 97) % 256))) (fun _ hk => hk.2) (.int .i64 (G.mapGet y451 js51))) (fun _ h_ => h_.1))) (Kd.R_typed (by (with_reducible repeat (first | apply Kd.R_alloc | apply Kd.R_drewN | apply Kd.R_drew)); exact (Kd.R_mono (Kd.R_far (p := ⟨gb454, 1, none⟩) (Kd.R_far (p := ⟨gb454, 0, none⟩) (Kd.R_mono HO_450000.out (fun k_ hk => (⟨hk, hk⟩ : _ ∧ k_ ≠ gb454))) (fun _ hk => hk.2) (.int .i64 (((bt (rdOf ByteArray.empty t445 x41_2) (ji43)) - 97) % 256))) (fun _ hk => hk.2) (.int .i64 (G.mapGet y451 js51))) (fun _ h_ => h_.1)))) (by decide) hg); have n1_ := Aside0.mk (blk_grown (g := gb437) (o := .cells #[.slice none 0 0] 26 (0, 0)) (by (with_reducible repeat (first | refine blk_drewN ?_ _ | refine blk_drew ?_ | refine blk_alloc ?_ _)); refine blk_far ?_ NB437_454.out _; (with_reducible repeat (first | refine blk_drewN ?_ _ | refine blk_drew ?_ | refine blk_alloc ?_ _)); refine blk_far ?_ NB437_454.out _; (with_reducible repeat (first | refine blk_drewN ?_ _ | refine blk_drew ?_ | refine blk_alloc ?_ _)); exact BK437.out) hg (Kd.R_ne HO_450000.out BK437.out (by decide))); have n2_ := Aside0.mk (blk_grown (g := gb449) (o := .cells #[u450000] 26 (0, 0)) (by (with_reducible repeat (first | refine blk_drewN ?_ _ | refine blk_drew ?_ | refine blk_alloc ?_ _)); refine blk_far ?_ NB449_454.out _; (with_reducible repeat (first | refine blk_drewN ?_ _ | refine blk_drew ?_ | refine blk_alloc ?_ _)); refine blk_far ?_ NB449_454.out _; (with_reducible repeat (first | refine blk_drewN ?_ _ | refine blk_drew ?_ | refine blk_alloc ?_ _)); exact BK449.out) hg (Kd.R_ne HO_450000.out BK449.out (by decide))); have n3_ := Aside0.mk (G.MapIs.grown (show G.MapIs Tryz.prog 9 3 _ gm448 y451 from by repeat (first | (with_reducible first | exact MP448.out | apply G.MapIs.alloc | apply G.MapIs.drewN | apply G.MapIs.drew | refine G.MapIs.set ?_ (G.MapIs.ne_blk MP448.out BK454.out) _ _ | refine G.MapIs.set ?_ (G.MapIs.ne_blk MP448.out BK454.out) _ _) | exact MP448.out)) hg (G.MapIs.ne_row MP448.out HO_450000.out)); have n4_ := Aside0.mk (blk_grown (g := gb454) (o := .cells #[.int .i64 (((bt (rdOf ByteArray.empty t445 x41_2) (ji43)) - 97) % 256), .int .i64 (G.mapGet y451 js51), .bool t453] 74 (0, 0)) ax209 hg (Kd.R_away HO_450000.out (fun _ hk => hk))); have n5_ := Aside0.mk (hb); have n6_ := Aside0.mk (ho); clear HO_39; clear BK437; clear BK449; clear MP448; clear BK454; clear HB; clear HO_450000; have HO_39 := n0_; have BK437 := n1_; have BK449 := n2_; have MP448 := n3_; have BK454 := n4_; have HB := n5_; have HO460 := n6_; clear n0_ n1_ n2_ n3_ n4_ n5_ n6_; clear ho hb hg hat; obtain ⟨Ao67, co67, eo67⟩ := Kd.R_slice HO460.out; subst eo67; have hcz68_0 := bc (u450000) BK449 0; have hfz68_0 := blk_frozen BK449.out 0))
                   go_roundg k2
                   case measure => have := HK1.out; have := HK2.out; omega
                   case rel => exact ⟨(wrap64 (x41_2 + 1)), (y451), (y458), (.slice Ao67 y458.length co67), ax30, H', ⟨ax66⟩, ⟨(by (with_reducible repeat (first | apply Kd.R_alloc | apply Kd.R_drewN | apply Kd.R_drew)); exact Kd.R_mono (Kd.R_far (p := ⟨gb449, 0, none⟩) (Kd.R_types HO_39.out BK449.out (by decide)) (fun _ hk => hk.2) (.slice Ao67 y458.length co67)) (fun _ hk => trivial))⟩, ⟨(by (with_reducible repeat (first | apply Kd.R_alloc | apply Kd.R_drewN | apply Kd.R_drew)); exact Kd.R_mono (Kd.R_far (p := ⟨gb449, 0, none⟩) (Kd.R_types HO460.out BK449.out (by decide)) (fun _ hk => hk.2) (.slice Ao67 y458.length co67)) (fun _ hk => trivial))⟩, ⟨ax186⟩, ⟨ax207⟩, ⟨show G.MapIs Tryz.prog 9 3 _ gm448 y451 from by repeat (first | (with_reducible first | exact MP448.out | apply G.MapIs.alloc | apply G.MapIs.drewN | apply G.MapIs.drew | refine G.MapIs.set ?_ (G.MapIs.ne_blk MP448.out BK449.out) _ _) | exact MP448.out)⟩, ⟨ax208⟩⟩
                  ·rw [if_neg c53] at H
                   exact absurd H (by simp)
                 ·rw [if_neg c52] at H
                  exact absurd H (by simp)
                ·rw [if_neg c50] at H
                 exact absurd H (by simp)
               ·rw [if_neg c45] at H
                exact absurd H (by simp)
              ·rw [if_neg c44] at H
               exact absurd H (by simp)
            ·rw [if_neg c29] at H
             exact absurd H (by simp)
           ·rw [if_neg c28] at H
            exact absurd H (by simp)
          ·rw [if_neg c27] at H
           exact absurd H (by simp)
         ·exact ax9
        ·rw [if_neg c25] at H
         exact absurd H (by simp)
       ·rw [if_neg c24] at H
        exact absurd H (by simp)
      ·rw [if_neg c23] at H
       have c23b0 : decide (x41_2 < (t445.length : Int)) = false := decide_eq_false c23
       clear c23
       obtain rfl := Option.some.inj H
       have hnb69 := NB449_437.out; have hnc69 := NB437_449.out; have hcz70_0 := bc (u450000) BK449 0; have hfz70_0 := blk_frozen BK449.out 0
       obtain ⟨Ao71, co71, eo71⟩ := Kd.R_slice HO_450000.out
       subst eo71; have hcz72_0 := bc (.slice none 0 0) BK437 0; have hfz72_0 := blk_frozen BK437.out 0
       go_wp2
       refine bodyPost_ret (results_cell_row rfl _ _ gb437 26 #[.slice Ao71 x450000_2.length co71] (0, 0) _ rfl (by (with_reducible repeat (first | refine blk_drewN ?_ _ | refine blk_drew ?_ | refine blk_alloc ?_ _)); refine blk_put (cs := #[.slice none 0 0]) ?_ 0 _ rfl; (with_reducible repeat (first | refine blk_drewN ?_ _ | refine blk_drew ?_ | refine blk_alloc ?_ _)); exact BK437.out) Tryz.underlying26 rfl (by kernel_rfl)) rfl ?_
       exact ⟨_, by first | rfl | (simp [errW_none, errW_some] <;> rfl) | (simp [*, errW_none, errW_some] <;> rfl), by (with_reducible repeat (first | apply Kd.R_alloc | apply Kd.R_drewN | apply Kd.R_drew)); exact Kd.R_mono (Kd.R_far (p := ⟨gb437, 0, none⟩) (Kd.R_types HO_450000.out BK437.out (by decide)) (fun _ hk => hk.2) (.slice Ao71 x450000_2.length co71)) (fun _ hk => trivial), by repeat (first | (with_reducible first | exact HB.out | apply below_alloc | apply pw_below_drewN | apply below_drew1 | refine below_set ?_ GE437.out | refine below_set ?_ GE449.out) | exact HB.out)⟩

/-! ### impl_isTrie_1: function 195 -/
def impl_isTrie_1.f (a0 : ByteArray) : Option (Bool) := some (decide ((a0.size : Int) > 12))
set_option maxHeartbeats 8000000 in
set_option maxRecDepth 100000 in
theorem impl_isTrie_1.calls (a0 : ByteArray) (r : Bool) (w : World) (h : impl_isTrie_1.f a0 = some r) :
  Calls Tryz.prog 195 #[.string a0] w fun e w' => e = .returned (.bool r) ∧ Drawn0 w w' := by
 have H : (some (decide ((a0.size : Int) > 12))) = some r := h
 clear h
 obtain rfl := Option.some.inj H
 go_enter Tryz.func195, Tryz.ntmps195
 go_wp2
 go_ret
 exact ⟨ax30, by repeat (first | exact Drawn0.refl _ | apply Drawn0.step)⟩

end Go.Proofs.YtcplbbflfgckbaaGreatDoor.X


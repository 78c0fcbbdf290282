-- By gen.py (the session's own program over the kit's printer): functions of the program, each with its contract. Lean checks it.
import Derived.Test.YtmecniejpoopfaaGreatDoorX0
import Derived.Test.YtmecniejpoopfaaGreatDoorX6
namespace Go.Proofs.YtmecniejpoopfaaGreatDoor.X
open Go.RowKit Go.Proofs.YtmecniejpoopfaaGreatDoorW.PrintWords Go.Proofs.YtmecniejpoopfaaGreatDoorW.PrintLast Go.Proofs.YtmecniejpoopfaaGreatDoorW.PrintMore
attribute [local go_sem] max2_int min2_int max_two min_two max_three min_three max_four min_four   -- for this text's walks alone
set_option linter.unusedVariables false
set_option linter.unusedSimpArgs false

/-! ### impl_Trie_prefixes: function 66 -/
def impl_Trie_prefixes.l0 : Nat → List ByteArray → List (S105) → Int → Int → Option (List ByteArray × Bool)
 | 0, _, _, _, _ => none
 | k + 1, x4, x15, x16, x17 => if x17 < x16 then (if 0 ≤ x17 then (if x17 < (x15.length : Int) then ((impl_in.f ((rd_T105 x15 x17).f1) 0 x17).bind fun t253 => (if t253 = true then ((impl_in.f ((rd_T105 x15 x17).f0) 0 25).bind fun t254 => (if t254 = true then (if 0 ≤ ((rd_T105 x15 x17).f1) then (if ((rd_T105 x15 x17).f1) < (x4.length : Int) then ((impl_letter.f ((rd_T105 x15 x17).f0)).bind fun t256 => (if (rdOf ByteArray.empty x4 ((rd_T105 x15 x17).f1)).size + t256.size ≤ 9223372036854775807 then (if x4.length < 8796093022208 then (impl_Trie_prefixes.l0 k (x4 ++ [(rdOf ByteArray.empty x4 ((rd_T105 x15 x17).f1)) ++ t256]) x15 x16 (wrap64 (x17 + 1))) else (none)) else (none))) else (none)) else (none)) else (some (([] : List ByteArray), false)))) else (some (([] : List ByteArray), false)))) else (none)) else (none)) else (some (x4, true))
def impl_Trie_prefixes.f (k : Nat) (l0_0 : List (S105)) : Option (List ByteArray × Bool) := (impl_in.f (l0_0.length : Int) 1 481).bind fun t246 => (if t246 = true then (if 1 ≤ (l0_0.length : Int) then ((some (l0_0.drop 1 : List (S105))).bind fun y247 => (impl_Trie_prefixes.l0 k (([(⟨#[]⟩ : ByteArray)] : List ByteArray)) y247 (y247.length : Int) 0)) else (none)) else (some (([] : List ByteArray), false)))
theorem impl_Trie_prefixes.mono_l : ∀ k, (∀ y0 y1 y2 y3, LeO (impl_Trie_prefixes.l0 k y0 y1 y2 y3) (impl_Trie_prefixes.l0 (k + 1) y0 y1 y2 y3))
 | 0 => fun _ _ _ _ r h => by simp [impl_Trie_prefixes.l0] at h
 | k + 1 => by
  have ih0 := impl_Trie_prefixes.mono_l k
  ·intro y0 y1 y2 y3
   unfold impl_Trie_prefixes.l0
   repeat' first
   | (with_reducible exact ih0 _ _ _ _)
   | (with_reducible exact LeO.refl _)
   | (with_reducible exact LeO.none _)
   | (with_reducible refine LeO.ite ?_ ?_)
   | (with_reducible refine LeO.bind ?_ (fun _ => ?_))
   | exact ih0 _ _ _ _
   | exact LeO.none _
   | refine LeO.ite ?_ ?_
   | refine LeO.bind ?_ (fun _ => ?_)
theorem impl_Trie_prefixes.mono : ∀ a0 k, LeO (impl_Trie_prefixes.f k a0) (impl_Trie_prefixes.f (k + 1) a0) := by
 intro a0 k
 have ih0 := impl_Trie_prefixes.mono_l k
 unfold impl_Trie_prefixes.f
 repeat' first
   | (with_reducible exact ih0 _ _ _ _)
   | (with_reducible exact LeO.refl _)
   | (with_reducible exact LeO.none _)
   | (with_reducible refine LeO.ite ?_ ?_)
   | (with_reducible refine LeO.bind ?_ (fun _ => ?_))
   | exact ih0 _ _ _ _
   | exact LeO.none _
   | refine LeO.ite ?_ ?_
   | refine LeO.bind ?_ (fun _ => ?_)
def impl_Trie_prefixes.T9 : Bool × List (List Nat × List Nat) := (true, [([], []), ([], []), ([], []), ([2], [2]), ([1, 3], [1, 3]), ([4], [4]), ([], []), ([6], [6]), ([7], [7]), ([5, 8], [5, 8]), ([9], [9]), ([0, 10, 8], [0, 10]), ([11, 11, 0, 1, 2, 3, 4, 5, 6, 7, 8, 9, 10, 11], [0, 1, 11])])
def impl_Trie_prefixes.B9 : List Nat := [0, 0, 0, 4, 14, 30, 0, 64, 192, 510, 1022, 2047, 4095]
theorem impl_Trie_prefixes.tab9 : rtab .any (opsOf Tryz.f66 9) = impl_Trie_prefixes.T9 := by kernel_rfl
theorem impl_Trie_prefixes.bits9 : waitsOk impl_Trie_prefixes.T9.2 impl_Trie_prefixes.B9 = true := by kernel_rfl
set_option maxHeartbeats 8000000 in
set_option maxRecDepth 100000 in
theorem impl_Trie_prefixes.calls (k : Nat) (A0_0 : Option Addr) (c0_0 : Nat) (l0_0 : List (S105)) (r1 : List ByteArray) (r2 : Bool) (w : World) (hr0_0 : Kd.C k105 w A0_0 l0_0.length l0_0) (hc0_0 : l0_0.length ≤ c0_0) (h : impl_Trie_prefixes.f k l0_0 = some (r1, r2)) :
  Calls Tryz.prog 66 #[.agg #[.slice A0_0 l0_0.length c0_0]] w fun e w' => ∃ v0_ : Value, e = .returned (.tuple #[v0_, .bool r2]) ∧ Kd.R Kd.string 9 w' w.heap.size (fun _ => True) v0_ r1 ∧ Below w.heap.size w w' := by
 have hu45 := Tryz.underlying45; have hu105 := Tryz.underlying105; have HR0_0 := Aside0.mk hr0_0; have HC0_0 := Aside0.mk hc0_0; clear hr0_0 hc0_0; have HB := Aside0.mk (Below.refl w.heap.size w)
 have H : ((impl_in.f (l0_0.length : Int) 1 481).bind fun t246 => (if t246 = true then (if 1 ≤ (l0_0.length : Int) then ((some (l0_0.drop 1 : List (S105))).bind fun y247 => (impl_Trie_prefixes.l0 k (([(⟨#[]⟩ : ByteArray)] : List ByteArray)) y247 (y247.length : Int) 0)) else (none)) else (some (([] : List ByteArray), false)))) = some (r1, r2) := h
 clear h
 obtain ⟨y243, hy243⟩ : ∃ y_ : List ByteArray, y_ = (([(⟨#[]⟩ : ByteArray)] : List ByteArray)) := ⟨_, rfl⟩
 replace H : ((impl_in.f (l0_0.length : Int) 1 481).bind fun t246 => (if t246 = true then (if 1 ≤ (l0_0.length : Int) then ((some (l0_0.drop 1 : List (S105))).bind fun y247 => (impl_Trie_prefixes.l0 k y243 y247 (y247.length : Int) 0)) else (none)) else (some (([] : List ByteArray), false)))) = some (r1, r2) := by first | (rw [hy243]; with_reducible exact H) | (have H2_ := (Option.bind_some _ _).symm.trans H; rw [hy243]; with_reducible exact H2_) | (have H2_ := (Option.bind_some _ _).symm.trans H; with_reducible exact H2_) | with_reducible exact H | (rw [hy243]; exact H) | exact H
 have Ny243 := Aside0.mk hy243; clear hy243; replace H := Option.bind_eq_some_iff.mp H
 obtain ⟨t246, A20, H⟩ := H
 replace H : (if t246 = true then (if 1 ≤ (l0_0.length : Int) then ((some (l0_0.drop 1 : List (S105))).bind fun y247 => (impl_Trie_prefixes.l0 k y243 y247 (y247.length : Int) 0)) else (none)) else (some (([] : List ByteArray), false))) = some (r1, r2) := H
 have A2 := Aside0.mk A20; clear A20
 by_cases c3 : t246 = true
 ·subst c3
  have H1 : (if 1 ≤ (l0_0.length : Int) then ((some (l0_0.drop 1 : List (S105))).bind fun y247 => (impl_Trie_prefixes.l0 k y243 y247 (y247.length : Int) 0)) else (none)) = some (r1, r2) := by rw [if_pos rfl] at H; exact H
  clear H; have H := H1; clear H1
  by_cases c4 : 1 ≤ (l0_0.length : Int)
  ·rw [if_pos c4] at H
   have c4b0 := eq_true c4
   have c4b1 : decide (1 ≤ (l0_0.length : Int)) = true := decide_eq_true c4
   clear c4
   obtain ⟨y247, hy247⟩ : ∃ y_ : List (S105), y_ = (l0_0.drop 1) := ⟨_, rfl⟩
   replace H : (impl_Trie_prefixes.l0 k y243 y247 (y247.length : Int) 0) = some (r1, r2) := by first | (rw [hy247]; with_reducible exact H) | (have H2_ := (Option.bind_some _ _).symm.trans H; rw [hy247]; with_reducible exact H2_) | (have H2_ := (Option.bind_some _ _).symm.trans H; with_reducible exact H2_) | with_reducible exact H | (rw [hy247]; exact H) | exact H
   have Ny247 := Aside0.mk hy247; clear hy247
   have H' := Aside0.mk H
   clear H
   go_enter Tryz.func66, Tryz.ntmps66
   go_wp2_with (first | ((with_reducible refine gate_dst (N := 1) rfl ?_); refine box_event ?hg (N := 1) ?hd (cs := #[.slice A0_0 l0_0.length c0_0]) (t := 45) ?hr ?_; (case hd => rfl); (case hg => rfl); (case hr => exact ax23); intro gb242 hg w5 hbox hb; have n0_ := Aside0.mk (below_step ax25 hb); have n1_ := Aside0.mk (hbox); have n2_ := Aside0.mk ((ax54 : w.heap.size ≤ gb242)); have n3_ := Aside0.mk ((ax54 : w.heap.size ≤ gb242)); clear HB; have HB := n0_; have BK242 := n1_; have GW242 := n2_; have GE242 := n3_; clear n0_ n1_ n2_ n3_; clear hb hbox hg) | ((with_reducible refine gate_dst (N := 7) rfl ?_); refine Kd.R_lit Kd.string _ 9 ?hg (N := 7) ?hd (xs := ([(⟨#[]⟩ : ByteArray)] : List ByteArray)) (inner := [.string (⟨#[]⟩ : ByteArray)]) (ok := fun _ => True) (okp := fun _ => True) ?hr ?hp (fun _ hk => hk) trivial (Below.refl _ _) (Nat.le_refl _) (by simp) ?_; (case hd => rfl); (case hg => rfl); (case hr => exact ax23); (case hp => exact ax58); intro v244 w6 ho7 hb hg_ hnew_; clear hg_ hnew_; (first | rw [← Ny243.out] at ho7 | (simp only [Int.reduceToNat] at ho7; rw [← Ny243.out] at ho7)); have n0_ := Aside0.mk (Kd.R_lower ho7 (below_size ax98)); have n1_ := Aside0.mk (blk_below (g := gb242) (o := .cells #[.slice A0_0 l0_0.length c0_0] 45 (0, 0)) ax99 hb); have n2_ := Aside0.mk (below_step ax98 hb); clear BK242; clear HB; have HO245 := n0_; have BK242 := n1_; have HB := n2_; clear n0_ n1_ n2_; clear hb ho7; have hcz8_0 : w6.cell? ⟨gb242, 0, none⟩ = some (.slice A0_0 l0_0.length c0_0) := (blk_cell BK242.out 0).trans rfl; have hfz8_0 := blk_frozen BK242.out 0) | ((with_reducible refine gate_callee (f := 50) rfl ?_); refine goesL_ (some 11) rfl rfl Tryz.func50 (by kernel_rfl) rfl #[.int .i64 (l0_0.length : Int), .int .i64 1, .int .i64 481] rfl ax31 ?_; (with_reducible refine (impl_in.calls (l0_0.length : Int) 1 481 true _ A2.out).mono ?_); rintro e w' ⟨rfl, ⟨nd, rfl⟩⟩; refine ⟨_, rfl, ?_⟩; have q9 : (1 : Int) ≤ ((l0_0.length : Int) : Int) := of_decide_eq_true ax22; obtain ⟨i09, hi09, _, hsz9, _⟩ := info_parts info105; have hroom9 : l0_0.length ≤ c0_0 := HC0_0.out; have hC9 : Kd.C k105 _ A0_0 l0_0.length l0_0 := HR0_0.out; have hcut9 := cut_from (P := Tryz.prog) 43 105 .i64 Tryz.underlying43 hi09 3 hsz9 A0_0 l0_0.length c0_0 1 (by omega) q9; have hr9 := Kd.C_drop (m := (1 : Int).toNat) (c := c0_0) hC9 (by omega) hroom9; obtain ⟨A9, hA9⟩ : ∃ A1, A1 = (if c0_0 = (1 : Int).toNat then A0_0 else (A0_0 : Option Addr).map (·.add ((1 : Int).toNat * 3))) := ⟨_, rfl⟩; obtain ⟨c9, hc9⟩ : ∃ c1, c1 = c0_0 - (1 : Int).toNat := ⟨_, rfl⟩; have hy9 : y247.length = l0_0.length - (1 : Int).toNat := (by rw [Ny247.out, List.length_drop] <;> omega); rw [show (l0_0).drop (1 : Int).toNat = y247 from Ny247.out.symm] at hr9; replace hr9 : Kd.C k105 _ A9 y247.length y247 := (by rw [hA9]; exact hr9); rw [← hy9, ← hA9, ← hc9] at hcut9; have HR250 := Aside0.mk hr9; have HC250 := Aside0.mk (show y247.length ≤ c9 from by rw [hy9, hc9]; exact Nat.sub_le_sub_right hroom9 _); clear hr9 hC9 hroom9 hi09 hsz9 hc9; have KY9 := Aside0.mk hy9; have KA9 := Aside0.mk hA9; clear hy9 hA9; replace q9 := eq_true q9))
   go_loopg [4, 17] k (fun kq v4 v17 w' => ∃ (x4_1 : List ByteArray) (x17_1 : Int), v17 = .int .i64 x17_1 ∧ Aside0 (impl_Trie_prefixes.l0 kq x4_1 y247 (y247.length : Int) x17_1 = some (r1, r2)) ∧ Aside0 (kq ≤ k) ∧ Aside0 (Kd.R Kd.string 9 w' w.heap.size (fun _ => True) v4 x4_1) ∧ Aside0 (w'.heap[gb242]? = some (.cells #[(.slice A0_0 l0_0.length c0_0)] 45 (0, 0))) ∧ Aside0 (Below w.heap.size w w'))
   case atStart => exact ⟨(y243), (0), ax21, H', ⟨Nat.le_refl _⟩, ⟨by (with_reducible repeat (first | apply Kd.R_alloc | apply Kd.R_drewN | apply Kd.R_drew)); exact HO245.out⟩, ⟨by (with_reducible repeat (first | refine blk_drewN ?_ _ | refine blk_drew ?_ | refine blk_alloc ?_ _)); exact BK242.out⟩, ⟨by repeat (first | (with_reducible first | exact HB.out | apply below_alloc | apply pw_below_drewN | apply below_drew1 | refine below_set ?_ GE242.out) | exact HB.out)⟩⟩
   case round =>
    clear H'
    try clear c1
    try clear p2
    try clear c3
    try clear c4
    try clear c4b0
    try clear c4b1
    try clear c5
    try clear c6
    try clear c9
    try clear q9
    try clear hcz8_0
    try clear hfz8_0
    try clear q9
    obtain ⟨x4_1, x17_1, rfl, HA, HK1, HO_4, BK242, HB⟩ := hrel
    cases gk with
    | zero => exact absurd HA.out (by simp [impl_Trie_prefixes.l0])
    | succ k1 =>
     have H := HA.out; clear HA
     simp only [impl_Trie_prefixes.l0] at H
     by_cases c10 : x17_1 < (y247.length : Int)
     ·rw [if_pos c10] at H
      have c10b0 : decide (x17_1 < (y247.length : Int)) = true := decide_eq_true c10
      clear c10
      by_cases c11 : 0 ≤ x17_1
      ·rw [if_pos c11] at H
       have c11b0 : decide (0 ≤ x17_1) = true := decide_eq_true c11
       clear c11
       by_cases c12 : x17_1 < (y247.length : Int)
       ·rw [if_pos c12] at H
        have c12b0 : decide (x17_1 < (y247.length : Int)) = true := decide_eq_true c12
        clear c12; replace H := Option.bind_eq_some_iff.mp H
        obtain ⟨t253, A130, H⟩ := H
        replace H : (if t253 = true then ((impl_in.f ((rd_T105 y247 x17_1).f0) 0 25).bind fun t254 => (if t254 = true then (if 0 ≤ ((rd_T105 y247 x17_1).f1) then (if ((rd_T105 y247 x17_1).f1) < (x4_1.length : Int) then ((impl_letter.f ((rd_T105 y247 x17_1).f0)).bind fun t256 => (if (rdOf ByteArray.empty x4_1 ((rd_T105 y247 x17_1).f1)).size + t256.size ≤ 9223372036854775807 then (if x4_1.length < 8796093022208 then (impl_Trie_prefixes.l0 k1 (x4_1 ++ [(rdOf ByteArray.empty x4_1 ((rd_T105 y247 x17_1).f1)) ++ t256]) y247 (y247.length : Int) (wrap64 (x17_1 + 1))) else (none)) else (none))) else (none)) else (none)) else (some (([] : List ByteArray), false)))) else (some (([] : List ByteArray), false))) = some (r1, r2) := H
        have A13 := Aside0.mk A130; clear A130
        by_cases c14 : t253 = true
        ·subst c14
         have H1 : ((impl_in.f ((rd_T105 y247 x17_1).f0) 0 25).bind fun t254 => (if t254 = true then (if 0 ≤ ((rd_T105 y247 x17_1).f1) then (if ((rd_T105 y247 x17_1).f1) < (x4_1.length : Int) then ((impl_letter.f ((rd_T105 y247 x17_1).f0)).bind fun t256 => (if (rdOf ByteArray.empty x4_1 ((rd_T105 y247 x17_1).f1)).size + t256.size ≤ 9223372036854775807 then (if x4_1.length < 8796093022208 then (impl_Trie_prefixes.l0 k1 (x4_1 ++ [(rdOf ByteArray.empty x4_1 ((rd_T105 y247 x17_1).f1)) ++ t256]) y247 (y247.length : Int) (wrap64 (x17_1 + 1))) else (none)) else (none))) else (none)) else (none)) else (some (([] : List ByteArray), false)))) = some (r1, r2) := by rw [if_pos rfl] at H; exact H
         clear H; have H := H1; clear H1; replace H := Option.bind_eq_some_iff.mp H
         obtain ⟨t254, A150, H⟩ := H
         replace H : (if t254 = true then (if 0 ≤ ((rd_T105 y247 x17_1).f1) then (if ((rd_T105 y247 x17_1).f1) < (x4_1.length : Int) then ((impl_letter.f ((rd_T105 y247 x17_1).f0)).bind fun t256 => (if (rdOf ByteArray.empty x4_1 ((rd_T105 y247 x17_1).f1)).size + t256.size ≤ 9223372036854775807 then (if x4_1.length < 8796093022208 then (impl_Trie_prefixes.l0 k1 (x4_1 ++ [(rdOf ByteArray.empty x4_1 ((rd_T105 y247 x17_1).f1)) ++ t256]) y247 (y247.length : Int) (wrap64 (x17_1 + 1))) else (none)) else (none))) else (none)) else (none)) else (some (([] : List ByteArray), false))) = some (r1, r2) := H
         have A15 := Aside0.mk A150; clear A150
         by_cases c16 : t254 = true
         ·subst c16
          have H1 : (if 0 ≤ ((rd_T105 y247 x17_1).f1) then (if ((rd_T105 y247 x17_1).f1) < (x4_1.length : Int) then ((impl_letter.f ((rd_T105 y247 x17_1).f0)).bind fun t256 => (if (rdOf ByteArray.empty x4_1 ((rd_T105 y247 x17_1).f1)).size + t256.size ≤ 9223372036854775807 then (if x4_1.length < 8796093022208 then (impl_Trie_prefixes.l0 k1 (x4_1 ++ [(rdOf ByteArray.empty x4_1 ((rd_T105 y247 x17_1).f1)) ++ t256]) y247 (y247.length : Int) (wrap64 (x17_1 + 1))) else (none)) else (none))) else (none)) else (none)) = some (r1, r2) := by rw [if_pos rfl] at H; exact H
          clear H; have H := H1; clear H1
          by_cases c17 : 0 ≤ ((rd_T105 y247 x17_1).f1)
          ·rw [if_pos c17] at H
           have c17b0 : decide (0 ≤ ((rd_T105 y247 x17_1).f1)) = true := decide_eq_true c17
           clear c17
           by_cases c18 : ((rd_T105 y247 x17_1).f1) < (x4_1.length : Int)
           ·rw [if_pos c18] at H
            have c18b0 : decide (((rd_T105 y247 x17_1).f1) < (x4_1.length : Int)) = true := decide_eq_true c18
            clear c18; replace H := Option.bind_eq_some_iff.mp H
            obtain ⟨t256, A190, H⟩ := H
            replace H : (if (rdOf ByteArray.empty x4_1 ((rd_T105 y247 x17_1).f1)).size + t256.size ≤ 9223372036854775807 then (if x4_1.length < 8796093022208 then (impl_Trie_prefixes.l0 k1 (x4_1 ++ [(rdOf ByteArray.empty x4_1 ((rd_T105 y247 x17_1).f1)) ++ t256]) y247 (y247.length : Int) (wrap64 (x17_1 + 1))) else (none)) else (none)) = some (r1, r2) := H
            have A19 := Aside0.mk A190; clear A190
            by_cases c20 : (rdOf ByteArray.empty x4_1 ((rd_T105 y247 x17_1).f1)).size + t256.size ≤ 9223372036854775807
            ·rw [if_pos c20] at H
             have c20b0 := eq_true c20
             have c20b1 : decide ((rdOf ByteArray.empty x4_1 ((rd_T105 y247 x17_1).f1)).size + t256.size ≤ 9223372036854775807) = true := decide_eq_true c20
             try have c20b2 : (9223372036854775807 < (rdOf ByteArray.empty x4_1 ((rd_T105 y247 x17_1).f1)).size + t256.size) = False := eq_false (Nat.not_lt.2 c20)
             clear c20
             obtain ⟨js21, hjs21⟩ : ∃ j_ : ByteArray, ((rdOf ByteArray.empty x4_1 ((rd_T105 y247 x17_1).f1)) ++ t256) = j_ := ⟨_, rfl⟩
             replace H : (if x4_1.length < 8796093022208 then (impl_Trie_prefixes.l0 k1 (x4_1 ++ [js21]) y247 (y247.length : Int) (wrap64 (x17_1 + 1))) else (none)) = some (r1, r2) := by first | (rw [hjs21] at H; exact H) | (simp only [hjs21] at H ⊢; exact H)
             by_cases c22 : x4_1.length < 8796093022208
             ·rw [if_pos c22] at H
              have LMc22 := Aside0.mk c22; clear c22
              obtain ⟨y257, hy257⟩ : ∃ y_ : List ByteArray, y_ = (x4_1 ++ [js21]) := ⟨_, rfl⟩
              replace H : (impl_Trie_prefixes.l0 k1 y257 y247 (y247.length : Int) (wrap64 (x17_1 + 1))) = some (r1, r2) := by first | (rw [hy257]; with_reducible exact H) | (have H2_ := (Option.bind_some _ _).symm.trans H; rw [hy257]; with_reducible exact H2_) | (have H2_ := (Option.bind_some _ _).symm.trans H; with_reducible exact H2_) | with_reducible exact H | (rw [hy257]; exact H) | exact H
              have Ny257 := Aside0.mk hy257; clear hy257
              have H' := Aside0.mk H
              clear H
              have p251 : 0 ≤ (x17_1 : Int) := of_decide_eq_true ax22
              have q251 : x17_1 < (y247.length : Int) := of_decide_eq_true ax22
              obtain ⟨ad251, e251, hx251_0, hx251_1, hx251_2⟩ := at_T105 HR250.out x17_1 p251 q251
              cases e251; replace hx251_0 := (HB.out.cell (World.block_lt_of_cell? w _ hx251_0)).trans hx251_0; replace hx251_1 := (HB.out.cell (World.block_lt_of_cell? w _ hx251_1)).trans hx251_1; replace hx251_2 := (HB.out.cell (World.block_lt_of_cell? w _ hx251_2)).trans hx251_2; replace p251 := eq_true p251; replace q251 := eq_true q251
              try go_wp2_with (first | ((with_reducible refine gate_dst (N := 6) rfl ?_); refine box_event ?hg (N := 6) ?hd (cs := #[.int .i64 0, .int .i64 0, .bool false]) (t := 105) ?hr ?_; (case hd => rfl); (case hg => rfl); (case hr => exact ax23); intro gb252 hg w23 hbox hb; have n0_ := Aside0.mk (Kd.R_below ax100 hb); have n1_ := Aside0.mk (blk_below (g := gb242) (o := .cells #[.slice A0_0 l0_0.length c0_0] 45 (0, 0)) ax99 hb); have n2_ := Aside0.mk (below_step ax98 hb); have n3_ := Aside0.mk (hbox); have n4_ := Aside0.mk ((ax101 : w.heap.size ≤ gb252)); have n5_ := Aside0.mk ((ax101 : w.heap.size ≤ gb252)); have n6_ := Aside0.mk ((ax102 : gb242 ≠ gb252)); have n7_ := Aside0.mk ((ax103 : gb252 ≠ gb242)); clear HO_4; clear BK242; clear HB; have HO_4 := n0_; have BK242 := n1_; have HB := n2_; have BK252 := n3_; have GW252 := n4_; have GE252 := n5_; have NB242_252 := n6_; have NB252_242 := n7_; clear n0_ n1_ n2_ n3_ n4_ n5_ n6_ n7_; clear hb hbox hg; have hnb24 := NB252_242.out; have hnc24 := NB242_252.out; have hcz25_0 : w23.cell? ⟨gb252, 0, none⟩ = some (.int .i64 0) := (blk_cell BK252.out 0).trans rfl; have hcz25_1 : w23.cell? ⟨gb252, 1, none⟩ = some (.int .i64 0) := (blk_cell BK252.out 1).trans rfl; have hcz25_2 : w23.cell? ⟨gb252, 2, none⟩ = some (.bool false) := (blk_cell BK252.out 2).trans rfl; have hfz25_0 := blk_frozen BK252.out 0; have hfz25_1 := blk_frozen BK252.out 1; have hfz25_2 := blk_frozen BK252.out 2) | ((with_reducible refine gate_store (t := 105) (p := 6) rfl ?_); refine store_event (t := 105) (p := 6) (v := ?vo_w26) (w1 := (((w23.setCell ⟨gb252, 0, none⟩ (.int .i64 ((rd_T105 y247 x17_1).f0))).setCell ⟨gb252, 1, none⟩ (.int .i64 ((rd_T105 y247 x17_1).f1))).setCell ⟨gb252, 2, none⟩ (.bool ((rd_T105 y247 x17_1).f2)))) ?hg ?ho ?hn ?hr ?_; (case ho => rfl); (case hg => rfl); (case hn => rfl); (case hr => exact ax23); intro w26 hw; have n0_ : Aside0 (Kd.R Kd.string 9 w26 w.heap.size (fun _ => True) u4 x4_1) := ⟨ax104⟩; have n1_ : Aside0 (w26.heap[gb242]? = some (.cells #[.slice A0_0 l0_0.length c0_0] 45 (0, 0))) := ⟨ax105⟩; have n2_ : Aside0 (w26.heap[gb252]? = some (.cells #[.int .i64 ((rd_T105 y247 x17_1).f0), .int .i64 ((rd_T105 y247 x17_1).f1), .bool ((rd_T105 y247 x17_1).f2)] 105 (0, 0))) := ⟨ax106⟩; have n3_ : Aside0 (Below w.heap.size w w26) := ⟨ax107⟩; clear hw; clear HO_4; clear BK242; clear BK252; clear HB; have HO_4 := n0_; have BK242 := n1_; have BK252 := n2_; have HB := n3_; clear n0_ n1_ n2_ n3_; have hcz27_0 : w26.cell? ⟨gb252, 0, none⟩ = some (.int .i64 ((rd_T105 y247 x17_1).f0)) := (blk_cell BK252.out 0).trans rfl; have hcz27_1 : w26.cell? ⟨gb252, 1, none⟩ = some (.int .i64 ((rd_T105 y247 x17_1).f1)) := (blk_cell BK252.out 1).trans rfl; have hcz27_2 : w26.cell? ⟨gb252, 2, none⟩ = some (.bool ((rd_T105 y247 x17_1).f2)) := (blk_cell BK252.out 2).trans rfl; have hfz27_0 := blk_frozen BK252.out 0; have hfz27_1 := blk_frozen BK252.out 1; have hfz27_2 := blk_frozen BK252.out 2) | ((with_reducible refine gate_callee (f := 50) rfl ?_); refine goesL_ (some 25) rfl rfl Tryz.func50 (by kernel_rfl) rfl #[.int .i64 ((rd_T105 y247 x17_1).f1), .int .i64 0, .int .i64 x17_1] rfl ax31 ?_; (with_reducible refine (impl_in.calls ((rd_T105 y247 x17_1).f1) 0 x17_1 true _ A13.out).mono ?_); rintro e w' ⟨rfl, ⟨nd, rfl⟩⟩; refine ⟨_, rfl, ?_⟩) | (go_at_call 50; (with_reducible refine (impl_in.calls ((rd_T105 y247 x17_1).f0) 0 25 true _ A15.out).mono ?_); rintro e w' ⟨rfl, ⟨nd, rfl⟩⟩))
              (try (rw [drewN_self w26]; generalize hq_ : World.drewN w26 _ = w26; have n0_ : Aside0 (Kd.R Kd.string 9 w26 w.heap.size (fun _ => True) u4 x4_1) := ⟨by rw [← hq_]; exact ax100⟩; have n1_ : Aside0 (w26.heap[gb242]? = some (.cells #[.slice A0_0 l0_0.length c0_0] 45 (0, 0))) := ⟨by rw [← hq_]; exact ax99⟩; have n2_ : Aside0 (w26.heap[gb252]? = some (.cells #[.int .i64 ((rd_T105 y247 x17_1).f0), .int .i64 ((rd_T105 y247 x17_1).f1), .bool ((rd_T105 y247 x17_1).f2)] 105 (0, 0))) := ⟨by rw [← hq_]; exact ax108⟩; have n3_ : Aside0 (Below w.heap.size w w26) := ⟨by rw [← hq_]; exact ax109⟩; clear HO_4 BK242 BK252 HB hq_; have HO_4 := n0_; have BK242 := n1_; have BK252 := n2_; have HB := n3_; clear n0_ n1_ n2_ n3_))
              have n0_ := Aside0.mk (Kd.R_drew HO_4.out); have n1_ := Aside0.mk (blk_drew BK242.out); have n2_ := Aside0.mk (blk_drew BK252.out); have n3_ := Aside0.mk (below_drew1 HB.out); clear HO_4; clear BK242; clear BK252; clear HB; have HO_4 := n0_; have BK242 := n1_; have BK252 := n2_; have HB := n3_; clear n0_ n1_ n2_ n3_
              obtain ⟨Ao29, co29, eo29⟩ := Kd.R_slice HO_4.out
              (first | subst eo29 | (injection eo29 with f1_ f2_ f3_; have f4_ := f1_.symm; have f5_ := f3_.symm; clear f1_ f2_ f3_; subst f4_; subst f5_))
              have p255 : 0 ≤ (((rd_T105 y247 x17_1).f1) : Int) := of_decide_eq_true ax22
              have q255 : ((rd_T105 y247 x17_1).f1) < (x4_1.length : Int) := of_decide_eq_true ax22
              obtain ⟨ad255, e255, hx255_0⟩ := Kd.at_string (Kd.R_reads' HO_4.out).2.2 ((rd_T105 y247 x17_1).f1) p255 q255
              cases e255; replace p255 := eq_true p255; replace q255 := eq_true q255
              refine start_ (n := 13) (S := fun w' => w'.cell? ⟨gb252, 0, none⟩ = some (.int .i64 ((rd_T105 y247 x17_1).f0)) ∧ w'.cell? ⟨gb252, 1, none⟩ = some (.int .i64 ((rd_T105 y247 x17_1).f1)) ∧ w'.cell? ⟨gb252, 2, none⟩ = some (.bool ((rd_T105 y247 x17_1).f2)) ∧ w'.cell? (ad255.add (((rd_T105 y247 x17_1).f1)).toNat) = some (.string (rdOf ByteArray.empty x4_1 ((rd_T105 y247 x17_1).f1)))) (ds := [10, 11]) (ob 13 0) (by kernel_rfl) rfl rfl ⟨(blk_cell BK252.out 0).trans rfl, (blk_cell BK252.out 1).trans rfl, (blk_cell BK252.out 2).trans rfl, hx255_0⟩ (fun hHeld => ?_); refine with_tabW impl_Trie_prefixes.tab9 impl_Trie_prefixes.bits9 (fun HT_ HW_ => ?_)
              generalize w26.drew = w28 at HO_4 BK242 BK252 HB hx255_0 hHeld ⊢
              refine pure_ (i := 0) (N := some 33) (v := ?_) (a' := ?_) (ob 13 1) rfl rfl (any_of HT_.out (by kernel_rfl)) (fun _ _ _ h => h) (Or.inl ⟨by rfl, ?_⟩) ?_ ?_; rotate_left; exact ax5; rotate_left; exact ax6
              refine pure_ (i := 1) (N := some 34) (v := ?_) (a' := ?_) (ob 13 3) rfl rfl (any_of HT_.out (by kernel_rfl)) (fun _ _ _ h => h) (Or.inl ⟨by rfl, ?_⟩) ?_ ?_; rotate_left; exact ax5; rotate_left; exact ax6
              refine pure_ (i := 2) (N := some 35) (v := ?_) (a' := ?_) (ob 13 7) rfl rfl (any_of HT_.out (by kernel_rfl)) (fun _ _ _ h => h) (Or.inl ⟨by rfl, ?_⟩) ?_ ?_; rotate_left; exact ax5; rotate_left; exact ax6
              refine pure_ (i := 6) (N := some 39) (v := ?_) (a' := ?_) (ob 13 71) rfl rfl (any_of HT_.out (by kernel_rfl)) (fun _ _ _ h => h) (Or.inl ⟨by rfl, ?_⟩) ?_ ?_; rotate_left; exact ax5; rotate_left; exact ax6
              refine take_ (i := 3) (N := some 36) (v := ?_) (a' := ?_) (ob 13 79) rfl rfl (take_ofW HT_.out HW_.out (by kernel_rfl)) (fun _ _ _ h => h) (Or.inl ⟨by rfl, ?_⟩) hHeld ?_ ?_; rotate_left; exact ax14; rotate_left; exact ax6
              refine pure_ (i := 4) (N := some 37) (v := ?_) (a' := ?_) (ob 13 95) rfl rfl (any_of HT_.out (by kernel_rfl)) (fun _ _ _ h => h) (Or.inl ⟨by rfl, ?_⟩) ?_ ?_; rotate_left; exact ax5; rotate_left; exact ax6
              refine take_ (i := 5) (N := some 38) (v := ?_) (a' := ?_) (ob 13 127) rfl rfl (take_ofW HT_.out HW_.out (by kernel_rfl)) (fun _ _ _ h => h) (Or.inl ⟨by rfl, ?_⟩) hHeld ?_ ?_; rotate_left; exact ax14; rotate_left; exact ax6
              refine take_ (i := 7) (N := some 40) (v := ?_) (a' := ?_) (ob 13 255) rfl rfl (take_ofW HT_.out HW_.out (by kernel_rfl)) (fun _ _ _ h => h) (Or.inl ⟨by rfl, ?_⟩) hHeld ?_ ?_; rotate_left; exact ax14; rotate_left; exact ax6
              refine one_ (i := 8) (N := some 41) (ob 13 511) rfl rfl (one_of HT_.out (by kernel_rfl)) (by decide) (fun K hK => ?_)
              refine goes_ Tryz.func86 (by kernel_rfl) rfl #[.int .i64 ((rd_T105 y247 x17_1).f0)] (by rfl) rfl rfl ax31 ?_
              with_reducible refine (impl_letter.calls ((rd_T105 y247 x17_1).f0) t256 _ A19.out).mono ?_
              rintro e w30 ⟨rfl, hb⟩
              have HS3_ := (hb.cell (World.block_lt_of_cell? _ _ (hHeld.2.2.2))).trans (hHeld.2.2.2)
              refine ⟨_, rfl, ?_⟩
              have n0_ := Aside0.mk (Kd.R_below ax100 hb)
              have n1_ := Aside0.mk (blk_below (g := gb242) (o := .cells #[.slice A0_0 l0_0.length c0_0] 45 (0, 0)) ax99 hb)
              have n2_ := Aside0.mk (blk_below (g := gb252) (o := .cells #[.int .i64 ((rd_T105 y247 x17_1).f0), .int .i64 ((rd_T105 y247 x17_1).f1), .bool ((rd_T105 y247 x17_1).f2)] 105 (0, 0)) ax108 hb)
              have n3_ := Aside0.mk (below_step ax109 hb); clear HO_4; clear BK242; clear BK252; clear HB; have HO_4 := n0_; have BK242 := n1_; have BK252 := n2_; have HB := n3_; clear n0_ n1_ n2_ n3_; (try clear hb); (try clear hb2); (try clear hk); (try clear hi)
              refine hK.out _ _ ⟨(blk_cell BK252.out 0).trans rfl, (blk_cell BK252.out 1).trans rfl, (blk_cell BK252.out 2).trans rfl, HS3_⟩ (fun hHeld => ?_)
              clear hK K
              refine norm_ (a' := ?_) ?_ ?_
              rotate_left
              ·show Act.put _ (some 41) _ = _
               simp only [Act.put, List.setIfInBounds_toArray, List.set_cons_zero, List.set_cons_succ, i64_w, i32_w]
               rfl
              refine pure_ (i := 9) (N := some 42) (v := ?_) (a' := ?_) (ob 13 1023) rfl rfl (any_of HT_.out (by kernel_rfl)) (fun _ _ _ h => h) (Or.inl ⟨by rfl, ?_⟩) ?_ ?_; rotate_left; exact ax5; rotate_left; exact ax6
              refine last_ (i := 10) (N := some 43) (ob 13 2047) rfl rfl (one_of HT_.out (by kernel_rfl)) (by decide) (fun K hK => ?_)
              refine value_ (w1 := ?_) (v := ?_) (by rfl) rfl ?_ ?_
              rotate_left 2
              ·go_simp
               constructor
               ·rfl
               ·rfl
              refine hK.out _ _ ?_
              clear hK K
              refine norm_ (a' := ?_) ?_ ?_
              rotate_left
              ·exact ax10
              refine last_ (i := 11) (N := some 44) (ob 13 4095) rfl rfl (one_of HT_.out (by kernel_rfl)) (by decide) (fun K hK => ?_)
              refine Kd.R_append_step Kd.string (w0 := w) w.heap.size (by rfl) (.tmp 33) (.tmp 43) 22 9 (.string ⟨#[]⟩) 16 rfl Tryz.underlying22 info9 rfl (by decide) (by omega) (.slice (some ad255) x4_1.length co29) x4_1 js21 [.string js21] (fun _ => True) (fun _ => False) rfl rfl ?aP (fun _ hk => hk.elim) ?aF ?aO ?aB ?aS ?aL ?_
              (case aP => exact rfl)
              (case aB => exact ax109)
              (case aF => exact ax28)
              (case aO => exact ax100)
              (case aS => exact (below_size ax109))
              (case aL => have := LMc22.out; omega)
              intro v258 w31 ho hb hg hat
              rw [← Ny257.out] at ho
              have n0_ := Aside0.mk (blk_grown (g := gb242) (o := .cells #[.slice A0_0 l0_0.length c0_0] 45 (0, 0)) ax99 hg (Kd.R_ne HO_4.out BK242.out (by decide)))
              have n1_ := Aside0.mk (blk_grown (g := gb252) (o := .cells #[.int .i64 ((rd_T105 y247 x17_1).f0), .int .i64 ((rd_T105 y247 x17_1).f1), .bool ((rd_T105 y247 x17_1).f2)] 105 (0, 0)) ax108 hg (Kd.R_ne HO_4.out BK252.out (by decide)))
              have n2_ := Aside0.mk (hb); have n3_ := Aside0.mk (ho); clear BK242; clear BK252; clear HB; clear HO_4; have BK242 := n0_; have BK252 := n1_; have HB := n2_; have HO259 := n3_; clear n0_ n1_ n2_ n3_; clear ho hb hg hat
              refine hK.out _ _ ?_
              clear hK K
              refine norm_ (a' := ?_) ?_ ?_
              rotate_left
              ·show Act.put _ (some 44) _ = _
               simp only [Act.put, List.setIfInBounds_toArray, List.set_cons_zero, List.set_cons_succ, i64_w, i32_w]
               rfl
              refine pure_ (i := 12) (N := some 4) (v := ?_) (a' := ?_) (ob 13 8191) rfl rfl (any_of HT_.out (by kernel_rfl)) (fun _ _ _ h => h) (Or.inl ⟨by rfl, ?_⟩) ?_ ?_; rotate_left; exact ax5; rotate_left; exact ax6
              refine done_ (done_of HT_.out (by kernel_rfl)) ?_
              try go_wp2
              go_roundg k1
              case measure => have := HK1.out; omega
              case rel => exact ⟨(y257), (wrap64 (x17_1 + 1)), ax21, H', ⟨by have := HK1.out; omega⟩, ⟨by (with_reducible repeat (first | apply Kd.R_alloc | apply Kd.R_drewN | apply Kd.R_drew)); exact HO259.out⟩, ⟨by (with_reducible repeat (first | refine blk_drewN ?_ _ | refine blk_drew ?_ | refine blk_alloc ?_ _)); exact BK242.out⟩, ⟨by repeat (first | (with_reducible first | exact HB.out | apply below_alloc | apply pw_below_drewN | apply below_drew1 | refine below_set ?_ GE242.out | refine below_set ?_ GE252.out) | exact HB.out)⟩⟩
             ·rw [if_neg c22] at H
              exact absurd H (by simp)
            ·rw [if_neg c20] at H
             exact absurd H (by simp)
           ·rw [if_neg c18] at H
            exact absurd H (by simp)
          ·rw [if_neg c17] at H
           exact absurd H (by simp)
         ·replace c16 := Bool.eq_false_iff.mpr c16
          subst c16
          have H1 : (some (([] : List ByteArray), false)) = some (r1, r2) := by rw [if_neg (show ¬ (false = true) by decide)] at H; exact H
          clear H; have H := H1; clear H1
          simp only [Option.some.injEq, Prod.mk.injEq] at H
          obtain ⟨rfl, rfl⟩ := H
          have p251 : 0 ≤ (x17_1 : Int) := of_decide_eq_true ax22
          have q251 : x17_1 < (y247.length : Int) := of_decide_eq_true ax22
          obtain ⟨ad251, e251, hx251_0, hx251_1, hx251_2⟩ := at_T105 HR250.out x17_1 p251 q251
          cases e251; replace hx251_0 := (HB.out.cell (World.block_lt_of_cell? w _ hx251_0)).trans hx251_0; replace hx251_1 := (HB.out.cell (World.block_lt_of_cell? w _ hx251_1)).trans hx251_1; replace hx251_2 := (HB.out.cell (World.block_lt_of_cell? w _ hx251_2)).trans hx251_2; replace p251 := eq_true p251; replace q251 := eq_true q251
          go_wp2_with (first | ((with_reducible refine gate_dst (N := 6) rfl ?_); refine box_event ?hg (N := 6) ?hd (cs := #[.int .i64 0, .int .i64 0, .bool false]) (t := 105) ?hr ?_; (case hd => rfl); (case hg => rfl); (case hr => exact ax23); intro gb252 hg w32 hbox hb; have n0_ := Aside0.mk (Kd.R_below ax100 hb); have n1_ := Aside0.mk (blk_below (g := gb242) (o := .cells #[.slice A0_0 l0_0.length c0_0] 45 (0, 0)) ax99 hb); have n2_ := Aside0.mk (below_step ax98 hb); have n3_ := Aside0.mk (hbox); have n4_ := Aside0.mk ((ax101 : w.heap.size ≤ gb252)); have n5_ := Aside0.mk ((ax101 : w.heap.size ≤ gb252)); have n6_ := Aside0.mk ((ax102 : gb242 ≠ gb252)); have n7_ := Aside0.mk ((ax103 : gb252 ≠ gb242)); clear HO_4; clear BK242; clear HB; have HO_4 := n0_; have BK242 := n1_; have HB := n2_; have BK252 := n3_; have GW252 := n4_; have GE252 := n5_; have NB242_252 := n6_; have NB252_242 := n7_; clear n0_ n1_ n2_ n3_ n4_ n5_ n6_ n7_; clear hb hbox hg; have hnb33 := NB252_242.out; have hnc33 := NB242_252.out; have hcz34_0 : w32.cell? ⟨gb252, 0, none⟩ = some (.int .i64 0) := (blk_cell BK252.out 0).trans rfl; have hcz34_1 : w32.cell? ⟨gb252, 1, none⟩ = some (.int .i64 0) := (blk_cell BK252.out 1).trans rfl; have hcz34_2 : w32.cell? ⟨gb252, 2, none⟩ = some (.bool false) := (blk_cell BK252.out 2).trans rfl; have hfz34_0 := blk_frozen BK252.out 0; have hfz34_1 := blk_frozen BK252.out 1; have hfz34_2 := blk_frozen BK252.out 2) | ((with_reducible refine gate_store (t := 105) (p := 6) rfl ?_); refine store_event (t := 105) (p := 6) (v := ?vo_w35) (w1 := (((w32.setCell ⟨gb252, 0, none⟩ (.int .i64 ((rd_T105 y247 x17_1).f0))).setCell ⟨gb252, 1, none⟩ (.int .i64 ((rd_T105 y247 x17_1).f1))).setCell ⟨gb252, 2, none⟩ (.bool ((rd_T105 y247 x17_1).f2)))) ?hg ?ho ?hn ?hr ?_; (case ho => rfl); (case hg => rfl); (case hn => rfl); (case hr => exact ax23); intro w35 hw; have n0_ : Aside0 (Kd.R Kd.string 9 w35 w.heap.size (fun _ => True) u4 x4_1) := ⟨ax104⟩; have n1_ : Aside0 (w35.heap[gb242]? = some (.cells #[.slice A0_0 l0_0.length c0_0] 45 (0, 0))) := ⟨ax105⟩; have n2_ : Aside0 (w35.heap[gb252]? = some (.cells #[.int .i64 ((rd_T105 y247 x17_1).f0), .int .i64 ((rd_T105 y247 x17_1).f1), .bool ((rd_T105 y247 x17_1).f2)] 105 (0, 0))) := ⟨ax106⟩; have n3_ : Aside0 (Below w.heap.size w w35) := ⟨ax107⟩; clear hw; clear HO_4; clear BK242; clear BK252; clear HB; have HO_4 := n0_; have BK242 := n1_; have BK252 := n2_; have HB := n3_; clear n0_ n1_ n2_ n3_; have hcz36_0 : w35.cell? ⟨gb252, 0, none⟩ = some (.int .i64 ((rd_T105 y247 x17_1).f0)) := (blk_cell BK252.out 0).trans rfl; have hcz36_1 : w35.cell? ⟨gb252, 1, none⟩ = some (.int .i64 ((rd_T105 y247 x17_1).f1)) := (blk_cell BK252.out 1).trans rfl; have hcz36_2 : w35.cell? ⟨gb252, 2, none⟩ = some (.bool ((rd_T105 y247 x17_1).f2)) := (blk_cell BK252.out 2).trans rfl; have hfz36_0 := blk_frozen BK252.out 0; have hfz36_1 := blk_frozen BK252.out 1; have hfz36_2 := blk_frozen BK252.out 2) | ((with_reducible refine gate_callee (f := 50) rfl ?_); refine goesL_ (some 25) rfl rfl Tryz.func50 (by kernel_rfl) rfl #[.int .i64 ((rd_T105 y247 x17_1).f1), .int .i64 0, .int .i64 x17_1] rfl ax31 ?_; (with_reducible refine (impl_in.calls ((rd_T105 y247 x17_1).f1) 0 x17_1 true _ A13.out).mono ?_); rintro e w' ⟨rfl, ⟨nd, rfl⟩⟩; refine ⟨_, rfl, ?_⟩) | (go_at_call 50; (with_reducible refine (impl_in.calls ((rd_T105 y247 x17_1).f0) 0 25 false _ A15.out).mono ?_); rintro e w' ⟨rfl, ⟨nd, rfl⟩⟩))
          go_ret2
          exact ⟨_, by first | rfl | (simp [errW_none, errW_some] <;> rfl) | (simp [*, errW_none, errW_some] <;> rfl), by first | exact Kd.R_nil _ _ _ _ _ | exact Kd.N_nil _ _ _ _ _ | exact Kd.V_nil _ _ _ _ _ | exact Kd.Q_nil _ _ _ _ _ | exact Kd.S_nil _ _ _ _ _, by repeat (first | (with_reducible first | exact HB.out | apply below_alloc | apply pw_below_drewN | apply below_drew1 | refine below_set ?_ GE242.out | refine below_set ?_ GE252.out) | exact HB.out)⟩
        ·replace c14 := Bool.eq_false_iff.mpr c14
         subst c14
         have H1 : (some (([] : List ByteArray), false)) = some (r1, r2) := by rw [if_neg (show ¬ (false = true) by decide)] at H; exact H
         clear H; have H := H1; clear H1
         simp only [Option.some.injEq, Prod.mk.injEq] at H
         obtain ⟨rfl, rfl⟩ := H
         have p251 : 0 ≤ (x17_1 : Int) := of_decide_eq_true ax22
         have q251 : x17_1 < (y247.length : Int) := of_decide_eq_true ax22
         obtain ⟨ad251, e251, hx251_0, hx251_1, hx251_2⟩ := at_T105 HR250.out x17_1 p251 q251
         cases e251; replace hx251_0 := (HB.out.cell (World.block_lt_of_cell? w _ hx251_0)).trans hx251_0; replace hx251_1 := (HB.out.cell (World.block_lt_of_cell? w _ hx251_1)).trans hx251_1; replace hx251_2 := (HB.out.cell (World.block_lt_of_cell? w _ hx251_2)).trans hx251_2; replace p251 := eq_true p251; replace q251 := eq_true q251
         go_wp2_with (first | ((with_reducible refine gate_dst (N := 6) rfl ?_); refine box_event ?hg (N := 6) ?hd (cs := #[.int .i64 0, .int .i64 0, .bool false]) (t := 105) ?hr ?_; (case hd => rfl); (case hg => rfl); (case hr => exact ax23); intro gb252 hg w37 hbox hb; have n0_ := Aside0.mk (Kd.R_below ax100 hb); have n1_ := Aside0.mk (blk_below (g := gb242) (o := .cells #[.slice A0_0 l0_0.length c0_0] 45 (0, 0)) ax99 hb); have n2_ := Aside0.mk (below_step ax98 hb); have n3_ := Aside0.mk (hbox); have n4_ := Aside0.mk ((ax101 : w.heap.size ≤ gb252)); have n5_ := Aside0.mk ((ax101 : w.heap.size ≤ gb252)); have n6_ := Aside0.mk ((ax102 : gb242 ≠ gb252)); have n7_ := Aside0.mk ((ax103 : gb252 ≠ gb242)); clear HO_4; clear BK242; clear HB; have HO_4 := n0_; have BK242 := n1_; have HB := n2_; have BK252 := n3_; have GW252 := n4_; have GE252 := n5_; have NB242_252 := n6_; have NB252_242 := n7_; clear n0_ n1_ n2_ n3_ n4_ n5_ n6_ n7_; clear hb hbox hg; have hnb38 := NB252_242.out; have hnc38 := NB242_252.out; have hcz39_0 : w37.cell? ⟨gb252, 0, none⟩ = some (.int .i64 0) := (blk_cell BK252.out 0).trans rfl; have hcz39_1 : w37.cell? ⟨gb252, 1, none⟩ = some (.int .i64 0) := (blk_cell BK252.out 1).trans rfl; have hcz39_2 : w37.cell? ⟨gb252, 2, none⟩ = some (.bool false) := (blk_cell BK252.out 2).trans rfl; have hfz39_0 := blk_frozen BK252.out 0; have hfz39_1 := blk_frozen BK252.out 1; have hfz39_2 := blk_frozen BK252.out 2) | ((with_reducible refine gate_store (t := 105) (p := 6) rfl ?_); refine store_event (t := 105) (p := 6) (v := ?vo_w40) (w1 := (((w37.setCell ⟨gb252, 0, none⟩ (.int .i64 ((rd_T105 y247 x17_1).f0))).setCell ⟨gb252, 1, none⟩ (.int .i64 ((rd_T105 y247 x17_1).f1))).setCell ⟨gb252, 2, none⟩ (.bool ((rd_T105 y247 x17_1).f2)))) ?hg ?ho ?hn ?hr ?_; (case ho => rfl); (case hg => rfl); (case hn => rfl); (case hr => exact ax23); intro w40 hw; have n0_ : Aside0 (Kd.R Kd.string 9 w40 w.heap.size (fun _ => True) u4 x4_1) := ⟨ax104⟩; have n1_ : Aside0 (w40.heap[gb242]? = some (.cells #[.slice A0_0 l0_0.length c0_0] 45 (0, 0))) := ⟨ax105⟩; have n2_ : Aside0 (w40.heap[gb252]? = some (.cells #[.int .i64 ((rd_T105 y247 x17_1).f0), .int .i64 ((rd_T105 y247 x17_1).f1), .bool ((rd_T105 y247 x17_1).f2)] 105 (0, 0))) := ⟨ax106⟩; have n3_ : Aside0 (Below w.heap.size w w40) := ⟨ax107⟩; clear hw; clear HO_4; clear BK242; clear BK252; clear HB; have HO_4 := n0_; have BK242 := n1_; have BK252 := n2_; have HB := n3_; clear n0_ n1_ n2_ n3_; have hcz41_0 : w40.cell? ⟨gb252, 0, none⟩ = some (.int .i64 ((rd_T105 y247 x17_1).f0)) := (blk_cell BK252.out 0).trans rfl; have hcz41_1 : w40.cell? ⟨gb252, 1, none⟩ = some (.int .i64 ((rd_T105 y247 x17_1).f1)) := (blk_cell BK252.out 1).trans rfl; have hcz41_2 : w40.cell? ⟨gb252, 2, none⟩ = some (.bool ((rd_T105 y247 x17_1).f2)) := (blk_cell BK252.out 2).trans rfl; have hfz41_0 := blk_frozen BK252.out 0; have hfz41_1 := blk_frozen BK252.out 1; have hfz41_2 := blk_frozen BK252.out 2) | ((with_reducible refine gate_callee (f := 50) rfl ?_); refine goesL_ (some 25) rfl rfl Tryz.func50 (by kernel_rfl) rfl #[.int .i64 ((rd_T105 y247 x17_1).f1), .int .i64 0, .int .i64 x17_1] rfl ax31 ?_; (with_reducible refine (impl_in.calls ((rd_T105 y247 x17_1).f1) 0 x17_1 false _ A13.out).mono ?_); rintro e w' ⟨rfl, ⟨nd, rfl⟩⟩; refine ⟨_, rfl, ?_⟩))
         go_ret2
         exact ⟨_, by first | rfl | (simp [errW_none, errW_some] <;> rfl) | (simp [*, errW_none, errW_some] <;> rfl), by first | exact Kd.R_nil _ _ _ _ _ | exact Kd.N_nil _ _ _ _ _ | exact Kd.V_nil _ _ _ _ _ | exact Kd.Q_nil _ _ _ _ _ | exact Kd.S_nil _ _ _ _ _, by repeat (first | (with_reducible first | exact HB.out | apply below_alloc | apply pw_below_drewN | apply below_drew1 | refine below_set ?_ GE242.out | refine below_set ?_ GE252.out) | exact HB.out)⟩
       ·rw [if_neg c12] at H
        exact absurd H (by simp)
      ·exact ax11
     ·rw [if_neg c10] at H
      have c10b0 : decide (x17_1 < (y247.length : Int)) = false := decide_eq_false c10
      clear c10
      simp only [Option.some.injEq, Prod.mk.injEq] at H
      obtain ⟨rfl, rfl⟩ := H
      go_wp2
      go_ret2
      exact ⟨_, by first | rfl | (simp [errW_none, errW_some] <;> rfl) | (simp [*, errW_none, errW_some] <;> rfl), by (with_reducible repeat (first | apply Kd.R_alloc | apply Kd.R_drewN | apply Kd.R_drew)); exact HO_4.out, by repeat (first | (with_reducible first | exact HB.out | apply below_alloc | apply pw_below_drewN | apply below_drew1 | refine below_set ?_ GE242.out) | exact HB.out)⟩
  ·exact ax12
 ·replace c3 := Bool.eq_false_iff.mpr c3
  subst c3
  have H1 : (some (([] : List ByteArray), false)) = some (r1, r2) := by rw [if_neg (show ¬ (false = true) by decide)] at H; exact H
  clear H; have H := H1; clear H1
  simp only [Option.some.injEq, Prod.mk.injEq] at H
  obtain ⟨rfl, rfl⟩ := H
  go_enter Tryz.func66, Tryz.ntmps66
  go_wp2_with (first | ((with_reducible refine gate_dst (N := 1) rfl ?_); refine box_event ?hg (N := 1) ?hd (cs := #[.slice A0_0 l0_0.length c0_0]) (t := 45) ?hr ?_; (case hd => rfl); (case hg => rfl); (case hr => exact ax23); intro gb242 hg w42 hbox hb; have n0_ := Aside0.mk (below_step ax25 hb); have n1_ := Aside0.mk (hbox); have n2_ := Aside0.mk ((ax54 : w.heap.size ≤ gb242)); have n3_ := Aside0.mk ((ax54 : w.heap.size ≤ gb242)); clear HB; have HB := n0_; have BK242 := n1_; have GW242 := n2_; have GE242 := n3_; clear n0_ n1_ n2_ n3_; clear hb hbox hg) | ((with_reducible refine gate_dst (N := 7) rfl ?_); refine Kd.R_lit Kd.string _ 9 ?hg (N := 7) ?hd (xs := ([(⟨#[]⟩ : ByteArray)] : List ByteArray)) (inner := [.string (⟨#[]⟩ : ByteArray)]) (ok := fun _ => True) (okp := fun _ => True) ?hr ?hp (fun _ hk => hk) trivial (Below.refl _ _) (Nat.le_refl _) (by simp) ?_; (case hd => rfl); (case hg => rfl); (case hr => exact ax23); (case hp => exact ax58); intro v244 w43 ho44 hb hg_ hnew_; clear hg_ hnew_; (first | rw [← Ny243.out] at ho44 | (simp only [Int.reduceToNat] at ho44; rw [← Ny243.out] at ho44)); have n0_ := Aside0.mk (Kd.R_lower ho44 (below_size ax98)); have n1_ := Aside0.mk (blk_below (g := gb242) (o := .cells #[.slice A0_0 l0_0.length c0_0] 45 (0, 0)) ax99 hb); have n2_ := Aside0.mk (below_step ax98 hb); clear BK242; clear HB; have HO245 := n0_; have BK242 := n1_; have HB := n2_; clear n0_ n1_ n2_; clear hb ho44; have hcz45_0 : w43.cell? ⟨gb242, 0, none⟩ = some (.slice A0_0 l0_0.length c0_0) := (blk_cell BK242.out 0).trans rfl; have hfz45_0 := blk_frozen BK242.out 0) | ((with_reducible refine gate_callee (f := 50) rfl ?_); refine goesL_ (some 11) rfl rfl Tryz.func50 (by kernel_rfl) rfl #[.int .i64 (l0_0.length : Int), .int .i64 1, .int .i64 481] rfl ax31 ?_; (with_reducible refine (impl_in.calls (l0_0.length : Int) 1 481 false _ A2.out).mono ?_); rintro e w' ⟨rfl, ⟨nd, rfl⟩⟩; refine ⟨_, rfl, ?_⟩))
  go_ret2
  exact ⟨_, by first | rfl | (simp [errW_none, errW_some] <;> rfl) | (simp [*, errW_none, errW_some] <;> rfl), by first | exact Kd.R_nil _ _ _ _ _ | exact Kd.N_nil _ _ _ _ _ | exact Kd.V_nil _ _ _ _ _ | exact Kd.Q_nil _ _ _ _ _ | exact Kd.S_nil _ _ _ _ _, by repeat (first | (with_reducible first | exact HB.out | apply below_alloc | apply pw_below_drewN | apply below_drew1 | refine below_set ?_ GE242.out) | exact HB.out)⟩

/-! ### impl_Book_isBook: function 41 -/
def impl_Book_isBook.j0 : Nat → Bool → ByteArray → ByteArray → Int → List (S105) → Option (Bool)
 | 0, _, _, _, _, _ => none
 | k + 1, x19, x261000, x261001, x261002, x266000 => if x19 = true then (some false) else ((impl_Trie_prefixes.f k x266000).bind fun bt267 => ((slices_Contains_string_string.f k bt267.1 x261001).bind fun t271 => (some t271)))
def impl_Book_isBook.f (k : Nat) (a0_0 : ByteArray) (a0_1 : ByteArray) (a0_2 : Int) : Option (Bool) := (impl_Book_trie.f k a0_0 a0_1 a0_2).bind fun bt261 => (if bt261.2 = true then ((impl_in.f a0_2 0 1000).bind fun t266 => (impl_Book_isBook.j0 k (!t266) a0_0 a0_1 a0_2 bt261.1)) else (impl_Book_isBook.j0 k true a0_0 a0_1 a0_2 bt261.1))
theorem impl_Book_isBook.mono_l : ∀ k, (∀ y0 y1 y2 y3 y4, LeO (impl_Book_isBook.j0 k y0 y1 y2 y3 y4) (impl_Book_isBook.j0 (k + 1) y0 y1 y2 y3 y4))
 | 0 => fun _ _ _ _ _ r h => by simp [impl_Book_isBook.j0] at h
 | k + 1 => by
  have ih0 := impl_Book_isBook.mono_l k
  ·intro y0 y1 y2 y3 y4
   unfold impl_Book_isBook.j0
   repeat' first
   | (with_reducible exact ih0 _ _ _ _ _)
   | (with_reducible exact impl_Book_trie.mono _ _ _ _)
   | (with_reducible exact impl_Trie_prefixes.mono _ _)
   | (with_reducible exact slices_Contains_string_string.mono _ _ _)
   | (with_reducible exact LeO.refl _)
   | (with_reducible exact LeO.none _)
   | (with_reducible refine LeO.ite ?_ ?_)
   | (with_reducible refine LeO.bind ?_ (fun _ => ?_))
   | exact ih0 _ _ _ _ _
   | exact impl_Book_trie.mono _ _ _ _
   | exact impl_Trie_prefixes.mono _ _
   | exact slices_Contains_string_string.mono _ _ _
   | exact LeO.none _
   | refine LeO.ite ?_ ?_
   | refine LeO.bind ?_ (fun _ => ?_)
theorem impl_Book_isBook.mono : ∀ a0 a1 a2 k, LeO (impl_Book_isBook.f k a0 a1 a2) (impl_Book_isBook.f (k + 1) a0 a1 a2) := by
 intro a0 a1 a2 k
 have ih0 := impl_Book_isBook.mono_l k
 unfold impl_Book_isBook.f
 repeat' first
   | (with_reducible exact ih0 _ _ _ _ _)
   | (with_reducible exact impl_Book_trie.mono _ _ _ _)
   | (with_reducible exact impl_Trie_prefixes.mono _ _)
   | (with_reducible exact slices_Contains_string_string.mono _ _ _)
   | (with_reducible exact LeO.refl _)
   | (with_reducible exact LeO.none _)
   | (with_reducible refine LeO.ite ?_ ?_)
   | (with_reducible refine LeO.bind ?_ (fun _ => ?_))
   | exact ih0 _ _ _ _ _
   | exact impl_Book_trie.mono _ _ _ _
   | exact impl_Trie_prefixes.mono _ _
   | exact slices_Contains_string_string.mono _ _ _
   | exact LeO.none _
   | refine LeO.ite ?_ ?_
   | refine LeO.bind ?_ (fun _ => ?_)
set_option maxHeartbeats 8000000 in
set_option maxRecDepth 100000 in
theorem impl_Book_isBook.calls (k : Nat) (a0_0 : ByteArray) (a0_1 : ByteArray) (a0_2 : Int) (r : Bool) (w : World) (hG : GL w) (h : impl_Book_isBook.f k a0_0 a0_1 a0_2 = some r) :
  Calls Tryz.prog 41 #[.agg #[.string a0_0, .string a0_1, .int .i64 a0_2]] w fun e w' => e = .returned (.bool r) ∧ Below w.heap.size w w' := by
 have hu25 := Tryz.underlying25; have hu45 := Tryz.underlying45; have HB := Aside0.mk (Below.refl w.heap.size w); have HG := Aside0.mk hG; clear hG
 have H : ((impl_Book_trie.f k a0_0 a0_1 a0_2).bind fun bt261 => (if bt261.2 = true then ((impl_in.f a0_2 0 1000).bind fun t266 => (impl_Book_isBook.j0 k (!t266) a0_0 a0_1 a0_2 bt261.1)) else (impl_Book_isBook.j0 k true a0_0 a0_1 a0_2 bt261.1))) = some r := h
 clear h; replace H := Option.bind_eq_some_iff.mp H
 obtain ⟨⟨t261, t264⟩, A20, H⟩ := H
 replace H : (if t264 = true then ((impl_in.f a0_2 0 1000).bind fun t266 => (impl_Book_isBook.j0 k (!t266) a0_0 a0_1 a0_2 t261)) else (impl_Book_isBook.j0 k true a0_0 a0_1 a0_2 t261)) = some r := H
 have A2 := Aside0.mk A20; clear A20; have HC3 := Aside0.mk H; clear H
 go_enter Tryz.func41, Tryz.ntmps41
 go_upto_region 2 with (first | ((with_reducible refine gate_dst (N := 1) rfl ?_); refine box_event ?hg (N := 1) ?hd (cs := #[.string a0_0, .string a0_1, .int .i64 a0_2]) (t := 25) ?hr ?_; (case hd => rfl); (case hg => rfl); (case hr => exact ax23); intro gb260 hg w4 hbox hb; have n0_ := Aside0.mk (below_step ax25 hb); have n1_ := Aside0.mk (hbox); have n2_ := Aside0.mk ((ax54 : w.heap.size ≤ gb260)); have n3_ := Aside0.mk ((ax54 : w.heap.size ≤ gb260)); clear HB; have HB := n0_; have BK260 := n1_; have GW260 := n2_; have GE260 := n3_; clear n0_ n1_ n2_ n3_; clear hb hbox hg; have hcz5_0 : w4.cell? ⟨gb260, 0, none⟩ = some (.string a0_0) := (blk_cell BK260.out 0).trans rfl; have hcz5_1 : w4.cell? ⟨gb260, 1, none⟩ = some (.string a0_1) := (blk_cell BK260.out 1).trans rfl; have hcz5_2 : w4.cell? ⟨gb260, 2, none⟩ = some (.int .i64 a0_2) := (blk_cell BK260.out 2).trans rfl; have hfz5_0 := blk_frozen BK260.out 0; have hfz5_1 := blk_frozen BK260.out 1; have hfz5_2 := blk_frozen BK260.out 2) | ((with_reducible refine gate_callee (f := 45) rfl ?_); refine goesL_ (some 9) rfl rfl Tryz.func45 (by kernel_rfl) rfl #[.agg #[.string a0_0, .string a0_1, .int .i64 a0_2]] rfl ax31 ?_; (with_reducible refine (impl_Book_trie.calls k a0_0 a0_1 a0_2 t261 t264 _ ?side1 A2.out).mono ?_); (case side1 => exact GL.below HG.out ax110); rintro e w6 ⟨v262, rfl, ho0, hb⟩; refine ⟨_, rfl, ?_⟩; have n0_ := Aside0.mk (Kd.R_lower ho0 (below_size ax110)); have n1_ := Aside0.mk (blk_below (g := gb260) (o := .cells #[.string a0_0, .string a0_1, .int .i64 a0_2] 25 (0, 0)) ax111 hb); have n2_ := Aside0.mk (below_step ax110 hb); clear BK260; clear HB; have HO263 := n0_; have BK260 := n1_; have HB := n2_; clear n0_ n1_ n2_; (try clear hb); (try clear hb2); (try clear hk); (try clear hi); (try clear ho0)) | ((with_reducible refine gate_dst (N := 3) rfl ?_); refine box_event ?hg (N := 3) ?hd (cs := #[.slice none 0 0]) (t := 45) ?hr ?_; (case hd => rfl); (case hg => rfl); (case hr => exact ax23); intro gb265 hg w7 hbox hb; have n0_ := Aside0.mk (Kd.R_below (by (with_reducible repeat (first | apply Kd.R_alloc | apply Kd.R_drewN | apply Kd.R_drew)); exact HO263.out) hb); have n1_ := Aside0.mk (blk_below (g := gb260) (o := .cells #[.string a0_0, .string a0_1, .int .i64 a0_2] 25 (0, 0)) ax111 hb); have n2_ := Aside0.mk (below_step ax110 hb); have n3_ := Aside0.mk (hbox); have n4_ := Aside0.mk ((ax112 : w.heap.size ≤ gb265)); have n5_ := Aside0.mk ((ax112 : w.heap.size ≤ gb265)); have n6_ := Aside0.mk ((by rw [hg]; exact Nat.ne_of_lt (blk_lt (g := gb260) (o := .cells #[.string a0_0, .string a0_1, .int .i64 a0_2] 25 (0, 0)) ax111) : gb260 ≠ gb265)); have n7_ := Aside0.mk ((by rw [hg]; exact Nat.ne_of_gt (blk_lt (g := gb260) (o := .cells #[.string a0_0, .string a0_1, .int .i64 a0_2] 25 (0, 0)) ax111) : gb265 ≠ gb260)); clear HO263; clear BK260; clear HB; have HO263 := n0_; have BK260 := n1_; have HB := n2_; have BK265 := n3_; have GW265 := n4_; have GE265 := n5_; have NB260_265 := n6_; have NB265_260 := n7_; clear n0_ n1_ n2_ n3_ n4_ n5_ n6_ n7_; clear hb hbox hg; obtain ⟨Ao8, co8, eo8⟩ := Kd.R_slice HO263.out; subst eo8; have hnb9 := NB265_260.out; have hnc9 := NB260_265.out; have hcz10_0 : w7.cell? ⟨gb265, 0, none⟩ = some (.slice none 0 0) := (blk_cell BK265.out 0).trans rfl; have hfz10_0 := blk_frozen BK265.out 0))
 (try simp only [Act.put, List.setIfInBounds_toArray, List.set_cons_zero, List.set_cons_succ])
 go_cut [19] (fun v19 wc => ∃ (kq : Nat) (x19_2 : Bool), v19 = .bool x19_2 ∧ Aside0 (impl_Book_isBook.j0 kq x19_2 a0_0 a0_1 a0_2 t261 = some r) ∧ Aside0 (kq ≤ k) ∧ Aside0 (Kd.R k105 105 wc w.heap.size (fun _ => True) (.slice Ao8 t261.length co8) t261) ∧ Aside0 (wc.heap[gb260]? = some (.cells #[.string a0_0, .string a0_1, .int .i64 a0_2] 25 (0, 0))) ∧ Aside0 (wc.heap[gb265]? = some (.cells #[(.slice Ao8 t261.length co8)] 45 (0, 0))) ∧ Aside0 (Below w.heap.size w wc))
 case first =>
  have H := HC3.out; clear HC3
  by_cases c11 : t264 = true
  ·subst c11
   have H1 : ((impl_in.f a0_2 0 1000).bind fun t266 => (impl_Book_isBook.j0 k (!t266) a0_0 a0_1 a0_2 t261)) = some r := by rw [if_pos rfl] at H; exact H
   clear H; have H := H1; clear H1; replace H := Option.bind_eq_some_iff.mp H
   obtain ⟨t266, A120, H⟩ := H
   replace H : (impl_Book_isBook.j0 k (!t266) a0_0 a0_1 a0_2 t261) = some r := H
   have A12 := Aside0.mk A120; clear A120
   have H' := Aside0.mk H
   clear H; have hnb13 := NB260_265.out; have hnc13 := NB265_260.out
   have hcz14_0 : w7.cell? ⟨gb260, 0, none⟩ = some (.string a0_0) := (blk_cell BK260.out 0).trans rfl
   have hcz14_1 : w7.cell? ⟨gb260, 1, none⟩ = some (.string a0_1) := (blk_cell BK260.out 1).trans rfl
   have hcz14_2 : w7.cell? ⟨gb260, 2, none⟩ = some (.int .i64 a0_2) := (blk_cell BK260.out 2).trans rfl
   have hfz14_0 := blk_frozen BK260.out 0; have hfz14_1 := blk_frozen BK260.out 1; have hfz14_2 := blk_frozen BK260.out 2
   go_wp2_with (first | (go_at_call 50; (with_reducible refine (impl_in.calls a0_2 0 1000 t266 _ A12.out).mono ?_); rintro e w' ⟨rfl, ⟨nd, rfl⟩⟩))
   go_meet
   case rel => exact ⟨_, (!t266), ax21, H', ⟨by first | omega | exact Nat.le_refl _⟩, ⟨by (with_reducible repeat (first | apply Kd.R_alloc | apply Kd.R_drewN | apply Kd.R_drew)); exact Kd.R_mono (Kd.R_far (p := ⟨gb265, 0, none⟩) (Kd.R_types HO263.out BK265.out (by decide)) (fun _ hk => hk.2) (.slice Ao8 t261.length co8)) (fun _ hk => trivial)⟩, ⟨by (with_reducible repeat (first | refine blk_drewN ?_ _ | refine blk_drew ?_ | refine blk_alloc ?_ _)); refine blk_far ?_ NB260_265.out _; (with_reducible repeat (first | refine blk_drewN ?_ _ | refine blk_drew ?_ | refine blk_alloc ?_ _)); exact BK260.out⟩, ⟨by (with_reducible repeat (first | refine blk_drewN ?_ _ | refine blk_drew ?_ | refine blk_alloc ?_ _)); refine blk_put (cs := #[.slice none 0 0]) ?_ 0 _ rfl; (with_reducible repeat (first | refine blk_drewN ?_ _ | refine blk_drew ?_ | refine blk_alloc ?_ _)); exact BK265.out⟩, ⟨by repeat (first | (with_reducible first | exact HB.out | apply below_alloc | apply pw_below_drewN | apply below_drew1 | refine below_set ?_ GE260.out | refine below_set ?_ GE265.out) | exact HB.out)⟩⟩
  ·replace c11 := Bool.eq_false_iff.mpr c11
   subst c11
   have H1 : (impl_Book_isBook.j0 k true a0_0 a0_1 a0_2 t261) = some r := by rw [if_neg (show ¬ (false = true) by decide)] at H; exact H
   clear H; have H := H1; clear H1
   have H' := Aside0.mk H
   clear H
   go_wp2
   go_meet
   case rel => exact ⟨_, (true), ax21, H', ⟨by first | omega | exact Nat.le_refl _⟩, ⟨by (with_reducible repeat (first | apply Kd.R_alloc | apply Kd.R_drewN | apply Kd.R_drew)); exact Kd.R_mono (Kd.R_far (p := ⟨gb265, 0, none⟩) (Kd.R_types HO263.out BK265.out (by decide)) (fun _ hk => hk.2) (.slice Ao8 t261.length co8)) (fun _ hk => trivial)⟩, ⟨by (with_reducible repeat (first | refine blk_drewN ?_ _ | refine blk_drew ?_ | refine blk_alloc ?_ _)); refine blk_far ?_ NB260_265.out _; (with_reducible repeat (first | refine blk_drewN ?_ _ | refine blk_drew ?_ | refine blk_alloc ?_ _)); exact BK260.out⟩, ⟨by (with_reducible repeat (first | refine blk_drewN ?_ _ | refine blk_drew ?_ | refine blk_alloc ?_ _)); refine blk_put (cs := #[.slice none 0 0]) ?_ 0 _ rfl; (with_reducible repeat (first | refine blk_drewN ?_ _ | refine blk_drew ?_ | refine blk_alloc ?_ _)); exact BK265.out⟩, ⟨by repeat (first | (with_reducible first | exact HB.out | apply below_alloc | apply pw_below_drewN | apply below_drew1 | refine below_set ?_ GE260.out | refine below_set ?_ GE265.out) | exact HB.out)⟩⟩
 case rest =>
  clear HC3
  try clear c1
  try clear p2
  try clear c4
  try clear c9
  try clear c11
  try clear c13
  try clear hcz10_0
  try clear hcz14_0
  try clear hcz14_1
  try clear hcz14_2
  try clear hcz5_0
  try clear hcz5_1
  try clear hcz5_2
  try clear hfz10_0
  try clear hfz14_0
  try clear hfz14_1
  try clear hfz14_2
  try clear hfz5_0
  try clear hfz5_1
  try clear hfz5_2
  obtain ⟨kq, x19_2, rfl, HA, HJ2, HO_266000, BK260, BK265, HB⟩ := hcut
  cases kq with
  | zero => exact absurd HA.out (by simp [impl_Book_isBook.j0])
  | succ kj2 =>
   have H := HA.out; clear HA
   simp only [impl_Book_isBook.j0] at H
   by_cases c15 : x19_2 = true
   ·subst c15
    have H1 : (some false) = some r := by rw [if_pos rfl] at H; exact H
    clear H; have H := H1; clear H1
    obtain rfl := Option.some.inj H
    go_wp2
    go_ret
    exact ⟨by first | rfl | (simp [errW_none, errW_some] <;> rfl) | (simp [*, errW_none, errW_some] <;> rfl), by repeat (first | (with_reducible first | exact HB.out | apply below_alloc | apply pw_below_drewN | apply below_drew1 | refine below_set ?_ GE260.out | refine below_set ?_ GE265.out) | exact HB.out)⟩
   ·replace c15 := Bool.eq_false_iff.mpr c15
    subst c15
    have H1 : ((impl_Trie_prefixes.f kj2 t261).bind fun bt267 => ((slices_Contains_string_string.f kj2 bt267.1 a0_1).bind fun t271 => (some t271))) = some r := by rw [if_neg (show ¬ (false = true) by decide)] at H; exact H
    clear H; have H := H1; clear H1; replace H := Option.bind_eq_some_iff.mp H
    obtain ⟨⟨t267, t270⟩, A160, H⟩ := H
    replace H : ((slices_Contains_string_string.f kj2 t267 a0_1).bind fun t271 => (some t271)) = some r := H
    have A16 := Aside0.mk A160; clear A160; replace H := Option.bind_eq_some_iff.mp H
    obtain ⟨t271, A170, H⟩ := H
    replace H : (some t271) = some r := H
    have A17 := Aside0.mk A170; clear A170
    obtain rfl := Option.some.inj H
    have hnb18 := NB265_260.out; have hnc18 := NB260_265.out
    have hcz19_0 : wc.cell? ⟨gb265, 0, none⟩ = some (.slice Ao8 t261.length co8) := (blk_cell BK265.out 0).trans rfl
    have hfz19_0 := blk_frozen BK265.out 0
    go_wp2_with (first | ((with_reducible refine gate_callee (f := 66) rfl ?_); refine goesL_ (some 22) rfl rfl Tryz.func66 (by kernel_rfl) rfl #[.agg #[.slice Ao8 t261.length co8]] rfl ax31 ?_; (with_reducible refine (impl_Trie_prefixes.calls kj2 _ _ t261 t267 t270 _ ?side1 ?side2 A16.out).mono ?_); (case side1 => repeat (first | exact (Kd.R_reads' HO_266000.out).2.2 | (with_reducible refine Kd.C_alloc ?_ _) | (with_reducible refine Kd.C_drewN ?_ _) | (with_reducible refine Kd.C_drew ?_))); (case side2 => exact (Kd.R_reads' HO_266000.out).2.1); rintro e w20 ⟨v268, rfl, ho0, hb⟩; refine ⟨_, rfl, ?_⟩; have n0_ := Aside0.mk (Kd.R_below (by (with_reducible repeat (first | apply Kd.R_alloc | apply Kd.R_drewN | apply Kd.R_drew)); exact HO_266000.out) hb); have n1_ := Aside0.mk (Kd.R_lower ho0 (below_size ax113)); have n2_ := Aside0.mk (blk_below (g := gb260) (o := .cells #[.string a0_0, .string a0_1, .int .i64 a0_2] 25 (0, 0)) ax111 hb); have n3_ := Aside0.mk (blk_below (g := gb265) (o := .cells #[.slice Ao8 t261.length co8] 45 (0, 0)) (by (with_reducible repeat (first | refine blk_drewN ?_ _ | refine blk_drew ?_ | refine blk_alloc ?_ _)); exact BK265.out) hb); have n4_ := Aside0.mk (below_step ax113 hb); clear HO_266000; clear BK260; clear BK265; clear HB; have HO_266000 := n0_; have HO269 := n1_; have BK260 := n2_; have BK265 := n3_; have HB := n4_; clear n0_ n1_ n2_ n3_ n4_; (try clear hb); (try clear hb2); (try clear hk); (try clear hi); (try clear ho0); have hcz21_0 : w20.cell? ⟨gb260, 0, none⟩ = some (.string a0_0) := (blk_cell BK260.out 0).trans rfl; have hcz21_1 : w20.cell? ⟨gb260, 1, none⟩ = some (.string a0_1) := (blk_cell BK260.out 1).trans rfl; have hcz21_2 : w20.cell? ⟨gb260, 2, none⟩ = some (.int .i64 a0_2) := (blk_cell BK260.out 2).trans rfl; have hfz21_0 := blk_frozen BK260.out 0; have hfz21_1 := blk_frozen BK260.out 1; have hfz21_2 := blk_frozen BK260.out 2; obtain ⟨Ao22, co22, eo22⟩ := Kd.R_slice HO269.out; subst eo22) | ((with_reducible refine gate_callee (f := 52) rfl ?_); refine goesL_ (some 28) rfl rfl Tryz.func52 (by kernel_rfl) rfl #[.slice Ao22 t267.length co22, .string a0_1] rfl ax31 ?_; (with_reducible refine (slices_Contains_string_string.calls kj2 _ _ t267 a0_1 t271 _ ?side1 ?side2 A17.out).mono ?_); (case side1 => repeat (first | exact (Kd.R_reads' HO269.out).2.2 | (with_reducible refine Kd.C_alloc ?_ _) | (with_reducible refine Kd.C_drewN ?_ _) | (with_reducible refine Kd.C_drew ?_))); (case side2 => exact (Kd.R_reads' HO269.out).2.1); rintro e w' ⟨rfl, ⟨nd, rfl⟩⟩; refine ⟨_, rfl, ?_⟩))
    go_ret
    exact ⟨by first | rfl | (simp [errW_none, errW_some] <;> rfl) | (simp [*, errW_none, errW_some] <;> rfl), by repeat (first | (with_reducible first | exact HB.out | apply below_alloc | apply pw_below_drewN | apply below_drew1 | refine below_set ?_ GE260.out | refine below_set ?_ GE265.out) | exact HB.out)⟩

end Go.Proofs.YtmecniejpoopfaaGreatDoor.X

-- By gen.py (the session's own program over the kit's printer): functions of the program, each with its contract. Lean checks it.
import Derived.Test.YtcbjfflaamlpcaaX0
import Derived.Test.YtcbjfflaamlpcaaX2
import Derived.Test.YtcbjfflaamlpcaaX7
import Derived.Test.YtcbjfflaamlpcaaX8
import Derived.Test.YtcbjfflaamlpcaaX13
import Derived.Test.YtcbjfflaamlpcaaX15
import Derived.Test.YtcbjfflaamlpcaaX16
import Derived.Test.YtcbjfflaamlpcaaX19
import Derived.Test.YtcbjfflaamlpcaaX34
namespace Go.Proofs.Ytcbjfflaamlpcaa.X
open Go.RowKit Go.Proofs.YtcbjfflaamlpcaaW.PrintWords Go.Proofs.YtcbjfflaamlpcaaW.PrintLast Go.Proofs.YtcbjfflaamlpcaaW.PrintMore
attribute [local go_sem] max2_int min2_int max_two min_two max_three min_three max_four min_four   -- for this text's walks alone
set_option linter.unusedVariables false
set_option linter.unusedSimpArgs false

/-! ### impl_WinningLetters: function 27 -/
def impl_WinningLetters.l0 : Nat → ByteArray → List Int → Int → Int → List (S67) → List (S67) → Int → List ByteArray → Option (ByteArray × Bool)
 | 0, _, _, _, _, _, _, _, _ => none
 | k + 1, x10, x24, x25, x26, x590000, x592000, x592001, x592002 => if x26 < x25 then (if 0 ≤ x26 then (if x26 < (x24.length : Int) then ((impl_game_isGood.f k x592000 x592001 x592002 (rd x24 x26)).bind fun t600 => (if t600 = true then (if 0 ≤ (rd x24 x26) then (if (rd x24 x26) < (x590000.length : Int) then ((impl_letter.f ((rd_T67 x590000 (rd x24 x26)).f0)).bind fun t602 => (if x10.size + t602.size ≤ 9223372036854775807 then (impl_WinningLetters.l0 k (x10 ++ t602) x24 x25 (wrap64 (x26 + 1)) x590000 x592000 x592001 x592002) else (none))) else (none)) else (none)) else (impl_WinningLetters.l0 k x10 x24 x25 (wrap64 (x26 + 1)) x590000 x592000 x592001 x592002))) else (none)) else (none)) else (some (x10, true))
def impl_WinningLetters.f (k : Nat) (l0_0 : List (S67)) (a1 : Int) (a2 : Int) : Option (ByteArray × Bool) := (impl_gameAt.f k l0_0 a1 a2).bind fun bt590 => (if bt590.1 = true then ((impl_Trie_kids.f k l0_0 a1).bind fun t596 => (impl_WinningLetters.l0 k (⟨#[]⟩ : ByteArray) t596 (t596.length : Int) 0 l0_0 l0_0 bt590.2.1 bt590.2.2)) else (some ((⟨#[]⟩ : ByteArray), false)))
theorem impl_WinningLetters.mono_l : ∀ k, (∀ y0 y1 y2 y3 y4 y5 y6 y7, LeO (impl_WinningLetters.l0 k y0 y1 y2 y3 y4 y5 y6 y7) (impl_WinningLetters.l0 (k + 1) y0 y1 y2 y3 y4 y5 y6 y7))
 | 0 => fun _ _ _ _ _ _ _ _ r h => by simp [impl_WinningLetters.l0] at h
 | k + 1 => by
  have ih0 := impl_WinningLetters.mono_l k
  ·intro y0 y1 y2 y3 y4 y5 y6 y7
   unfold impl_WinningLetters.l0
   repeat' first
   | (with_reducible exact ih0 _ _ _ _ _ _ _ _)
   | (with_reducible exact impl_Trie_kids.mono _ _ _)
   | (with_reducible exact impl_gameAt.mono _ _ _ _)
   | (with_reducible exact impl_game_isGood.mono _ _ _ _ _)
   | (with_reducible exact LeO.refl _)
   | (with_reducible exact LeO.none _)
   | (with_reducible refine LeO.ite ?_ ?_)
   | (with_reducible refine LeO.bind ?_ (fun _ => ?_))
   | exact ih0 _ _ _ _ _ _ _ _
   | exact impl_Trie_kids.mono _ _ _
   | exact impl_gameAt.mono _ _ _ _
   | exact impl_game_isGood.mono _ _ _ _ _
   | exact LeO.none _
   | refine LeO.ite ?_ ?_
   | refine LeO.bind ?_ (fun _ => ?_)
theorem impl_WinningLetters.mono : ∀ a0 a1 a2 k, LeO (impl_WinningLetters.f k a0 a1 a2) (impl_WinningLetters.f (k + 1) a0 a1 a2) := by
 intro a0 a1 a2 k
 have ih0 := impl_WinningLetters.mono_l k
 unfold impl_WinningLetters.f
 repeat' first
   | (with_reducible exact ih0 _ _ _ _ _ _ _ _)
   | (with_reducible exact impl_Trie_kids.mono _ _ _)
   | (with_reducible exact impl_gameAt.mono _ _ _ _)
   | (with_reducible exact impl_game_isGood.mono _ _ _ _ _)
   | (with_reducible exact LeO.refl _)
   | (with_reducible exact LeO.none _)
   | (with_reducible refine LeO.ite ?_ ?_)
   | (with_reducible refine LeO.bind ?_ (fun _ => ?_))
   | exact ih0 _ _ _ _ _ _ _ _
   | exact impl_Trie_kids.mono _ _ _
   | exact impl_gameAt.mono _ _ _ _
   | exact impl_game_isGood.mono _ _ _ _ _
   | exact LeO.none _
   | refine LeO.ite ?_ ?_
   | refine LeO.bind ?_ (fun _ => ?_)
set_option maxHeartbeats 8000000 in
set_option maxRecDepth 100000 in
theorem impl_WinningLetters.calls (k : Nat) (A0_0 : Option Addr) (c0_0 : Nat) (l0_0 : List (S67)) (a1 : Int) (a2 : Int) (r1 : ByteArray) (r2 : Bool) (w : World) (hr0_0 : Kd.C k67 w A0_0 l0_0.length l0_0) (hc0_0 : l0_0.length ≤ c0_0) (h : impl_WinningLetters.f k l0_0 a1 a2 = some (r1, r2)) :
  Calls Try.prog 27 #[.agg #[.slice A0_0 l0_0.length c0_0], .int .i64 a1, .int .i64 a2] w fun e w' => e = .returned (.tuple #[.string r1, .bool r2]) ∧ Below w.heap.size w w' := by
 have hu30 := Try.underlying30; have HR0_0 := Aside0.mk hr0_0; have HC0_0 := Aside0.mk hc0_0; clear hr0_0 hc0_0; have HB := Aside0.mk (Below.refl w.heap.size w)
 have H : ((impl_gameAt.f k l0_0 a1 a2).bind fun bt590 => (if bt590.1 = true then ((impl_Trie_kids.f k l0_0 a1).bind fun t596 => (impl_WinningLetters.l0 k (⟨#[]⟩ : ByteArray) t596 (t596.length : Int) 0 l0_0 l0_0 bt590.2.1 bt590.2.2)) else (some ((⟨#[]⟩ : ByteArray), false)))) = some (r1, r2) := h
 clear h; replace H := Option.bind_eq_some_iff.mp H
 obtain ⟨⟨t590, t592, t593⟩, A40, H⟩ := H
 replace H : (if t590 = true then ((impl_Trie_kids.f k l0_0 a1).bind fun t596 => (impl_WinningLetters.l0 k (⟨#[]⟩ : ByteArray) t596 (t596.length : Int) 0 l0_0 l0_0 t592 t593)) else (some ((⟨#[]⟩ : ByteArray), false))) = some (r1, r2) := H
 have A4 := Aside0.mk A40; clear A40
 by_cases c5 : t590 = true
 ·subst c5
  have H1 : ((impl_Trie_kids.f k l0_0 a1).bind fun t596 => (impl_WinningLetters.l0 k (⟨#[]⟩ : ByteArray) t596 (t596.length : Int) 0 l0_0 l0_0 t592 t593)) = some (r1, r2) := by rw [if_pos rfl] at H; exact H
  clear H; have H := H1; clear H1; replace H := Option.bind_eq_some_iff.mp H
  obtain ⟨t596, A60, H⟩ := H
  replace H : (impl_WinningLetters.l0 k (⟨#[]⟩ : ByteArray) t596 (t596.length : Int) 0 l0_0 l0_0 t592 t593) = some (r1, r2) := H
  have A6 := Aside0.mk A60; clear A60
  have H' := Aside0.mk H
  clear H
  go_enter Try.func27, Try.ntmps27
  go_wp2_with (first | ((with_reducible refine gate_dst (N := 3) rfl ?_); refine box_event ?hg (N := 3) ?hd (cs := #[.slice A0_0 l0_0.length c0_0]) (t := 30) ?hr ?_; (case hd => rfl); (case hg => rfl); (case hr => exact ax31); intro gb589 hg w7 hbox hb; have n0_ := Aside0.mk (below_step ax32 hb); have n1_ := Aside0.mk (hbox); have n2_ := Aside0.mk ((ax33 : w.heap.size ≤ gb589)); have n3_ := Aside0.mk ((ax33 : w.heap.size ≤ gb589)); clear HB; have HB := n0_; have BK589 := n1_; have GW589 := n2_; have GE589 := n3_; clear n0_ n1_ n2_ n3_; clear hb hbox hg; have hcz8_0 : w7.cell? ⟨gb589, 0, none⟩ = some (.slice A0_0 l0_0.length c0_0) := (blk_cell BK589.out 0).trans rfl; have hfz8_0 := blk_frozen BK589.out 0) | ((with_reducible refine gate_callee (f := 51) rfl ?_); refine goesL_ (some 17) rfl rfl Try.func51 (by kernel_rfl) rfl #[.agg #[.slice A0_0 l0_0.length c0_0], .int .i64 a1, .int .i64 a2] rfl ax34 ?_; (with_reducible refine (impl_gameAt.calls k _ _ l0_0 a1 a2 true t592 t593 _ ?side1 ?side2 A4.out).mono ?_); (case side1 => exact ax35); (case side2 => exact ax36); (rintro e w9 ⟨hb, hno_, hyes_⟩; obtain ⟨gb591, v594, rfl, hbox, hgb, ho0⟩ := hyes_ rfl; clear hno_); refine ⟨_, rfl, ?_⟩; have n0_ := Aside0.mk (Kd.R_lower ho0 (below_size ax375)); have n1_ := Aside0.mk (blk_below (g := gb589) (o := .cells #[.slice A0_0 l0_0.length c0_0] 30 (0, 0)) ax376 hb); have n2_ := Aside0.mk (below_step ax375 hb); have n3_ := Aside0.mk (hbox); have n4_ := Aside0.mk ((Nat.le_trans (below_size ax375) hgb : w.heap.size ≤ gb591)); have n5_ := Aside0.mk ((Nat.le_trans (below_size ax375) hgb : w.heap.size ≤ gb591)); have n6_ := Aside0.mk ((Nat.ne_of_lt (Nat.lt_of_lt_of_le (blk_lt (g := gb589) (o := .cells #[.slice A0_0 l0_0.length c0_0] 30 (0, 0)) ax376) hgb) : gb589 ≠ gb591)); have n7_ := Aside0.mk ((Nat.ne_of_gt (Nat.lt_of_lt_of_le (blk_lt (g := gb589) (o := .cells #[.slice A0_0 l0_0.length c0_0] 30 (0, 0)) ax376) hgb) : gb591 ≠ gb589)); clear BK589; clear HB; have HO595 := n0_; have BK589 := n1_; have HB := n2_; have BK591 := n3_; have GW591 := n4_; have GE591 := n5_; have NB589_591 := n6_; have NB591_589 := n7_; clear n0_ n1_ n2_ n3_ n4_ n5_ n6_ n7_; (try clear hb); (try clear hbox); (try clear hgb); (try clear ho0); have hnb10 := NB589_591.out; have hnc10 := NB591_589.out; have hcz11_0 : w9.cell? ⟨gb589, 0, none⟩ = some (.slice A0_0 l0_0.length c0_0) := (blk_cell BK589.out 0).trans rfl; have hfz11_0 := blk_frozen BK589.out 0) | ((with_reducible refine gate_callee (f := 59) rfl ?_); refine goesL_ (some 24) rfl rfl Try.func59 (by kernel_rfl) rfl #[.agg #[.slice A0_0 l0_0.length c0_0], .int .i64 a1] rfl ax34 ?_; (with_reducible refine (impl_Trie_kids.calls k _ _ l0_0 a1 t596 _ ?side1 ?side2 A6.out).mono ?_); (case side1 => exact ax35); (case side2 => exact ax36); rintro e w12 ⟨v597, rfl, ho0, hb⟩; refine ⟨_, rfl, ?_⟩; have n0_ := Aside0.mk (Kd.R_below (by (with_reducible repeat (first | apply Kd.R_alloc | apply Kd.R_drewN | apply Kd.R_drew)); exact HO595.out) hb); have n1_ := Aside0.mk (Kd.R_lower ho0 (below_size ax377)); have n2_ := Aside0.mk (blk_below (g := gb589) (o := .cells #[.slice A0_0 l0_0.length c0_0] 30 (0, 0)) ax376 hb); have n3_ := Aside0.mk (blk_below (g := gb591) (o := .cells #[.slice A0_0 l0_0.length c0_0, .int .i64 t592, v594] 69 (0, 0)) ax378 hb); have n4_ := Aside0.mk (below_step ax377 hb); clear HO595; clear BK589; clear BK591; clear HB; have HO595 := n0_; have HO598 := n1_; have BK589 := n2_; have BK591 := n3_; have HB := n4_; clear n0_ n1_ n2_ n3_ n4_; (try clear hb); (try clear hb2); (try clear hk); (try clear hi); (try clear ho0); obtain ⟨Ao13, co13, eo13⟩ := Kd.R_slice HO598.out; subst eo13))
  go_loopg [10, 26] k (fun kq v10 v26 w' => ∃ (x10_1 : ByteArray) (x26_1 : Int), v10 = .string x10_1 ∧ v26 = .int .i64 x26_1 ∧ Aside0 (impl_WinningLetters.l0 kq x10_1 t596 (t596.length : Int) x26_1 l0_0 l0_0 t592 t593 = some (r1, r2)) ∧ Aside0 (kq ≤ k) ∧ Aside0 (Kd.R (Kd.int .i64) 3 w' w.heap.size (fun _ => True) (.slice Ao13 t596.length co13) t596) ∧ Aside0 (Kd.R Kd.string 9 w' w.heap.size (fun _ => True) v594 t593) ∧ Aside0 (w'.heap[gb589]? = some (.cells #[(.slice A0_0 l0_0.length c0_0)] 30 (0, 0))) ∧ Aside0 (w'.heap[gb591]? = some (.cells #[(.slice A0_0 l0_0.length c0_0), .int .i64 t592, v594] 69 (0, 0))) ∧ Aside0 (Below w.heap.size w w'))
  case atStart => exact ⟨((⟨#[]⟩ : ByteArray)), (0), ax37, ax37, H', ⟨Nat.le_refl _⟩, ⟨by (with_reducible repeat (first | apply Kd.R_alloc | apply Kd.R_drewN | apply Kd.R_drew)); exact HO598.out⟩, ⟨by (with_reducible repeat (first | apply Kd.R_alloc | apply Kd.R_drewN | apply Kd.R_drew)); exact HO595.out⟩, ⟨by (with_reducible repeat (first | refine blk_drewN ?_ _ | refine blk_drew ?_ | refine blk_alloc ?_ _)); exact BK589.out⟩, ⟨by (with_reducible repeat (first | refine blk_drewN ?_ _ | refine blk_drew ?_ | refine blk_alloc ?_ _)); exact BK591.out⟩, ⟨by repeat (first | (with_reducible first | exact HB.out | apply below_alloc | apply pw_below_drewN | apply below_drew1 | refine below_set ?_ GE589.out | refine below_set ?_ GE591.out) | exact HB.out)⟩⟩
  case round =>
   clear H'
   try clear c1
   try clear c2
   try clear p2
   try clear c5
   try clear c10
   try clear hcz11_0
   try clear hcz8_0
   try clear hfz11_0
   try clear hfz8_0
   obtain ⟨x10_1, x26_1, rfl, rfl, HA, HK1, HO_24, HO_592002, BK589, BK591, HB⟩ := hrel
   cases gk with
   | zero => exact absurd HA.out (by simp [impl_WinningLetters.l0])
   | succ k1 =>
    have H := HA.out; clear HA
    simp only [impl_WinningLetters.l0] at H
    by_cases c14 : x26_1 < (t596.length : Int)
    ·rw [if_pos c14] at H
     have c14b0 : decide (x26_1 < (t596.length : Int)) = true := decide_eq_true c14
     clear c14
     by_cases c15 : 0 ≤ x26_1
     ·rw [if_pos c15] at H
      have c15b0 : decide (0 ≤ x26_1) = true := decide_eq_true c15
      clear c15
      by_cases c16 : x26_1 < (t596.length : Int)
      ·rw [if_pos c16] at H
       have c16b0 : decide (x26_1 < (t596.length : Int)) = true := decide_eq_true c16
       clear c16; replace H := Option.bind_eq_some_iff.mp H
       obtain ⟨t600, A170, H⟩ := H
       replace H : (if t600 = true then (if 0 ≤ (rd t596 x26_1) then (if (rd t596 x26_1) < (l0_0.length : Int) then ((impl_letter.f ((rd_T67 l0_0 (rd t596 x26_1)).f0)).bind fun t602 => (if x10_1.size + t602.size ≤ 9223372036854775807 then (impl_WinningLetters.l0 k1 (x10_1 ++ t602) t596 (t596.length : Int) (wrap64 (x26_1 + 1)) l0_0 l0_0 t592 t593) else (none))) else (none)) else (none)) else (impl_WinningLetters.l0 k1 x10_1 t596 (t596.length : Int) (wrap64 (x26_1 + 1)) l0_0 l0_0 t592 t593)) = some (r1, r2) := H
       have A17 := Aside0.mk A170; clear A170
       by_cases c18 : t600 = true
       ·subst c18
        have H1 : (if 0 ≤ (rd t596 x26_1) then (if (rd t596 x26_1) < (l0_0.length : Int) then ((impl_letter.f ((rd_T67 l0_0 (rd t596 x26_1)).f0)).bind fun t602 => (if x10_1.size + t602.size ≤ 9223372036854775807 then (impl_WinningLetters.l0 k1 (x10_1 ++ t602) t596 (t596.length : Int) (wrap64 (x26_1 + 1)) l0_0 l0_0 t592 t593) else (none))) else (none)) else (none)) = some (r1, r2) := by rw [if_pos rfl] at H; exact H
        clear H; have H := H1; clear H1
        by_cases c19 : 0 ≤ (rd t596 x26_1)
        ·rw [if_pos c19] at H
         have c19b0 : decide (0 ≤ (rd t596 x26_1)) = true := decide_eq_true c19
         clear c19
         by_cases c20 : (rd t596 x26_1) < (l0_0.length : Int)
         ·rw [if_pos c20] at H
          have c20b0 : decide ((rd t596 x26_1) < (l0_0.length : Int)) = true := decide_eq_true c20
          clear c20; replace H := Option.bind_eq_some_iff.mp H
          obtain ⟨t602, A210, H⟩ := H
          replace H : (if x10_1.size + t602.size ≤ 9223372036854775807 then (impl_WinningLetters.l0 k1 (x10_1 ++ t602) t596 (t596.length : Int) (wrap64 (x26_1 + 1)) l0_0 l0_0 t592 t593) else (none)) = some (r1, r2) := H
          have A21 := Aside0.mk A210; clear A210
          by_cases c22 : x10_1.size + t602.size ≤ 9223372036854775807
          ·rw [if_pos c22] at H
           have c22b0 := eq_true c22
           have c22b1 : decide (x10_1.size + t602.size ≤ 9223372036854775807) = true := decide_eq_true c22
           try have c22b2 : (9223372036854775807 < x10_1.size + t602.size) = False := eq_false (Nat.not_lt.2 c22)
           clear c22
           obtain ⟨js23, hjs23⟩ : ∃ j_ : ByteArray, (x10_1 ++ t602) = j_ := ⟨_, rfl⟩
           replace H : (impl_WinningLetters.l0 k1 js23 t596 (t596.length : Int) (wrap64 (x26_1 + 1)) l0_0 l0_0 t592 t593) = some (r1, r2) := by first | (rw [hjs23] at H; exact H) | (simp only [hjs23] at H ⊢; exact H)
           have H' := Aside0.mk H
           clear H
           have p599 : 0 ≤ (x26_1 : Int) := of_decide_eq_true ax38
           have q599 : x26_1 < (t596.length : Int) := of_decide_eq_true ax38
           obtain ⟨ad599, e599, hx599_0⟩ := Kd.at_int (Kd.R_reads' HO_24.out).2.2 x26_1 p599 q599
           cases e599; replace p599 := eq_true p599; replace q599 := eq_true q599
           obtain ⟨Ao24, co24, eo24⟩ := Kd.R_slice HO_592002.out
           subst eo24
           go_wp2_with (first | ((with_reducible refine gate_callee (f := 60) rfl ?_); refine goesL_ (some 32) rfl rfl Try.func60 (by kernel_rfl) rfl #[.pointer (some ⟨gb591, 0, none⟩), .int .i64 (rd t596 x26_1)] rfl ax34 ?_; (with_reducible refine (impl_game_isGood.calls k1 gb591 A0_0 c0_0 l0_0 t592 Ao24 co24 t593 (rd t596 x26_1) true _ ?side1 ?side2 ?side3 ?side4 ?side5 A17.out).mono ?_); (case side1 => exact ax35); (case side2 => exact ax36); (case side3 => exact ax379); (case side4 => exact (Kd.R_reads' HO_592002.out).2.1); (case side5 => exact ax378); rintro e w25 ⟨rfl, hb⟩; refine ⟨_, rfl, ?_⟩; have n0_ := Aside0.mk (Kd.R_below ax380 hb); have n1_ := Aside0.mk (Kd.R_below ax381 hb); have n2_ := Aside0.mk (blk_below (g := gb589) (o := .cells #[.slice A0_0 l0_0.length c0_0] 30 (0, 0)) ax376 hb); have n3_ := Aside0.mk (blk_below (g := gb591) (o := .cells #[.slice A0_0 l0_0.length c0_0, .int .i64 t592, .slice Ao24 t593.length co24] 69 (0, 0)) ax378 hb); have n4_ := Aside0.mk (below_step ax377 hb); clear HO_24; clear HO_592002; clear BK589; clear BK591; clear HB; have HO_24 := n0_; have HO_592002 := n1_; have BK589 := n2_; have BK591 := n3_; have HB := n4_; clear n0_ n1_ n2_ n3_ n4_; (try clear hb); (try clear hb2); (try clear hk); (try clear hi); have hnb26 := NB589_591.out; have hnc26 := NB591_589.out; have hcz27_0 : w25.cell? ⟨gb589, 0, none⟩ = some (.slice A0_0 l0_0.length c0_0) := (blk_cell BK589.out 0).trans rfl; have hfz27_0 := blk_frozen BK589.out 0; have p601 : 0 ≤ ((rd t596 x26_1) : Int) := of_decide_eq_true ax38; have q601 : (rd t596 x26_1) < (l0_0.length : Int) := of_decide_eq_true ax38; obtain ⟨ad601, e601, hx601_0, hx601_1, hx601_2⟩ := at_T67 HR0_0.out (rd t596 x26_1) p601 q601; cases e601; replace hx601_0 := (HB.out.cell (World.block_lt_of_cell? w _ hx601_0)).trans hx601_0; replace hx601_1 := (HB.out.cell (World.block_lt_of_cell? w _ hx601_1)).trans hx601_1; replace hx601_2 := (HB.out.cell (World.block_lt_of_cell? w _ hx601_2)).trans hx601_2; replace p601 := eq_true p601; replace q601 := eq_true q601) | ((with_reducible refine gate_callee (f := 61) rfl ?_); refine goesL_ (some 40) rfl rfl Try.func61 (by kernel_rfl) rfl #[.int .i64 ((rd_T67 l0_0 (rd t596 x26_1)).f0)] rfl ax34 ?_; (with_reducible refine (impl_letter.calls ((rd_T67 l0_0 (rd t596 x26_1)).f0) t602 _ A21.out).mono ?_); rintro e w28 ⟨rfl, hb⟩; refine ⟨_, rfl, ?_⟩; have n0_ := Aside0.mk (Kd.R_below ax380 hb); have n1_ := Aside0.mk (Kd.R_below ax381 hb); have n2_ := Aside0.mk (blk_below (g := gb589) (o := .cells #[.slice (some ad601) l0_0.length c0_0] 30 (0, 0)) ax376 hb); have n3_ := Aside0.mk (blk_below (g := gb591) (o := .cells #[.slice (some ad601) l0_0.length c0_0, .int .i64 t592, .slice Ao24 t593.length co24] 69 (0, 0)) ax378 hb); have n4_ := Aside0.mk (below_step ax377 hb); clear HO_24; clear HO_592002; clear BK589; clear BK591; clear HB; have HO_24 := n0_; have HO_592002 := n1_; have BK589 := n2_; have BK591 := n3_; have HB := n4_; clear n0_ n1_ n2_ n3_ n4_; (try clear hb); (try clear hb2); (try clear hk); (try clear hi)))
           go_roundg k1
           case measure => have := HK1.out; omega
           case rel => exact ⟨(js23), (wrap64 (x26_1 + 1)), (by first | rfl | (simp; done) | (simp only [← hjs23] <;> (first | rfl | simp)) | (simp [*]; done)), ax37, H', ⟨by have := HK1.out; omega⟩, ⟨by (with_reducible repeat (first | apply Kd.R_alloc | apply Kd.R_drewN | apply Kd.R_drew)); exact HO_24.out⟩, ⟨by (with_reducible repeat (first | apply Kd.R_alloc | apply Kd.R_drewN | apply Kd.R_drew)); exact HO_592002.out⟩, ⟨by (with_reducible repeat (first | refine blk_drewN ?_ _ | refine blk_drew ?_ | refine blk_alloc ?_ _)); exact BK589.out⟩, ⟨by (with_reducible repeat (first | refine blk_drewN ?_ _ | refine blk_drew ?_ | refine blk_alloc ?_ _)); exact BK591.out⟩, ⟨by repeat (first | (with_reducible first | exact HB.out | apply below_alloc | apply pw_below_drewN | apply below_drew1 | refine below_set ?_ GE589.out | refine below_set ?_ GE591.out) | exact HB.out)⟩⟩
          ·rw [if_neg c22] at H
           exact absurd H (by simp)
         ·exact ax16
        ·rw [if_neg c19] at H
         exact absurd H (by simp)
       ·replace c18 := Bool.eq_false_iff.mpr c18
        subst c18
        have H1 : (impl_WinningLetters.l0 k1 x10_1 t596 (t596.length : Int) (wrap64 (x26_1 + 1)) l0_0 l0_0 t592 t593) = some (r1, r2) := by rw [if_neg (show ¬ (false = true) by decide)] at H; exact H
        clear H; have H := H1; clear H1
        have H' := Aside0.mk H
        clear H
        have p599 : 0 ≤ (x26_1 : Int) := of_decide_eq_true ax38
        have q599 : x26_1 < (t596.length : Int) := of_decide_eq_true ax38
        obtain ⟨ad599, e599, hx599_0⟩ := Kd.at_int (Kd.R_reads' HO_24.out).2.2 x26_1 p599 q599
        cases e599; replace p599 := eq_true p599; replace q599 := eq_true q599
        obtain ⟨Ao29, co29, eo29⟩ := Kd.R_slice HO_592002.out
        subst eo29
        go_wp2_with (first | ((with_reducible refine gate_callee (f := 60) rfl ?_); refine goesL_ (some 32) rfl rfl Try.func60 (by kernel_rfl) rfl #[.pointer (some ⟨gb591, 0, none⟩), .int .i64 (rd t596 x26_1)] rfl ax34 ?_; (with_reducible refine (impl_game_isGood.calls k1 gb591 A0_0 c0_0 l0_0 t592 Ao29 co29 t593 (rd t596 x26_1) false _ ?side1 ?side2 ?side3 ?side4 ?side5 A17.out).mono ?_); (case side1 => exact ax35); (case side2 => exact ax36); (case side3 => exact ax379); (case side4 => exact (Kd.R_reads' HO_592002.out).2.1); (case side5 => exact ax378); rintro e w30 ⟨rfl, hb⟩; refine ⟨_, rfl, ?_⟩; have n0_ := Aside0.mk (Kd.R_below ax380 hb); have n1_ := Aside0.mk (Kd.R_below ax381 hb); have n2_ := Aside0.mk (blk_below (g := gb589) (o := .cells #[.slice A0_0 l0_0.length c0_0] 30 (0, 0)) ax376 hb); have n3_ := Aside0.mk (blk_below (g := gb591) (o := .cells #[.slice A0_0 l0_0.length c0_0, .int .i64 t592, .slice Ao29 t593.length co29] 69 (0, 0)) ax378 hb); have n4_ := Aside0.mk (below_step ax377 hb); clear HO_24; clear HO_592002; clear BK589; clear BK591; clear HB; have HO_24 := n0_; have HO_592002 := n1_; have BK589 := n2_; have BK591 := n3_; have HB := n4_; clear n0_ n1_ n2_ n3_ n4_; (try clear hb); (try clear hb2); (try clear hk); (try clear hi)))
        go_roundg k1
        case measure => have := HK1.out; omega
        case rel => exact ⟨(x10_1), (wrap64 (x26_1 + 1)), ax37, ax37, H', ⟨by have := HK1.out; omega⟩, ⟨by (with_reducible repeat (first | apply Kd.R_alloc | apply Kd.R_drewN | apply Kd.R_drew)); exact HO_24.out⟩, ⟨by (with_reducible repeat (first | apply Kd.R_alloc | apply Kd.R_drewN | apply Kd.R_drew)); exact HO_592002.out⟩, ⟨by (with_reducible repeat (first | refine blk_drewN ?_ _ | refine blk_drew ?_ | refine blk_alloc ?_ _)); exact BK589.out⟩, ⟨by (with_reducible repeat (first | refine blk_drewN ?_ _ | refine blk_drew ?_ | refine blk_alloc ?_ _)); exact BK591.out⟩, ⟨by repeat (first | (with_reducible first | exact HB.out | apply below_alloc | apply pw_below_drewN | apply below_drew1 | refine below_set ?_ GE589.out | refine below_set ?_ GE591.out) | exact HB.out)⟩⟩
      ·rw [if_neg c16] at H
       exact absurd H (by simp)
     ·exact ax13
    ·rw [if_neg c14] at H
     have c14b0 : decide (x26_1 < (t596.length : Int)) = false := decide_eq_false c14
     clear c14
     simp only [Option.some.injEq, Prod.mk.injEq] at H
     obtain ⟨rfl, rfl⟩ := H
     go_wp2
     go_ret2
     exact ⟨by first | rfl | (simp [errW_none, errW_some] <;> rfl) | (simp [*, errW_none, errW_some] <;> rfl), by repeat (first | (with_reducible first | exact HB.out | apply below_alloc | apply pw_below_drewN | apply below_drew1 | refine below_set ?_ GE589.out | refine below_set ?_ GE591.out) | exact HB.out)⟩
 ·replace c5 := Bool.eq_false_iff.mpr c5
  subst c5
  have H1 : (some ((⟨#[]⟩ : ByteArray), false)) = some (r1, r2) := by rw [if_neg (show ¬ (false = true) by decide)] at H; exact H
  clear H; have H := H1; clear H1
  simp only [Option.some.injEq, Prod.mk.injEq] at H
  obtain ⟨rfl, rfl⟩ := H
  go_enter Try.func27, Try.ntmps27
  go_wp2_with (first | ((with_reducible refine gate_dst (N := 3) rfl ?_); refine box_event ?hg (N := 3) ?hd (cs := #[.slice A0_0 l0_0.length c0_0]) (t := 30) ?hr ?_; (case hd => rfl); (case hg => rfl); (case hr => exact ax31); intro gb589 hg w31 hbox hb; have n0_ := Aside0.mk (below_step ax32 hb); have n1_ := Aside0.mk (hbox); have n2_ := Aside0.mk ((ax33 : w.heap.size ≤ gb589)); have n3_ := Aside0.mk ((ax33 : w.heap.size ≤ gb589)); clear HB; have HB := n0_; have BK589 := n1_; have GW589 := n2_; have GE589 := n3_; clear n0_ n1_ n2_ n3_; clear hb hbox hg; have hcz32_0 : w31.cell? ⟨gb589, 0, none⟩ = some (.slice A0_0 l0_0.length c0_0) := (blk_cell BK589.out 0).trans rfl; have hfz32_0 := blk_frozen BK589.out 0) | ((with_reducible refine gate_callee (f := 51) rfl ?_); refine goesL_ (some 17) rfl rfl Try.func51 (by kernel_rfl) rfl #[.agg #[.slice A0_0 l0_0.length c0_0], .int .i64 a1, .int .i64 a2] rfl ax34 ?_; (with_reducible refine (impl_gameAt.calls k _ _ l0_0 a1 a2 false t592 t593 _ ?side1 ?side2 A4.out).mono ?_); (case side1 => exact ax35); (case side2 => exact ax36); (rintro e w33 ⟨hb, hno_, hyes_⟩; obtain rfl := hno_ rfl; clear hyes_); refine ⟨_, rfl, ?_⟩; have n0_ := Aside0.mk (blk_below (g := gb589) (o := .cells #[.slice A0_0 l0_0.length c0_0] 30 (0, 0)) ax376 hb); have n1_ := Aside0.mk (below_step ax375 hb); clear BK589; clear HB; have BK589 := n0_; have HB := n1_; clear n0_ n1_; (try clear hb); (try clear hb2); (try clear hk); (try clear hi); (try clear ho0)))
  go_ret2
  exact ⟨by first | rfl | (simp [errW_none, errW_some] <;> rfl) | (simp [*, errW_none, errW_some] <;> rfl), by repeat (first | (with_reducible first | exact HB.out | apply below_alloc | apply pw_below_drewN | apply below_drew1 | refine below_set ?_ GE589.out) | exact HB.out)⟩

/-! ### laws_FnExactWinningLetters: function 8 -/
def laws_FnExactWinningLetters.j0 : Nat → Bool → List (S80) → List (S67) → Option (Bool)
 | 0, _, _, _ => none
 | k + 1, x42, x604000, x614000 => if x42 = true then (some false) else ((laws_toTrie.f k x604000).bind fun t616 => ((laws_eqTrie.f k x614000 t616).bind fun t619 => (if t619 = true then (some true) else (some false))))
def laws_FnExactWinningLetters.f (k : Nat) (l0_0 : List (S80)) (a1 : Int) (a2 : Int) : Option (Bool) := (laws_szTrie.f l0_0 1048576).bind fun t604 => (if t604 < 0 then (some true) else ((laws_toTrie.f k l0_0).bind fun t605 => ((spec_WinningLetters.f k t605 a1 a2).bind fun bt608 => ((laws_toTrie.f k l0_0).bind fun t610 => ((impl_WinningLetters.f k t610 a1 a2).bind fun bt614 => (if bt614.1.toList = bt608.1.toList then (laws_FnExactWinningLetters.j0 k (bt614.2 != bt608.2) l0_0 t610) else (laws_FnExactWinningLetters.j0 k true l0_0 t610)))))))
theorem laws_FnExactWinningLetters.mono_l : ∀ k, (∀ y0 y1 y2, LeO (laws_FnExactWinningLetters.j0 k y0 y1 y2) (laws_FnExactWinningLetters.j0 (k + 1) y0 y1 y2))
 | 0 => fun _ _ _ r h => by simp [laws_FnExactWinningLetters.j0] at h
 | k + 1 => by
  have ih0 := laws_FnExactWinningLetters.mono_l k
  ·intro y0 y1 y2
   unfold laws_FnExactWinningLetters.j0
   repeat' first
   | (with_reducible exact ih0 _ _ _)
   | (with_reducible exact impl_WinningLetters.mono _ _ _ _)
   | (with_reducible exact laws_eqTrie.mono _ _ _)
   | (with_reducible exact laws_toTrie.mono _ _)
   | (with_reducible exact spec_WinningLetters.mono _ _ _ _)
   | (with_reducible exact LeO.refl _)
   | (with_reducible exact LeO.none _)
   | (with_reducible refine LeO.ite ?_ ?_)
   | (with_reducible refine LeO.bind ?_ (fun _ => ?_))
   | exact ih0 _ _ _
   | exact impl_WinningLetters.mono _ _ _ _
   | exact laws_eqTrie.mono _ _ _
   | exact laws_toTrie.mono _ _
   | exact spec_WinningLetters.mono _ _ _ _
   | exact LeO.none _
   | refine LeO.ite ?_ ?_
   | refine LeO.bind ?_ (fun _ => ?_)
theorem laws_FnExactWinningLetters.mono : ∀ a0 a1 a2 k, LeO (laws_FnExactWinningLetters.f k a0 a1 a2) (laws_FnExactWinningLetters.f (k + 1) a0 a1 a2) := by
 intro a0 a1 a2 k
 have ih0 := laws_FnExactWinningLetters.mono_l k
 unfold laws_FnExactWinningLetters.f
 repeat' first
   | (with_reducible exact ih0 _ _ _)
   | (with_reducible exact impl_WinningLetters.mono _ _ _ _)
   | (with_reducible exact laws_eqTrie.mono _ _ _)
   | (with_reducible exact laws_toTrie.mono _ _)
   | (with_reducible exact spec_WinningLetters.mono _ _ _ _)
   | (with_reducible exact LeO.refl _)
   | (with_reducible exact LeO.none _)
   | (with_reducible refine LeO.ite ?_ ?_)
   | (with_reducible refine LeO.bind ?_ (fun _ => ?_))
   | exact ih0 _ _ _
   | exact impl_WinningLetters.mono _ _ _ _
   | exact laws_eqTrie.mono _ _ _
   | exact laws_toTrie.mono _ _
   | exact spec_WinningLetters.mono _ _ _ _
   | exact LeO.none _
   | refine LeO.ite ?_ ?_
   | refine LeO.bind ?_ (fun _ => ?_)
set_option maxHeartbeats 8000000 in
set_option maxRecDepth 100000 in
theorem laws_FnExactWinningLetters.calls (k : Nat) (A0_0 : Option Addr) (c0_0 : Nat) (l0_0 : List (S80)) (a1 : Int) (a2 : Int) (r : Bool) (w : World) (hr0_0 : Kd.C k80 w A0_0 l0_0.length l0_0) (hc0_0 : l0_0.length ≤ c0_0) (h : laws_FnExactWinningLetters.f k l0_0 a1 a2 = some r) (hr_ : r = true) :
  Calls Try.prog 8 #[.agg #[.slice A0_0 l0_0.length c0_0], .int .i64 a1, .int .i64 a2] w fun e w' => e = .returned (.bool r) ∧ Below w.heap.size w w' := by
 have hu24 := Try.underlying24; have hu30 := Try.underlying30; have HR0_0 := Aside0.mk hr0_0; have HC0_0 := Aside0.mk hc0_0; clear hr0_0 hc0_0; have HB := Aside0.mk (Below.refl w.heap.size w); have HRT := Aside0.mk hr_; clear hr_
 have H : ((laws_szTrie.f l0_0 1048576).bind fun t604 => (if t604 < 0 then (some true) else ((laws_toTrie.f k l0_0).bind fun t605 => ((spec_WinningLetters.f k t605 a1 a2).bind fun bt608 => ((laws_toTrie.f k l0_0).bind fun t610 => ((impl_WinningLetters.f k t610 a1 a2).bind fun bt614 => (if bt614.1.toList = bt608.1.toList then (laws_FnExactWinningLetters.j0 k (bt614.2 != bt608.2) l0_0 t610) else (laws_FnExactWinningLetters.j0 k true l0_0 t610)))))))) = some r := h
 clear h; replace H := Option.bind_eq_some_iff.mp H
 obtain ⟨t604, A40, H⟩ := H
 replace H : (if t604 < 0 then (some true) else ((laws_toTrie.f k l0_0).bind fun t605 => ((spec_WinningLetters.f k t605 a1 a2).bind fun bt608 => ((laws_toTrie.f k l0_0).bind fun t610 => ((impl_WinningLetters.f k t610 a1 a2).bind fun bt614 => (if bt614.1.toList = bt608.1.toList then (laws_FnExactWinningLetters.j0 k (bt614.2 != bt608.2) l0_0 t610) else (laws_FnExactWinningLetters.j0 k true l0_0 t610))))))) = some r := H
 have A4 := Aside0.mk A40; clear A40
 by_cases c5 : t604 < 0
 ·rw [if_pos c5] at H
  have c5b0 : decide (t604 < 0) = true := decide_eq_true c5
  clear c5
  obtain rfl := Option.some.inj H
  go_enter Try.func8, Try.ntmps8
  go_wp2_with (first | ((with_reducible refine gate_dst (N := 3) rfl ?_); refine box_event ?hg (N := 3) ?hd (cs := #[.slice A0_0 l0_0.length c0_0]) (t := 24) ?hr ?_; (case hd => rfl); (case hg => rfl); (case hr => exact ax31); intro gb603 hg w6 hbox hb; have n0_ := Aside0.mk (below_step ax32 hb); have n1_ := Aside0.mk (hbox); have n2_ := Aside0.mk ((ax33 : w.heap.size ≤ gb603)); have n3_ := Aside0.mk ((ax33 : w.heap.size ≤ gb603)); clear HB; have HB := n0_; have BK603 := n1_; have GW603 := n2_; have GE603 := n3_; clear n0_ n1_ n2_ n3_; clear hb hbox hg; have hcz7_0 : w6.cell? ⟨gb603, 0, none⟩ = some (.slice A0_0 l0_0.length c0_0) := (blk_cell BK603.out 0).trans rfl; have hfz7_0 := blk_frozen BK603.out 0) | ((with_reducible refine gate_callee (f := 13) rfl ?_); refine goesL_ (some 15) rfl rfl Try.func13 (by kernel_rfl) rfl #[.agg #[.slice A0_0 l0_0.length c0_0], .int .i64 1048576] rfl ax34 ?_; (with_reducible refine (laws_szTrie.calls _ _ l0_0 1048576 t604 _ ?side1 ?side2 A4.out).mono ?_); (case side1 => exact ax35); (case side2 => exact ax36); rintro e w8 ⟨rfl, hb⟩; refine ⟨_, rfl, ?_⟩; have n0_ := Aside0.mk (blk_below (g := gb603) (o := .cells #[.slice A0_0 l0_0.length c0_0] 24 (0, 0)) ax382 hb); have n1_ := Aside0.mk (below_step ax383 hb); clear BK603; clear HB; have BK603 := n0_; have HB := n1_; clear n0_ n1_; (try clear hb); (try clear hb2); (try clear hk); (try clear hi)))
  go_ret
  exact ⟨by first | rfl | (simp [errW_none, errW_some] <;> rfl) | (simp [*, errW_none, errW_some] <;> rfl), by repeat (first | (with_reducible first | exact HB.out | apply below_alloc | apply pw_below_drewN | apply below_drew1 | refine below_set ?_ GE603.out) | exact HB.out)⟩
 ·rw [if_neg c5] at H
  have c5b0 : decide (t604 < 0) = false := decide_eq_false c5
  clear c5; replace H := Option.bind_eq_some_iff.mp H
  obtain ⟨t605, A90, H⟩ := H
  replace H : ((spec_WinningLetters.f k t605 a1 a2).bind fun bt608 => ((laws_toTrie.f k l0_0).bind fun t610 => ((impl_WinningLetters.f k t610 a1 a2).bind fun bt614 => (if bt614.1.toList = bt608.1.toList then (laws_FnExactWinningLetters.j0 k (bt614.2 != bt608.2) l0_0 t610) else (laws_FnExactWinningLetters.j0 k true l0_0 t610))))) = some r := H
  have A9 := Aside0.mk A90; clear A90; replace H := Option.bind_eq_some_iff.mp H
  obtain ⟨⟨t608, t609⟩, A100, H⟩ := H
  replace H : ((laws_toTrie.f k l0_0).bind fun t610 => ((impl_WinningLetters.f k t610 a1 a2).bind fun bt614 => (if bt614.1.toList = t608.toList then (laws_FnExactWinningLetters.j0 k (bt614.2 != t609) l0_0 t610) else (laws_FnExactWinningLetters.j0 k true l0_0 t610)))) = some r := H
  have A10 := Aside0.mk A100; clear A100; replace H := Option.bind_eq_some_iff.mp H
  obtain ⟨t610, A110, H⟩ := H
  replace H : ((impl_WinningLetters.f k t610 a1 a2).bind fun bt614 => (if bt614.1.toList = t608.toList then (laws_FnExactWinningLetters.j0 k (bt614.2 != t609) l0_0 t610) else (laws_FnExactWinningLetters.j0 k true l0_0 t610))) = some r := H
  have A11 := Aside0.mk A110; clear A110; replace H := Option.bind_eq_some_iff.mp H
  obtain ⟨⟨t614, t615⟩, A120, H⟩ := H
  replace H : (if t614.toList = t608.toList then (laws_FnExactWinningLetters.j0 k (t615 != t609) l0_0 t610) else (laws_FnExactWinningLetters.j0 k true l0_0 t610)) = some r := H
  have A12 := Aside0.mk A120; clear A120; have HC13 := Aside0.mk H; clear H
  go_enter Try.func8, Try.ntmps8
  go_upto_region 8 with (first | ((with_reducible refine gate_dst (N := 3) rfl ?_); refine box_event ?hg (N := 3) ?hd (cs := #[.slice A0_0 l0_0.length c0_0]) (t := 24) ?hr ?_; (case hd => rfl); (case hg => rfl); (case hr => exact ax31); intro gb603 hg w14 hbox hb; have n0_ := Aside0.mk (below_step ax32 hb); have n1_ := Aside0.mk (hbox); have n2_ := Aside0.mk ((ax33 : w.heap.size ≤ gb603)); have n3_ := Aside0.mk ((ax33 : w.heap.size ≤ gb603)); clear HB; have HB := n0_; have BK603 := n1_; have GW603 := n2_; have GE603 := n3_; clear n0_ n1_ n2_ n3_; clear hb hbox hg; have hcz15_0 : w14.cell? ⟨gb603, 0, none⟩ = some (.slice A0_0 l0_0.length c0_0) := (blk_cell BK603.out 0).trans rfl; have hfz15_0 := blk_frozen BK603.out 0) | ((with_reducible refine gate_callee (f := 13) rfl ?_); refine goesL_ (some 15) rfl rfl Try.func13 (by kernel_rfl) rfl #[.agg #[.slice A0_0 l0_0.length c0_0], .int .i64 1048576] rfl ax34 ?_; (with_reducible refine (laws_szTrie.calls _ _ l0_0 1048576 t604 _ ?side1 ?side2 A4.out).mono ?_); (case side1 => exact ax35); (case side2 => exact ax36); rintro e w16 ⟨rfl, hb⟩; refine ⟨_, rfl, ?_⟩; have n0_ := Aside0.mk (blk_below (g := gb603) (o := .cells #[.slice A0_0 l0_0.length c0_0] 24 (0, 0)) ax382 hb); have n1_ := Aside0.mk (below_step ax383 hb); clear BK603; clear HB; have BK603 := n0_; have HB := n1_; clear n0_ n1_; (try clear hb); (try clear hb2); (try clear hk); (try clear hi); have hcz17_0 : w16.cell? ⟨gb603, 0, none⟩ = some (.slice A0_0 l0_0.length c0_0) := (blk_cell BK603.out 0).trans rfl; have hfz17_0 := blk_frozen BK603.out 0) | ((with_reducible refine gate_callee (f := 15) rfl ?_); refine goesL_ (some 20) rfl rfl Try.func15 (by kernel_rfl) rfl #[.agg #[.slice A0_0 l0_0.length c0_0]] rfl ax34 ?_; (with_reducible refine (laws_toTrie.calls k _ _ l0_0 t605 _ ?side1 ?side2 A9.out).mono ?_); (case side1 => exact ax35); (case side2 => exact ax36); rintro e w18 ⟨v606, rfl, ho0, hb⟩; refine ⟨_, rfl, ?_⟩; have n0_ := Aside0.mk (Kd.R_lower ho0 (below_size ax383)); have n1_ := Aside0.mk (blk_below (g := gb603) (o := .cells #[.slice A0_0 l0_0.length c0_0] 24 (0, 0)) ax382 hb); have n2_ := Aside0.mk (below_step ax383 hb); clear BK603; clear HB; have HO607 := n0_; have BK603 := n1_; have HB := n2_; clear n0_ n1_ n2_; (try clear hb); (try clear hb2); (try clear hk); (try clear hi); (try clear ho0); obtain ⟨Ao19, co19, eo19⟩ := Kd.R_slice HO607.out; subst eo19) | ((with_reducible refine gate_callee (f := 26) rfl ?_); refine goesL_ (some 23) rfl rfl Try.func26 (by kernel_rfl) rfl #[.agg #[.slice Ao19 t605.length co19], .int .i64 a1, .int .i64 a2] rfl ax34 ?_; (with_reducible refine (spec_WinningLetters.calls k _ _ t605 a1 a2 t608 t609 _ ?side1 ?side2 A10.out).mono ?_); (case side1 => repeat (first | exact (Kd.R_reads' HO607.out).2.2 | (with_reducible refine Kd.C_alloc ?_ _) | (with_reducible refine Kd.C_drewN ?_ _) | (with_reducible refine Kd.C_drew ?_))); (case side2 => exact (Kd.R_reads' HO607.out).2.1); rintro e w20 ⟨rfl, hb⟩; refine ⟨_, rfl, ?_⟩; have n0_ := Aside0.mk (Kd.R_below ax384 hb); have n1_ := Aside0.mk (blk_below (g := gb603) (o := .cells #[.slice A0_0 l0_0.length c0_0] 24 (0, 0)) ax382 hb); have n2_ := Aside0.mk (below_step ax383 hb); clear HO607; clear BK603; clear HB; have HO607 := n0_; have BK603 := n1_; have HB := n2_; clear n0_ n1_ n2_; (try clear hb); (try clear hb2); (try clear hk); (try clear hi); have hcz21_0 : w20.cell? ⟨gb603, 0, none⟩ = some (.slice A0_0 l0_0.length c0_0) := (blk_cell BK603.out 0).trans rfl; have hfz21_0 := blk_frozen BK603.out 0) | ((with_reducible refine gate_callee (f := 15) rfl ?_); refine goesL_ (some 27) rfl rfl Try.func15 (by kernel_rfl) rfl #[.agg #[.slice A0_0 l0_0.length c0_0]] rfl ax34 ?_; (with_reducible refine (laws_toTrie.calls k _ _ l0_0 t610 _ ?side1 ?side2 A11.out).mono ?_); (case side1 => exact ax35); (case side2 => exact ax36); rintro e w22 ⟨v611, rfl, ho0, hb⟩; refine ⟨_, rfl, ?_⟩; have n0_ := Aside0.mk (Kd.R_elder' ax384 (Kd.R_base ho0) hb); have n1_ := Aside0.mk (Kd.R_lower (Kd.R_new' ho0 (Kd.R_lt ax384)) (below_size ax383)); have n2_ := Aside0.mk (blk_below (g := gb603) (o := .cells #[.slice A0_0 l0_0.length c0_0] 24 (0, 0)) ax382 hb); have n3_ := Aside0.mk (below_step ax383 hb); clear HO607; clear BK603; clear HB; have HO607 := n0_; have HO612 := n1_; have BK603 := n2_; have HB := n3_; clear n0_ n1_ n2_ n3_; (try clear hb); (try clear hb2); (try clear hk); (try clear hi); (try clear ho0)) | ((with_reducible refine gate_dst (N := 10) rfl ?_); refine box_event ?hg (N := 10) ?hd (cs := #[.slice none 0 0]) (t := 30) ?hr ?_; (case hd => rfl); (case hg => rfl); (case hr => exact ax31); intro gb613 hg w23 hbox hb; have n0_ := Aside0.mk (Kd.R_below ax384 hb); have n1_ := Aside0.mk (Kd.R_below (by (with_reducible repeat (first | apply Kd.R_alloc | apply Kd.R_drewN | apply Kd.R_drew)); exact HO612.out) hb); have n2_ := Aside0.mk (blk_below (g := gb603) (o := .cells #[.slice A0_0 l0_0.length c0_0] 24 (0, 0)) ax382 hb); have n3_ := Aside0.mk (below_step ax383 hb); have n4_ := Aside0.mk (hbox); have n5_ := Aside0.mk ((ax385 : w.heap.size ≤ gb613)); have n6_ := Aside0.mk ((ax385 : w.heap.size ≤ gb613)); have n7_ := Aside0.mk ((by rw [hg]; exact Nat.ne_of_lt (blk_lt (g := gb603) (o := .cells #[.slice A0_0 l0_0.length c0_0] 24 (0, 0)) ax382) : gb603 ≠ gb613)); have n8_ := Aside0.mk ((by rw [hg]; exact Nat.ne_of_gt (blk_lt (g := gb603) (o := .cells #[.slice A0_0 l0_0.length c0_0] 24 (0, 0)) ax382) : gb613 ≠ gb603)); clear HO607; clear HO612; clear BK603; clear HB; have HO607 := n0_; have HO612 := n1_; have BK603 := n2_; have HB := n3_; have BK613 := n4_; have GW613 := n5_; have GE613 := n6_; have NB603_613 := n7_; have NB613_603 := n8_; clear n0_ n1_ n2_ n3_ n4_ n5_ n6_ n7_ n8_; clear hb hbox hg; obtain ⟨Ao24, co24, eo24⟩ := Kd.R_slice HO612.out; subst eo24; have hnb25 := NB613_603.out; have hnc25 := NB603_613.out; have hcz26_0 : w23.cell? ⟨gb613, 0, none⟩ = some (.slice none 0 0) := (blk_cell BK613.out 0).trans rfl; have hfz26_0 := blk_frozen BK613.out 0) | ((with_reducible refine gate_callee (f := 27) rfl ?_); refine goesL_ (some 32) rfl rfl Try.func27 (by kernel_rfl) rfl #[.agg #[.slice Ao24 t610.length co24], .int .i64 a1, .int .i64 a2] rfl ax34 ?_; (with_reducible refine (impl_WinningLetters.calls k _ _ t610 a1 a2 t614 t615 _ ?side1 ?side2 A12.out).mono ?_); (case side1 => refine (Kd.R_reads' (e := 67) (base := w.heap.size) (ok := fun k_ => (True ∧ some k_ ≠ (.slice Ao19 t605.length co19 : Value).ownBlock)) (n := t610.length) (c := co24) ?_).2.2; exact ax386); (case side2 => exact (Kd.R_reads' HO612.out).2.1); rintro e w27 ⟨rfl, hb⟩; refine ⟨_, rfl, ?_⟩; have n0_ := Aside0.mk (Kd.R_below (by (with_reducible repeat (first | apply Kd.R_alloc | apply Kd.R_drewN | apply Kd.R_drew)); exact (Kd.R_mono (Kd.R_far (p := ⟨gb613, 0, none⟩) (Kd.R_types HO607.out BK613.out (by decide)) (fun _ hk => hk.2) (.slice Ao24 t610.length co24)) (fun _ h_ => h_.1))) hb); have n1_ := Aside0.mk (Kd.R_below ax386 hb); have n2_ := Aside0.mk (blk_below (g := gb603) (o := .cells #[.slice A0_0 l0_0.length c0_0] 24 (0, 0)) (by (with_reducible repeat (first | refine blk_drewN ?_ _ | refine blk_drew ?_ | refine blk_alloc ?_ _)); refine blk_far ?_ NB603_613.out _; (with_reducible repeat (first | refine blk_drewN ?_ _ | refine blk_drew ?_ | refine blk_alloc ?_ _)); exact BK603.out) hb); have n3_ := Aside0.mk (blk_below (g := gb613) (o := .cells #[.slice Ao24 t610.length co24] 30 (0, 0)) (by (with_reducible repeat (first | refine blk_drewN ?_ _ | refine blk_drew ?_ | refine blk_alloc ?_ _)); refine blk_put (cs := #[.slice none 0 0]) ?_ 0 _ rfl; (with_reducible repeat (first | refine blk_drewN ?_ _ | refine blk_drew ?_ | refine blk_alloc ?_ _)); exact BK613.out) hb); have n4_ := Aside0.mk (below_step ax387 hb); clear HO607; clear HO612; clear BK603; clear BK613; clear HB; have HO607 := n0_; have HO612 := n1_; have BK603 := n2_; have BK613 := n3_; have HB := n4_; clear n0_ n1_ n2_ n3_ n4_; (try clear hb); (try clear hb2); (try clear hk); (try clear hi)))
  (try simp only [Act.put, List.setIfInBounds_toArray, List.set_cons_zero, List.set_cons_succ])
  go_cut [42] (fun v42 wc => ∃ (kq : Nat) (x42_12 : Bool), v42 = .bool x42_12 ∧ Aside0 (laws_FnExactWinningLetters.j0 kq x42_12 l0_0 t610 = some r) ∧ Aside0 (kq ≤ k) ∧ Aside0 (Kd.R k67 67 wc w.heap.size (fun _ => True) (.slice Ao24 t610.length co24) t610) ∧ Aside0 (wc.heap[gb603]? = some (.cells #[(.slice A0_0 l0_0.length c0_0)] 24 (0, 0))) ∧ Aside0 (wc.heap[gb613]? = some (.cells #[(.slice Ao24 t610.length co24)] 30 (0, 0))) ∧ Aside0 (Below w.heap.size w wc))
  case first =>
   have H := HC13.out; clear HC13
   by_cases c28 : t614.toList = t608.toList
   ·rw [if_pos c28] at H
    have c28b0 : (t614.toList == t608.toList) = true := beq_iff_eq.mpr c28
    have c28b1 : (t614.toList != t608.toList) = false := bne_eq_false_iff_eq.mpr c28
    clear c28
    (first | rw [c28b0] | (simp only [i64_w, i32_w]; rw [c28b0]) | skip)
    have H' := Aside0.mk H
    clear H
    go_wp2
    go_meet
    case rel => exact ⟨_, ((t615 != t609)), ax37, H', ⟨by first | omega | exact Nat.le_refl _⟩, ⟨by (with_reducible repeat (first | apply Kd.R_alloc | apply Kd.R_drewN | apply Kd.R_drew)); exact Kd.R_mono HO612.out (fun _ hk => trivial)⟩, ⟨by (with_reducible repeat (first | refine blk_drewN ?_ _ | refine blk_drew ?_ | refine blk_alloc ?_ _)); exact BK603.out⟩, ⟨by (with_reducible repeat (first | refine blk_drewN ?_ _ | refine blk_drew ?_ | refine blk_alloc ?_ _)); exact BK613.out⟩, ⟨by repeat (first | (with_reducible first | exact HB.out | apply below_alloc | apply pw_below_drewN | apply below_drew1 | refine below_set ?_ GE603.out | refine below_set ?_ GE613.out) | exact HB.out)⟩⟩
   ·rw [if_neg c28] at H
    have c28b0 : (t614.toList == t608.toList) = false := beq_eq_false_iff_ne.mpr c28
    have c28b1 : (t614.toList != t608.toList) = true := bne_iff_ne.mpr c28
    (first | rw [c28b0] | (simp only [i64_w, i32_w]; rw [c28b0]) | skip)
    have H' := Aside0.mk H
    clear H
    go_wp2
    go_meet
    case rel => exact ⟨_, (true), ax37, H', ⟨by first | omega | exact Nat.le_refl _⟩, ⟨by (with_reducible repeat (first | apply Kd.R_alloc | apply Kd.R_drewN | apply Kd.R_drew)); exact Kd.R_mono HO612.out (fun _ hk => trivial)⟩, ⟨by (with_reducible repeat (first | refine blk_drewN ?_ _ | refine blk_drew ?_ | refine blk_alloc ?_ _)); exact BK603.out⟩, ⟨by (with_reducible repeat (first | refine blk_drewN ?_ _ | refine blk_drew ?_ | refine blk_alloc ?_ _)); exact BK613.out⟩, ⟨by repeat (first | (with_reducible first | exact HB.out | apply below_alloc | apply pw_below_drewN | apply below_drew1 | refine below_set ?_ GE603.out | refine below_set ?_ GE613.out) | exact HB.out)⟩⟩
  case rest =>
   clear HC13
   try clear c1
   try clear c2
   try clear p2
   try clear c5
   try clear c5b0
   try clear c8
   try clear c13
   try clear c15
   try clear c25
   try clear c26
   try clear c27
   try clear c28
   try clear c28b0
   try clear c28b1
   try clear hcz15_0
   try clear hcz17_0
   try clear hcz21_0
   try clear hcz26_0
   try clear hcz7_0
   try clear hfz15_0
   try clear hfz17_0
   try clear hfz21_0
   try clear hfz26_0
   try clear hfz7_0
   obtain ⟨kq, x42_12, rfl, HA, HJ12, HO_614000, BK603, BK613, HB⟩ := hcut
   cases kq with
   | zero => exact absurd HA.out (by simp [laws_FnExactWinningLetters.j0])
   | succ kj12 =>
    have H := HA.out; clear HA
    simp only [laws_FnExactWinningLetters.j0] at H
    by_cases c29 : x42_12 = true
    ·exact ax24
    ·replace c29 := Bool.eq_false_iff.mpr c29
     subst c29
     have H1 : ((laws_toTrie.f kj12 l0_0).bind fun t616 => ((laws_eqTrie.f kj12 t610 t616).bind fun t619 => (if t619 = true then (some true) else (some false)))) = some r := by rw [if_neg (show ¬ (false = true) by decide)] at H; exact H
     clear H; have H := H1; clear H1; replace H := Option.bind_eq_some_iff.mp H
     obtain ⟨t616, A300, H⟩ := H
     replace H : ((laws_eqTrie.f kj12 t610 t616).bind fun t619 => (if t619 = true then (some true) else (some false))) = some r := H
     have A30 := Aside0.mk A300; clear A300; replace H := Option.bind_eq_some_iff.mp H
     obtain ⟨t619, A310, H⟩ := H
     replace H : (if t619 = true then (some true) else (some false)) = some r := H
     have A31 := Aside0.mk A310; clear A310
     by_cases c32 : t619 = true
     ·subst c32
      have H1 : (some true) = some r := by rw [if_pos rfl] at H; exact H
      clear H; have H := H1; clear H1
      obtain rfl := Option.some.inj H
      try go_wp2
      have n0_ := Aside0.mk (Kd.R_drew HO_614000.out); have n1_ := Aside0.mk (blk_drew BK603.out); have n2_ := Aside0.mk (blk_drew BK613.out); have n3_ := Aside0.mk (below_drew1 HB.out); clear HO_614000; clear BK603; clear BK613; clear HB; have HO_614000 := n0_; have BK603 := n1_; have BK613 := n2_; have HB := n3_; clear n0_ n1_ n2_ n3_
      refine start_ (n := 5) (S := fun w' => w'.cell? ⟨gb613, 0, none⟩ = some (.slice Ao24 t610.length co24) ∧ w'.cell? ⟨gb603, 0, none⟩ = some (.slice A0_0 l0_0.length c0_0)) (ds := []) #[false, false, false, false, false] (by kernel_rfl) rfl rfl ⟨(blk_cell BK613.out 0).trans rfl, (blk_cell BK603.out 0).trans rfl⟩ (fun hHeld => ?_)
      generalize wc.drew = w33 at HO_614000 BK603 BK613 HB hHeld ⊢
      refine take_ (i := 0) (N := some 43) (v := ?_) (a' := ?_) #[true, false, false, false, false] rfl rfl (by kernel_rfl) (fun _ _ _ h => h) (Or.inl ⟨by rfl, ?_⟩) hHeld ?_ ?_; rotate_left; exact ax17; rotate_left; exact ax6
      refine take_ (i := 1) (N := some 44) (v := ?_) (a' := ?_) #[true, true, false, false, false] rfl rfl (by kernel_rfl) (fun _ _ _ h => h) (Or.inl ⟨by rfl, ?_⟩) hHeld ?_ ?_; rotate_left; exact ax17; rotate_left; exact ax6
      refine one_ (i := 2) (N := some 45) #[true, true, true, false, false] rfl rfl (by kernel_rfl) (by decide) (fun K hK => ?_)
      refine goes_ Try.func15 (by kernel_rfl) rfl #[.agg #[.slice A0_0 l0_0.length c0_0]] (by rfl) rfl rfl ax34 ?_
      with_reducible refine (laws_toTrie.calls kj12 _ _ l0_0 t616 _ ?side1 ?side2 A30.out).mono ?_
      (case side1 => exact ax35)
      (case side2 => exact ax36)
      rintro e w34 ⟨v617, rfl, ho0, hb⟩
      refine ⟨_, rfl, ?_⟩
      have n0_ := Aside0.mk (Kd.R_elder' ax388 (Kd.R_base ho0) hb); have n1_ := Aside0.mk (Kd.R_lower (Kd.R_new' ho0 (Kd.R_lt ax388)) (below_size ax387))
      have n2_ := Aside0.mk (blk_below (g := gb603) (o := .cells #[.slice A0_0 l0_0.length c0_0] 24 (0, 0)) ax382 hb)
      have n3_ := Aside0.mk (blk_below (g := gb613) (o := .cells #[.slice Ao24 t610.length co24] 30 (0, 0)) ax389 hb)
      have n4_ := Aside0.mk (below_step ax387 hb); clear HO_614000; clear BK603; clear BK613; clear HB; have HO_614000 := n0_; have HO618 := n1_; have BK603 := n2_; have BK613 := n3_; have HB := n4_; clear n0_ n1_ n2_ n3_ n4_; (try clear hb); (try clear hb2); (try clear hk); (try clear hi); (try clear ho0)
      obtain ⟨Ao35, co35, eo35⟩ := Kd.R_slice HO618.out
      (first | subst eo35 | (injection eo35 with f1_ f2_ f3_; have f4_ := f1_.symm; have f5_ := f3_.symm; clear f1_ f2_ f3_; subst f4_; subst f5_))
      refine hK.out _ _ ⟨(blk_cell BK613.out 0).trans rfl, (blk_cell BK603.out 0).trans rfl⟩ (fun hHeld => ?_)
      clear hK K
      refine norm_ (a' := ?_) ?_ ?_
      rotate_left
      ·exact ax25
      refine one_ (i := 3) (N := some 46) #[true, true, true, true, false] rfl rfl (by kernel_rfl) (by decide) (fun K hK => ?_)
      refine goes_ Try.func17 (by kernel_rfl) rfl #[.agg #[.slice Ao24 t610.length co24], .agg #[.slice Ao35 t616.length co35]] (by rfl) rfl rfl ax34 ?_
      with_reducible refine (laws_eqTrie.calls kj12 _ _ t610 _ _ t616 true _ ?side1 ?side2 ?side3 ?side4 A31.out).mono ?_
      (case side1 => repeat (first | exact (Kd.R_reads' HO_614000.out).2.2 | (with_reducible refine Kd.C_alloc ?_ _) | (with_reducible refine Kd.C_drewN ?_ _) | (with_reducible refine Kd.C_drew ?_)))
      (case side2 => exact (Kd.R_reads' HO_614000.out).2.1)
      (case side3 => repeat (first | exact (Kd.R_reads' HO618.out).2.2 | (with_reducible refine Kd.C_alloc ?_ _) | (with_reducible refine Kd.C_drewN ?_ _) | (with_reducible refine Kd.C_drew ?_)))
      (case side4 => exact (Kd.R_reads' HO618.out).2.1)
      rintro e w36 ⟨rfl, hb⟩
      refine ⟨_, rfl, ?_⟩
      have n0_ := Aside0.mk (Kd.R_below ax388 hb)
      have n1_ := Aside0.mk (Kd.R_below (by (with_reducible repeat (first | apply Kd.R_alloc | apply Kd.R_drewN | apply Kd.R_drew)); exact HO618.out) hb)
      have n2_ := Aside0.mk (blk_below (g := gb603) (o := .cells #[.slice A0_0 l0_0.length c0_0] 24 (0, 0)) ax382 hb)
      have n3_ := Aside0.mk (blk_below (g := gb613) (o := .cells #[.slice Ao24 t610.length co24] 30 (0, 0)) ax389 hb)
      have n4_ := Aside0.mk (below_step ax387 hb); clear HO_614000; clear HO618; clear BK603; clear BK613; clear HB; have HO_614000 := n0_; have HO618 := n1_; have BK603 := n2_; have BK613 := n3_; have HB := n4_; clear n0_ n1_ n2_ n3_ n4_; (try clear hb); (try clear hb2); (try clear hk); (try clear hi)
      refine hK.out _ _ ⟨(blk_cell BK613.out 0).trans rfl, (blk_cell BK603.out 0).trans rfl⟩ (fun hHeld => ?_)
      clear hK K
      refine norm_ (a' := ?_) ?_ ?_
      rotate_left
      ·exact ax26
      refine pure_ (i := 4) (N := some 47) (v := ?_) (a' := ?_) #[true, true, true, true, true] rfl rfl (by kernel_rfl) (fun _ _ _ h => h) (Or.inl ⟨by rfl, ?_⟩) ?_ ?_; rotate_left; exact ax5; rotate_left; exact ax6
      refine done_ (by kernel_rfl) ?_
      try go_wp2
      go_ret
      exact ⟨by first | rfl | (simp [errW_none, errW_some] <;> rfl) | (simp [*, errW_none, errW_some] <;> rfl), by repeat (first | (with_reducible first | exact HB.out | apply below_alloc | apply pw_below_drewN | apply below_drew1 | refine below_set ?_ GE603.out | refine below_set ?_ GE613.out) | exact HB.out)⟩
     ·exact ax27
end Go.Proofs.Ytcbjfflaamlpcaa.X

-- By gen.py (the session's own program over the kit's printer): functions of the program, each with its contract. Lean checks it.
import Derived.Test.YtcbjfflaamlpcaaX0
import Derived.Test.YtcbjfflaamlpcaaX11
import Derived.Test.YtcbjfflaamlpcaaX15
namespace Go.Proofs.Ytcbjfflaamlpcaa.X
open Go.RowKit Go.Proofs.YtcbjfflaamlpcaaW.PrintWords Go.Proofs.YtcbjfflaamlpcaaW.PrintLast Go.Proofs.YtcbjfflaamlpcaaW.PrintMore
attribute [local go_sem] max2_int min2_int max_two min_two max_three min_three max_four min_four   -- for this text's walks alone
set_option linter.unusedVariables false
set_option linter.unusedSimpArgs false

/-! ### impl_newGame: function 44 -/
def impl_newGame.f (k : Nat) (l0_0 : List (S67)) (a1 : Int) : Option (Bool × Int × List ByteArray) := (impl_isTrie.f k l0_0).bind fun t383 => (if t383 = true then ((impl_in.f a1 1 6).bind fun t384 => (if t384 = true then ((impl_Trie_prefixes.f k l0_0).bind fun bt385 => (some (true, a1, bt385.1))) else (some (false, 0, ([] : List ByteArray))))) else (some (false, 0, ([] : List ByteArray))))
theorem impl_newGame.mono : ∀ a0 a1 k, LeO (impl_newGame.f k a0 a1) (impl_newGame.f (k + 1) a0 a1) := by
 intro a0 a1 k
 unfold impl_newGame.f
 repeat' first
   | (with_reducible exact impl_Trie_prefixes.mono _ _)
   | (with_reducible exact impl_isTrie.mono _ _)
   | (with_reducible exact LeO.refl _)
   | (with_reducible exact LeO.none _)
   | (with_reducible refine LeO.ite ?_ ?_)
   | (with_reducible refine LeO.bind ?_ (fun _ => ?_))
   | exact impl_Trie_prefixes.mono _ _
   | exact impl_isTrie.mono _ _
   | exact LeO.none _
   | refine LeO.ite ?_ ?_
   | refine LeO.bind ?_ (fun _ => ?_)
set_option maxHeartbeats 8000000 in
set_option maxRecDepth 100000 in
theorem impl_newGame.calls (k : Nat) (A0_0 : Option Addr) (c0_0 : Nat) (l0_0 : List (S67)) (a1 : Int) (r1 : Bool) (r2 : Int) (r3 : List ByteArray) (w : World) (hr0_0 : Kd.C k67 w A0_0 l0_0.length l0_0) (hc0_0 : l0_0.length ≤ c0_0) (h : impl_newGame.f k l0_0 a1 = some (r1, r2, r3)) :
  Calls Try.prog 44 #[.agg #[.slice A0_0 l0_0.length c0_0], .int .i64 a1] w fun e w' => Below w.heap.size w w' ∧ (r1 = false → e = .returned (.tuple #[.pointer none, .bool false])) ∧ (r1 = true → ∃ g_ : Nat, ∃ v2_ : Value, e = .returned (.tuple #[.pointer (some ⟨g_, 0, none⟩), .bool true]) ∧ w'.heap[g_]? = some (.cells #[.slice A0_0 l0_0.length c0_0, .int .i64 r2, v2_] 69 (0, 0)) ∧ w.heap.size ≤ g_ ∧ Kd.R Kd.string 9 w' w.heap.size (fun _ => True) v2_ r3) := by
 have hu30 := Try.underlying30; have hu69 := Try.underlying69; have HR0_0 := Aside0.mk hr0_0; have HC0_0 := Aside0.mk hc0_0; clear hr0_0 hc0_0; have HB := Aside0.mk (Below.refl w.heap.size w)
 have H : ((impl_isTrie.f k l0_0).bind fun t383 => (if t383 = true then ((impl_in.f a1 1 6).bind fun t384 => (if t384 = true then ((impl_Trie_prefixes.f k l0_0).bind fun bt385 => (some (true, a1, bt385.1))) else (some (false, 0, ([] : List ByteArray))))) else (some (false, 0, ([] : List ByteArray))))) = some (r1, r2, r3) := h
 clear h; replace H := Option.bind_eq_some_iff.mp H
 obtain ⟨t383, A30, H⟩ := H
 replace H : (if t383 = true then ((impl_in.f a1 1 6).bind fun t384 => (if t384 = true then ((impl_Trie_prefixes.f k l0_0).bind fun bt385 => (some (true, a1, bt385.1))) else (some (false, 0, ([] : List ByteArray))))) else (some (false, 0, ([] : List ByteArray)))) = some (r1, r2, r3) := H
 have A3 := Aside0.mk A30; clear A30
 by_cases c4 : t383 = true
 ·subst c4
  have H1 : ((impl_in.f a1 1 6).bind fun t384 => (if t384 = true then ((impl_Trie_prefixes.f k l0_0).bind fun bt385 => (some (true, a1, bt385.1))) else (some (false, 0, ([] : List ByteArray))))) = some (r1, r2, r3) := by rw [if_pos rfl] at H; exact H
  clear H; have H := H1; clear H1; replace H := Option.bind_eq_some_iff.mp H
  obtain ⟨t384, A50, H⟩ := H
  replace H : (if t384 = true then ((impl_Trie_prefixes.f k l0_0).bind fun bt385 => (some (true, a1, bt385.1))) else (some (false, 0, ([] : List ByteArray)))) = some (r1, r2, r3) := H
  have A5 := Aside0.mk A50; clear A50
  by_cases c6 : t384 = true
  ·subst c6
   have H1 : ((impl_Trie_prefixes.f k l0_0).bind fun bt385 => (some (true, a1, bt385.1))) = some (r1, r2, r3) := by rw [if_pos rfl] at H; exact H
   clear H; have H := H1; clear H1; replace H := Option.bind_eq_some_iff.mp H
   obtain ⟨⟨t385, t388⟩, A70, H⟩ := H
   replace H : (some (true, a1, t385)) = some (r1, r2, r3) := H
   have A7 := Aside0.mk A70; clear A70
   simp only [Option.some.injEq, Prod.mk.injEq] at H
   obtain ⟨rfl, rfl, rfl⟩ := H
   go_enter Try.func44, Try.ntmps44
   go_wp2_with (first | ((with_reducible refine gate_dst (N := 2) rfl ?_); refine box_event ?hg (N := 2) ?hd (cs := #[.slice A0_0 l0_0.length c0_0]) (t := 30) ?hr ?_; (case hd => rfl); (case hg => rfl); (case hr => exact ax22); intro gb382 hg w8 hbox hb; have n0_ := Aside0.mk (below_step ax23 hb); have n1_ := Aside0.mk (hbox); have n2_ := Aside0.mk ((ax24 : w.heap.size ≤ gb382)); have n3_ := Aside0.mk ((ax24 : w.heap.size ≤ gb382)); clear HB; have HB := n0_; have BK382 := n1_; have GW382 := n2_; have GE382 := n3_; clear n0_ n1_ n2_ n3_; clear hb hbox hg; have hcz9_0 : w8.cell? ⟨gb382, 0, none⟩ = some (.slice A0_0 l0_0.length c0_0) := (blk_cell BK382.out 0).trans rfl; have hfz9_0 := blk_frozen BK382.out 0) | ((with_reducible refine gate_callee (f := 79) rfl ?_); refine goesL_ (some 9) rfl rfl Try.func79 (by kernel_rfl) rfl #[.agg #[.slice A0_0 l0_0.length c0_0]] rfl ax25 ?_; (with_reducible refine (impl_isTrie.calls k _ _ l0_0 true _ ?side1 ?side2 A3.out).mono ?_); (case side1 => exact ax26); (case side2 => exact ax27); rintro e w10 ⟨rfl, hb⟩; refine ⟨_, rfl, ?_⟩; have n0_ := Aside0.mk (blk_below (g := gb382) (o := .cells #[.slice A0_0 l0_0.length c0_0] 30 (0, 0)) ax196 hb); have n1_ := Aside0.mk (below_step ax197 hb); clear BK382; clear HB; have BK382 := n0_; have HB := n1_; clear n0_ n1_; (try clear hb); (try clear hb2); (try clear hk); (try clear hi)) | (go_at_call 45; (with_reducible refine (impl_in.calls a1 1 6 true _ A5.out).mono ?_); rintro e w' ⟨rfl, ⟨nd, rfl⟩⟩; have hcz11_0 : w10.cell? ⟨gb382, 0, none⟩ = some (.slice A0_0 l0_0.length c0_0) := (blk_cell BK382.out 0).trans rfl; have hfz11_0 := blk_frozen BK382.out 0) | ((with_reducible refine gate_callee (f := 80) rfl ?_); refine goesL_ (some 18) rfl rfl Try.func80 (by kernel_rfl) rfl #[.agg #[.slice A0_0 l0_0.length c0_0]] rfl ax25 ?_; (with_reducible refine (impl_Trie_prefixes.calls k _ _ l0_0 t385 t388 _ ?side1 ?side2 A7.out).mono ?_); (case side1 => repeat (first | exact (Kd.C_below HR0_0.out ax197) | (with_reducible refine Kd.C_alloc ?_ _) | (with_reducible refine Kd.C_drewN ?_ _) | (with_reducible refine Kd.C_drew ?_))); (case side2 => exact ax27); rintro e w12 ⟨v386, rfl, ho0, hb⟩; refine ⟨_, rfl, ?_⟩; have n0_ := Aside0.mk (Kd.R_lower ho0 (below_size ax197)); have n1_ := Aside0.mk (blk_below (g := gb382) (o := .cells #[.slice A0_0 l0_0.length c0_0] 30 (0, 0)) ax196 hb); have n2_ := Aside0.mk (below_step ax197 hb); clear BK382; clear HB; have HO387 := n0_; have BK382 := n1_; have HB := n2_; clear n0_ n1_ n2_; (try clear hb); (try clear hb2); (try clear hk); (try clear hi); (try clear ho0); have hcz13_0 : w12.cell? ⟨gb382, 0, none⟩ = some (.slice A0_0 l0_0.length c0_0) := (blk_cell BK382.out 0).trans rfl; have hfz13_0 := blk_frozen BK382.out 0; obtain ⟨Ao14, co14, eo14⟩ := Kd.R_slice HO387.out; subst eo14) | ((with_reducible refine gate_dst (N := 25) rfl ?_); refine box_event ?hg (N := 25) ?hd (cs := #[.slice A0_0 l0_0.length c0_0, .int .i64 a1, .slice Ao14 t385.length co14]) (t := 69) ?hr ?_; (case hd => rfl); (case hg => rfl); (case hr => exact ax22); intro gb389 hg w15 hbox hb; have n0_ := Aside0.mk (Kd.R_below (by (with_reducible repeat (first | apply Kd.R_alloc | apply Kd.R_drewN | apply Kd.R_drew)); exact HO387.out) hb); have n1_ := Aside0.mk (blk_below (g := gb382) (o := .cells #[.slice A0_0 l0_0.length c0_0] 30 (0, 0)) ax196 hb); have n2_ := Aside0.mk (below_step ax197 hb); have n3_ := Aside0.mk (hbox); have n4_ := Aside0.mk ((ax198 : w.heap.size ≤ gb389)); have n5_ := Aside0.mk ((ax198 : w.heap.size ≤ gb389)); have n6_ := Aside0.mk ((by rw [hg]; exact Nat.ne_of_lt (blk_lt (g := gb382) (o := .cells #[.slice A0_0 l0_0.length c0_0] 30 (0, 0)) ax196) : gb382 ≠ gb389)); have n7_ := Aside0.mk ((by rw [hg]; exact Nat.ne_of_gt (blk_lt (g := gb382) (o := .cells #[.slice A0_0 l0_0.length c0_0] 30 (0, 0)) ax196) : gb389 ≠ gb382)); clear HO387; clear BK382; clear HB; have HO387 := n0_; have BK382 := n1_; have HB := n2_; have BK389 := n3_; have GW389 := n4_; have GE389 := n5_; have NB382_389 := n6_; have NB389_382 := n7_; clear n0_ n1_ n2_ n3_ n4_ n5_ n6_ n7_; clear hb hbox hg))
   go_ret2
   first | exact ⟨by repeat (first | (with_reducible first | exact HB.out | apply below_alloc | apply pw_below_drewN | apply below_drew1 | refine below_set ?_ GE382.out | refine below_set ?_ GE389.out) | exact HB.out), fun h_ => absurd h_ (by decide), fun _ => ⟨gb389, _, by rfl, by (with_reducible repeat (first | refine blk_drewN ?_ _ | refine blk_drew ?_ | refine blk_alloc ?_ _)); exact BK389.out, GW389.out, by (with_reducible repeat (first | apply Kd.R_alloc | apply Kd.R_drewN | apply Kd.R_drew)); exact HO387.out⟩⟩ | exact ⟨by repeat (first | (with_reducible first | exact HB.out | apply below_alloc | apply pw_below_drewN | apply below_drew1 | refine below_set ?_ GE382.out | refine below_set ?_ GE389.out) | exact HB.out), ⟨gb389, _, by rfl, by (with_reducible repeat (first | refine blk_drewN ?_ _ | refine blk_drew ?_ | refine blk_alloc ?_ _)); exact BK389.out, GW389.out, by (with_reducible repeat (first | apply Kd.R_alloc | apply Kd.R_drewN | apply Kd.R_drew)); exact HO387.out⟩⟩
  ·replace c6 := Bool.eq_false_iff.mpr c6
   subst c6
   have H1 : (some (false, 0, ([] : List ByteArray))) = some (r1, r2, r3) := by rw [if_neg (show ¬ (false = true) by decide)] at H; exact H
   clear H; have H := H1; clear H1
   simp only [Option.some.injEq, Prod.mk.injEq] at H
   obtain ⟨rfl, rfl, rfl⟩ := H
   go_enter Try.func44, Try.ntmps44
   go_wp2_with (first | ((with_reducible refine gate_dst (N := 2) rfl ?_); refine box_event ?hg (N := 2) ?hd (cs := #[.slice A0_0 l0_0.length c0_0]) (t := 30) ?hr ?_; (case hd => rfl); (case hg => rfl); (case hr => exact ax22); intro gb382 hg w16 hbox hb; have n0_ := Aside0.mk (below_step ax23 hb); have n1_ := Aside0.mk (hbox); have n2_ := Aside0.mk ((ax24 : w.heap.size ≤ gb382)); have n3_ := Aside0.mk ((ax24 : w.heap.size ≤ gb382)); clear HB; have HB := n0_; have BK382 := n1_; have GW382 := n2_; have GE382 := n3_; clear n0_ n1_ n2_ n3_; clear hb hbox hg; have hcz17_0 : w16.cell? ⟨gb382, 0, none⟩ = some (.slice A0_0 l0_0.length c0_0) := (blk_cell BK382.out 0).trans rfl; have hfz17_0 := blk_frozen BK382.out 0) | ((with_reducible refine gate_callee (f := 79) rfl ?_); refine goesL_ (some 9) rfl rfl Try.func79 (by kernel_rfl) rfl #[.agg #[.slice A0_0 l0_0.length c0_0]] rfl ax25 ?_; (with_reducible refine (impl_isTrie.calls k _ _ l0_0 true _ ?side1 ?side2 A3.out).mono ?_); (case side1 => exact ax26); (case side2 => exact ax27); rintro e w18 ⟨rfl, hb⟩; refine ⟨_, rfl, ?_⟩; have n0_ := Aside0.mk (blk_below (g := gb382) (o := .cells #[.slice A0_0 l0_0.length c0_0] 30 (0, 0)) ax196 hb); have n1_ := Aside0.mk (below_step ax197 hb); clear BK382; clear HB; have BK382 := n0_; have HB := n1_; clear n0_ n1_; (try clear hb); (try clear hb2); (try clear hk); (try clear hi)) | (go_at_call 45; (with_reducible refine (impl_in.calls a1 1 6 false _ A5.out).mono ?_); rintro e w' ⟨rfl, ⟨nd, rfl⟩⟩))
   go_ret2
   first | exact ⟨by repeat (first | (with_reducible first | exact HB.out | apply below_alloc | apply pw_below_drewN | apply below_drew1 | refine below_set ?_ GE382.out) | exact HB.out), fun _ => by rfl, fun h_ => absurd h_ (by decide)⟩ | exact ⟨by repeat (first | (with_reducible first | exact HB.out | apply below_alloc | apply pw_below_drewN | apply below_drew1 | refine below_set ?_ GE382.out) | exact HB.out), by rfl⟩
 ·replace c4 := Bool.eq_false_iff.mpr c4
  subst c4
  have H1 : (some (false, 0, ([] : List ByteArray))) = some (r1, r2, r3) := by rw [if_neg (show ¬ (false = true) by decide)] at H; exact H
  clear H; have H := H1; clear H1
  simp only [Option.some.injEq, Prod.mk.injEq] at H
  obtain ⟨rfl, rfl, rfl⟩ := H
  go_enter Try.func44, Try.ntmps44
  go_wp2_with (first | ((with_reducible refine gate_dst (N := 2) rfl ?_); refine box_event ?hg (N := 2) ?hd (cs := #[.slice A0_0 l0_0.length c0_0]) (t := 30) ?hr ?_; (case hd => rfl); (case hg => rfl); (case hr => exact ax22); intro gb382 hg w19 hbox hb; have n0_ := Aside0.mk (below_step ax23 hb); have n1_ := Aside0.mk (hbox); have n2_ := Aside0.mk ((ax24 : w.heap.size ≤ gb382)); have n3_ := Aside0.mk ((ax24 : w.heap.size ≤ gb382)); clear HB; have HB := n0_; have BK382 := n1_; have GW382 := n2_; have GE382 := n3_; clear n0_ n1_ n2_ n3_; clear hb hbox hg; have hcz20_0 : w19.cell? ⟨gb382, 0, none⟩ = some (.slice A0_0 l0_0.length c0_0) := (blk_cell BK382.out 0).trans rfl; have hfz20_0 := blk_frozen BK382.out 0) | ((with_reducible refine gate_callee (f := 79) rfl ?_); refine goesL_ (some 9) rfl rfl Try.func79 (by kernel_rfl) rfl #[.agg #[.slice A0_0 l0_0.length c0_0]] rfl ax25 ?_; (with_reducible refine (impl_isTrie.calls k _ _ l0_0 false _ ?side1 ?side2 A3.out).mono ?_); (case side1 => exact ax26); (case side2 => exact ax27); rintro e w21 ⟨rfl, hb⟩; refine ⟨_, rfl, ?_⟩; have n0_ := Aside0.mk (blk_below (g := gb382) (o := .cells #[.slice A0_0 l0_0.length c0_0] 30 (0, 0)) ax196 hb); have n1_ := Aside0.mk (below_step ax197 hb); clear BK382; clear HB; have BK382 := n0_; have HB := n1_; clear n0_ n1_; (try clear hb); (try clear hb2); (try clear hk); (try clear hi)))
  go_ret2
  first | exact ⟨by repeat (first | (with_reducible first | exact HB.out | apply below_alloc | apply pw_below_drewN | apply below_drew1 | refine below_set ?_ GE382.out) | exact HB.out), fun _ => by rfl, fun h_ => absurd h_ (by decide)⟩ | exact ⟨by repeat (first | (with_reducible first | exact HB.out | apply below_alloc | apply pw_below_drewN | apply below_drew1 | refine below_set ?_ GE382.out) | exact HB.out), by rfl⟩

/-! ### impl_Trie_kids: function 59 -/
def impl_Trie_kids.l0 : Nat → Int → List Int → List (S67) → Int → Int → Option (List Int)
 | 0, _, _, _, _, _ => none
 | k + 1, x1, x5, x10, x11, x12 => if x12 < x11 then (if 0 ≤ x12 then (if x12 < (x10.length : Int) then (if ((rd_T67 x10 x12).f1) = x1 then (if x5.length < 17592186044416 then (impl_Trie_kids.l0 k x1 (x5 ++ [x12]) x10 x11 (wrap64 (x12 + 1))) else (none)) else (impl_Trie_kids.l0 k x1 x5 x10 x11 (wrap64 (x12 + 1)))) else (none)) else (none)) else (some x5)
def impl_Trie_kids.f (k : Nat) (l0_0 : List (S67)) (a1 : Int) : Option (List Int) := impl_Trie_kids.l0 k a1 (([] : List Int)) l0_0 (l0_0.length : Int) 0
theorem impl_Trie_kids.mono_l : ∀ k, (∀ y0 y1 y2 y3 y4, LeO (impl_Trie_kids.l0 k y0 y1 y2 y3 y4) (impl_Trie_kids.l0 (k + 1) y0 y1 y2 y3 y4))
 | 0 => fun _ _ _ _ _ r h => by simp [impl_Trie_kids.l0] at h
 | k + 1 => by
  have ih0 := impl_Trie_kids.mono_l k
  ·intro y0 y1 y2 y3 y4
   unfold impl_Trie_kids.l0
   repeat' first
   | (with_reducible exact ih0 _ _ _ _ _)
   | (with_reducible exact LeO.refl _)
   | (with_reducible exact LeO.none _)
   | (with_reducible refine LeO.ite ?_ ?_)
   | (with_reducible refine LeO.bind ?_ (fun _ => ?_))
   | exact ih0 _ _ _ _ _
   | exact LeO.none _
   | refine LeO.ite ?_ ?_
   | refine LeO.bind ?_ (fun _ => ?_)
theorem impl_Trie_kids.mono : ∀ a0 a1 k, LeO (impl_Trie_kids.f k a0 a1) (impl_Trie_kids.f (k + 1) a0 a1) := by
 intro a0 a1 k
 have ih0 := impl_Trie_kids.mono_l k
 unfold impl_Trie_kids.f
 repeat' first
   | (with_reducible exact ih0 _ _ _ _ _)
   | (with_reducible exact LeO.refl _)
   | (with_reducible exact LeO.none _)
   | (with_reducible refine LeO.ite ?_ ?_)
   | (with_reducible refine LeO.bind ?_ (fun _ => ?_))
   | exact ih0 _ _ _ _ _
   | exact LeO.none _
   | refine LeO.ite ?_ ?_
   | refine LeO.bind ?_ (fun _ => ?_)
set_option maxHeartbeats 8000000 in
set_option maxRecDepth 100000 in
theorem impl_Trie_kids.calls (k : Nat) (A0_0 : Option Addr) (c0_0 : Nat) (l0_0 : List (S67)) (a1 : Int) (r : List Int) (w : World) (hr0_0 : Kd.C k67 w A0_0 l0_0.length l0_0) (hc0_0 : l0_0.length ≤ c0_0) (h : impl_Trie_kids.f k l0_0 a1 = some r) :
  Calls Try.prog 59 #[.agg #[.slice A0_0 l0_0.length c0_0], .int .i64 a1] w fun e w' => ∃ v0_ : Value, e = .returned (v0_) ∧ Kd.R (Kd.int .i64) 3 w' w.heap.size (fun _ => True) v0_ r ∧ Below w.heap.size w w' := by
 have hu30 := Try.underlying30; have hu67 := Try.underlying67; have HR0_0 := Aside0.mk hr0_0; have HC0_0 := Aside0.mk hc0_0; clear hr0_0 hc0_0; have HB := Aside0.mk (Below.refl w.heap.size w)
 have H : (impl_Trie_kids.l0 k a1 (([] : List Int)) l0_0 (l0_0.length : Int) 0) = some r := h
 clear h
 obtain ⟨y391, hy391⟩ : ∃ y_ : List Int, y_ = (([] : List Int)) := ⟨_, rfl⟩
 replace H : (impl_Trie_kids.l0 k a1 y391 l0_0 (l0_0.length : Int) 0) = some r := by first | (rw [hy391]; with_reducible exact H) | (have H2_ := (Option.bind_some _ _).symm.trans H; rw [hy391]; with_reducible exact H2_) | (have H2_ := (Option.bind_some _ _).symm.trans H; with_reducible exact H2_) | with_reducible exact H | (rw [hy391]; exact H) | exact H
 have Ny391 := Aside0.mk hy391; clear hy391
 have H' := Aside0.mk H
 clear H
 go_enter Try.func59, Try.ntmps59
 go_wp2_with (first | ((with_reducible refine gate_dst (N := 2) rfl ?_); refine box_event ?hg (N := 2) ?hd (cs := #[.slice A0_0 l0_0.length c0_0]) (t := 30) ?hr ?_; (case hd => rfl); (case hg => rfl); (case hr => exact ax22); intro gb390 hg w3 hbox hb; have n0_ := Aside0.mk (below_step ax23 hb); have n1_ := Aside0.mk (hbox); have n2_ := Aside0.mk ((ax24 : w.heap.size ≤ gb390)); have n3_ := Aside0.mk ((ax24 : w.heap.size ≤ gb390)); clear HB; have HB := n0_; have BK390 := n1_; have GW390 := n2_; have GE390 := n3_; clear n0_ n1_ n2_ n3_; clear hb hbox hg) | ((with_reducible refine gate_dst (N := 8) rfl ?_); refine Kd.R_lit (Kd.int .i64) _ 3 ?hg (N := 8) ?hd (xs := ([] : List Int)) (inner := []) (ok := fun _ => True) (okp := fun _ => True) ?hr ?hp (fun _ hk => hk) trivial (Below.refl _ _) (Nat.le_refl _) (by simp) ?_; (case hd => rfl); (case hg => rfl); (case hr => exact ax22); (case hp => exact ax71); intro v392 w4 ho5 hb hg_ hnew_; clear hg_ hnew_; (first | rw [← Ny391.out] at ho5 | (simp only [Int.reduceToNat] at ho5; rw [← Ny391.out] at ho5)); have n0_ := Aside0.mk (Kd.R_lower ho5 (below_size ax199)); have n1_ := Aside0.mk (blk_below (g := gb390) (o := .cells #[.slice A0_0 l0_0.length c0_0] 30 (0, 0)) ax200 hb); have n2_ := Aside0.mk (below_step ax199 hb); clear BK390; clear HB; have HO393 := n0_; have BK390 := n1_; have HB := n2_; clear n0_ n1_ n2_; clear hb ho5; have hcz6_0 : w4.cell? ⟨gb390, 0, none⟩ = some (.slice A0_0 l0_0.length c0_0) := (blk_cell BK390.out 0).trans rfl; have hfz6_0 := blk_frozen BK390.out 0))
 go_loopg [5, 12] k (fun kq v5 v12 w' => ∃ (x5_1 : List Int) (x12_1 : Int), v12 = .int .i64 x12_1 ∧ Aside0 (impl_Trie_kids.l0 kq a1 x5_1 l0_0 (l0_0.length : Int) x12_1 = some r) ∧ Aside0 (kq ≤ k) ∧ Aside0 (Kd.R (Kd.int .i64) 3 w' w.heap.size (fun _ => True) v5 x5_1) ∧ Aside0 (w'.heap[gb390]? = some (.cells #[(.slice A0_0 l0_0.length c0_0)] 30 (0, 0))) ∧ Aside0 (Below w.heap.size w w'))
 case atStart => exact ⟨(y391), (0), ax37, H', ⟨Nat.le_refl _⟩, ⟨by (with_reducible repeat (first | apply Kd.R_alloc | apply Kd.R_drewN | apply Kd.R_drew)); exact HO393.out⟩, ⟨by (with_reducible repeat (first | refine blk_drewN ?_ _ | refine blk_drew ?_ | refine blk_alloc ?_ _)); exact BK390.out⟩, ⟨by repeat (first | (with_reducible first | exact HB.out | apply below_alloc | apply pw_below_drewN | apply below_drew1 | refine below_set ?_ GE390.out) | exact HB.out)⟩⟩
 case round =>
  clear H'
  try clear p2
  try clear c5
  try clear hcz6_0
  try clear hfz6_0
  obtain ⟨x5_1, x12_1, rfl, HA, HK1, HO_5, BK390, HB⟩ := hrel
  cases gk with
  | zero => exact absurd HA.out (by simp [impl_Trie_kids.l0])
  | succ k1 =>
   have H := HA.out; clear HA
   simp only [impl_Trie_kids.l0] at H
   by_cases c7 : x12_1 < (l0_0.length : Int)
   ·rw [if_pos c7] at H
    have c7b0 : decide (x12_1 < (l0_0.length : Int)) = true := decide_eq_true c7
    clear c7
    by_cases c8 : 0 ≤ x12_1
    ·rw [if_pos c8] at H
     have c8b0 : decide (0 ≤ x12_1) = true := decide_eq_true c8
     clear c8
     by_cases c9 : x12_1 < (l0_0.length : Int)
     ·rw [if_pos c9] at H
      have c9b0 : decide (x12_1 < (l0_0.length : Int)) = true := decide_eq_true c9
      clear c9
      by_cases c10 : ((rd_T67 l0_0 x12_1).f1) = a1
      ·rw [if_pos c10] at H
       have c10b0 : (((rd_T67 l0_0 x12_1).f1) == a1) = true := beq_iff_eq.mpr c10
       have c10b1 : (((rd_T67 l0_0 x12_1).f1) != a1) = false := bne_eq_false_iff_eq.mpr c10
       clear c10
       by_cases c11 : x5_1.length < 17592186044416
       ·rw [if_pos c11] at H
        have LMc11 := Aside0.mk c11; clear c11
        obtain ⟨y396, hy396⟩ : ∃ y_ : List Int, y_ = (x5_1 ++ [x12_1]) := ⟨_, rfl⟩
        replace H : (impl_Trie_kids.l0 k1 a1 y396 l0_0 (l0_0.length : Int) (wrap64 (x12_1 + 1))) = some r := by first | (rw [hy396]; with_reducible exact H) | (have H2_ := (Option.bind_some _ _).symm.trans H; rw [hy396]; with_reducible exact H2_) | (have H2_ := (Option.bind_some _ _).symm.trans H; with_reducible exact H2_) | with_reducible exact H | (rw [hy396]; exact H) | exact H
        have Ny396 := Aside0.mk hy396; clear hy396
        have H' := Aside0.mk H
        clear H
        have p394 : 0 ≤ (x12_1 : Int) := of_decide_eq_true ax36
        have q394 : x12_1 < (l0_0.length : Int) := of_decide_eq_true ax36
        obtain ⟨ad394, e394, hx394_0, hx394_1, hx394_2⟩ := at_T67 HR0_0.out x12_1 p394 q394
        cases e394; replace hx394_0 := (HB.out.cell (World.block_lt_of_cell? w _ hx394_0)).trans hx394_0; replace hx394_1 := (HB.out.cell (World.block_lt_of_cell? w _ hx394_1)).trans hx394_1; replace hx394_2 := (HB.out.cell (World.block_lt_of_cell? w _ hx394_2)).trans hx394_2; replace p394 := eq_true p394; replace q394 := eq_true q394
        go_wp2_with (first | ((with_reducible refine gate_dst (N := 7) rfl ?_); refine box_event ?hg (N := 7) ?hd (cs := #[.int .i64 0, .int .i64 0, .bool false]) (t := 67) ?hr ?_; (case hd => rfl); (case hg => rfl); (case hr => exact ax22); intro gb395 hg w12 hbox hb; have n0_ := Aside0.mk (Kd.R_below ax143 hb); have n1_ := Aside0.mk (blk_below (g := gb390) (o := .cells #[.slice (some ad394) l0_0.length c0_0] 30 (0, 0)) ax200 hb); have n2_ := Aside0.mk (below_step ax199 hb); have n3_ := Aside0.mk (hbox); have n4_ := Aside0.mk ((ax201 : w.heap.size ≤ gb395)); have n5_ := Aside0.mk ((ax201 : w.heap.size ≤ gb395)); have n6_ := Aside0.mk ((ax202 : gb390 ≠ gb395)); have n7_ := Aside0.mk ((ax203 : gb395 ≠ gb390)); clear HO_5; clear BK390; clear HB; have HO_5 := n0_; have BK390 := n1_; have HB := n2_; have BK395 := n3_; have GW395 := n4_; have GE395 := n5_; have NB390_395 := n6_; have NB395_390 := n7_; clear n0_ n1_ n2_ n3_ n4_ n5_ n6_ n7_; clear hb hbox hg; have hnb13 := NB395_390.out; have hnc13 := NB390_395.out; have hcz14_0 : w12.cell? ⟨gb395, 0, none⟩ = some (.int .i64 0) := (blk_cell BK395.out 0).trans rfl; have hcz14_1 : w12.cell? ⟨gb395, 1, none⟩ = some (.int .i64 0) := (blk_cell BK395.out 1).trans rfl; have hcz14_2 : w12.cell? ⟨gb395, 2, none⟩ = some (.bool false) := (blk_cell BK395.out 2).trans rfl; have hfz14_0 := blk_frozen BK395.out 0; have hfz14_1 := blk_frozen BK395.out 1; have hfz14_2 := blk_frozen BK395.out 2) | ((with_reducible refine gate_builtin (b := .append) (xs := #[.tmp 21, .tmp 23]) rfl ?_); at_builtin; refine Kd.R_append (Kd.int .i64) (w0 := w) w.heap.size rfl (.tmp 21) (.tmp 23) 61 3 (.int .i64 0) 8 rfl Try.underlying61 info3 rfl (by decide) (by omega) u5 x5_1 x12_1 [.int .i64 x12_1] (fun _ => True) (fun _ => False) rfl ax22 ?aP (fun _ hk => hk.elim) ?aF ?aO ?aB ?aS ?aL ?_; (case aP => exact rfl); (case aB => exact ax204); (case aF => exact ax74); (case aO => exact (by (with_reducible repeat (first | apply Kd.R_alloc | apply Kd.R_drewN | apply Kd.R_drew)); exact Kd.R_mono (Kd.R_far (p := ⟨gb395, 2, none⟩) (Kd.R_far (p := ⟨gb395, 1, none⟩) (Kd.R_far (p := ⟨gb395, 0, none⟩) (Kd.R_types HO_5.out BK395.out (by decide)) (fun _ hk => hk.2) (.int .i64 ((rd_T67 l0_0 x12_1).f0))) (fun _ hk => hk.2) (.int .i64 ((rd_T67 l0_0 x12_1).f1))) (fun _ hk => hk.2) (.bool ((rd_T67 l0_0 x12_1).f2))) (fun _ hk => trivial))); (case aS => exact (below_size ax204)); (case aL => have := LMc11.out; omega); intro v397 w15 ho hb hg hat; rw [← Ny396.out] at ho; have n0_ := Aside0.mk (blk_grown (g := gb390) (o := .cells #[.slice (some ad394) l0_0.length c0_0] 30 (0, 0)) (by (with_reducible repeat (first | refine blk_drewN ?_ _ | refine blk_drew ?_ | refine blk_alloc ?_ _)); refine blk_far ?_ NB390_395.out _; (with_reducible repeat (first | refine blk_drewN ?_ _ | refine blk_drew ?_ | refine blk_alloc ?_ _)); refine blk_far ?_ NB390_395.out _; (with_reducible repeat (first | refine blk_drewN ?_ _ | refine blk_drew ?_ | refine blk_alloc ?_ _)); refine blk_far ?_ NB390_395.out _; (with_reducible repeat (first | refine blk_drewN ?_ _ | refine blk_drew ?_ | refine blk_alloc ?_ _)); exact BK390.out) hg (Kd.R_ne HO_5.out BK390.out (by decide))); have n1_ := Aside0.mk (blk_grown (g := gb395) (o := .cells #[.int .i64 ((rd_T67 l0_0 x12_1).f0), .int .i64 ((rd_T67 l0_0 x12_1).f1), .bool ((rd_T67 l0_0 x12_1).f2)] 67 (0, 0)) (by (with_reducible repeat (first | refine blk_drewN ?_ _ | refine blk_drew ?_ | refine blk_alloc ?_ _)); refine blk_put (cs := #[.int .i64 ((rd_T67 l0_0 x12_1).f0), .int .i64 ((rd_T67 l0_0 x12_1).f1), .bool false]) ?_ 2 _ rfl; (with_reducible repeat (first | refine blk_drewN ?_ _ | refine blk_drew ?_ | refine blk_alloc ?_ _)); refine blk_put (cs := #[.int .i64 ((rd_T67 l0_0 x12_1).f0), .int .i64 0, .bool false]) ?_ 1 _ rfl; (with_reducible repeat (first | refine blk_drewN ?_ _ | refine blk_drew ?_ | refine blk_alloc ?_ _)); refine blk_put (cs := #[.int .i64 0, .int .i64 0, .bool false]) ?_ 0 _ rfl; (with_reducible repeat (first | refine blk_drewN ?_ _ | refine blk_drew ?_ | refine blk_alloc ?_ _)); exact BK395.out) hg (Kd.R_ne HO_5.out BK395.out (by decide))); have n2_ := Aside0.mk (hb); have n3_ := Aside0.mk (ho); clear BK390; clear BK395; clear HB; clear HO_5; have BK390 := n0_; have BK395 := n1_; have HB := n2_; have HO398 := n3_; clear n0_ n1_ n2_ n3_; clear ho hb hg hat))
        go_roundg k1
        case measure => have := HK1.out; omega
        case rel => exact ⟨(y396), (wrap64 (x12_1 + 1)), ax37, H', ⟨by have := HK1.out; omega⟩, ⟨by (with_reducible repeat (first | apply Kd.R_alloc | apply Kd.R_drewN | apply Kd.R_drew)); exact HO398.out⟩, ⟨by (with_reducible repeat (first | refine blk_drewN ?_ _ | refine blk_drew ?_ | refine blk_alloc ?_ _)); exact BK390.out⟩, ⟨by repeat (first | (with_reducible first | exact HB.out | apply below_alloc | apply pw_below_drewN | apply below_drew1 | refine below_set ?_ GE390.out | refine below_set ?_ GE395.out) | exact HB.out)⟩⟩
       ·exact ax12
      ·rw [if_neg c10] at H
       have c10b0 : (((rd_T67 l0_0 x12_1).f1) == a1) = false := beq_eq_false_iff_ne.mpr c10
       have c10b1 : (((rd_T67 l0_0 x12_1).f1) != a1) = true := bne_iff_ne.mpr c10
       have H' := Aside0.mk H
       clear H
       have p394 : 0 ≤ (x12_1 : Int) := of_decide_eq_true ax36
       have q394 : x12_1 < (l0_0.length : Int) := of_decide_eq_true ax36
       obtain ⟨ad394, e394, hx394_0, hx394_1, hx394_2⟩ := at_T67 HR0_0.out x12_1 p394 q394
       cases e394; replace hx394_0 := (HB.out.cell (World.block_lt_of_cell? w _ hx394_0)).trans hx394_0; replace hx394_1 := (HB.out.cell (World.block_lt_of_cell? w _ hx394_1)).trans hx394_1; replace hx394_2 := (HB.out.cell (World.block_lt_of_cell? w _ hx394_2)).trans hx394_2; replace p394 := eq_true p394; replace q394 := eq_true q394
       go_wp2_with (first | ((with_reducible refine gate_dst (N := 7) rfl ?_); refine box_event ?hg (N := 7) ?hd (cs := #[.int .i64 0, .int .i64 0, .bool false]) (t := 67) ?hr ?_; (case hd => rfl); (case hg => rfl); (case hr => exact ax22); intro gb395 hg w16 hbox hb; have n0_ := Aside0.mk (Kd.R_below ax143 hb); have n1_ := Aside0.mk (blk_below (g := gb390) (o := .cells #[.slice (some ad394) l0_0.length c0_0] 30 (0, 0)) ax200 hb); have n2_ := Aside0.mk (below_step ax199 hb); have n3_ := Aside0.mk (hbox); have n4_ := Aside0.mk ((ax201 : w.heap.size ≤ gb395)); have n5_ := Aside0.mk ((ax201 : w.heap.size ≤ gb395)); have n6_ := Aside0.mk ((ax202 : gb390 ≠ gb395)); have n7_ := Aside0.mk ((ax203 : gb395 ≠ gb390)); clear HO_5; clear BK390; clear HB; have HO_5 := n0_; have BK390 := n1_; have HB := n2_; have BK395 := n3_; have GW395 := n4_; have GE395 := n5_; have NB390_395 := n6_; have NB395_390 := n7_; clear n0_ n1_ n2_ n3_ n4_ n5_ n6_ n7_; clear hb hbox hg; have hnb17 := NB395_390.out; have hnc17 := NB390_395.out; have hcz18_0 : w16.cell? ⟨gb395, 0, none⟩ = some (.int .i64 0) := (blk_cell BK395.out 0).trans rfl; have hcz18_1 : w16.cell? ⟨gb395, 1, none⟩ = some (.int .i64 0) := (blk_cell BK395.out 1).trans rfl; have hcz18_2 : w16.cell? ⟨gb395, 2, none⟩ = some (.bool false) := (blk_cell BK395.out 2).trans rfl; have hfz18_0 := blk_frozen BK395.out 0; have hfz18_1 := blk_frozen BK395.out 1; have hfz18_2 := blk_frozen BK395.out 2))
       go_roundg k1
       case measure => have := HK1.out; omega
       case rel => exact ⟨(x5_1), (wrap64 (x12_1 + 1)), ax37, H', ⟨by have := HK1.out; omega⟩, ⟨by (with_reducible repeat (first | apply Kd.R_alloc | apply Kd.R_drewN | apply Kd.R_drew)); exact Kd.R_mono (Kd.R_far (p := ⟨gb395, 2, none⟩) (Kd.R_far (p := ⟨gb395, 1, none⟩) (Kd.R_far (p := ⟨gb395, 0, none⟩) (Kd.R_types HO_5.out BK395.out (by decide)) (fun _ hk => hk.2) (.int .i64 ((rd_T67 l0_0 x12_1).f0))) (fun _ hk => hk.2) (.int .i64 ((rd_T67 l0_0 x12_1).f1))) (fun _ hk => hk.2) (.bool ((rd_T67 l0_0 x12_1).f2))) (fun _ hk => trivial)⟩, ⟨by (with_reducible repeat (first | refine blk_drewN ?_ _ | refine blk_drew ?_ | refine blk_alloc ?_ _)); refine blk_far ?_ NB390_395.out _; (with_reducible repeat (first | refine blk_drewN ?_ _ | refine blk_drew ?_ | refine blk_alloc ?_ _)); refine blk_far ?_ NB390_395.out _; (with_reducible repeat (first | refine blk_drewN ?_ _ | refine blk_drew ?_ | refine blk_alloc ?_ _)); refine blk_far ?_ NB390_395.out _; (with_reducible repeat (first | refine blk_drewN ?_ _ | refine blk_drew ?_ | refine blk_alloc ?_ _)); exact BK390.out⟩, ⟨by repeat (first | (with_reducible first | exact HB.out | apply below_alloc | apply pw_below_drewN | apply below_drew1 | refine below_set ?_ GE390.out | refine below_set ?_ GE395.out) | exact HB.out)⟩⟩
     ·exact ax1
    ·rw [if_neg c8] at H
     exact absurd H (by simp)
   ·rw [if_neg c7] at H
    have c7b0 : decide (x12_1 < (l0_0.length : Int)) = false := decide_eq_false c7
    clear c7
    obtain rfl := Option.some.inj H
    go_wp2
    go_ret
    exact ⟨_, by first | rfl | (simp [errW_none, errW_some] <;> rfl) | (simp [*, errW_none, errW_some] <;> rfl), by (with_reducible repeat (first | apply Kd.R_alloc | apply Kd.R_drewN | apply Kd.R_drew)); exact HO_5.out, by repeat (first | (with_reducible first | exact HB.out | apply below_alloc | apply pw_below_drewN | apply below_drew1 | refine below_set ?_ GE390.out) | exact HB.out)⟩

/-! ### impl_game_isFatal: function 63 -/
def impl_game_isFatal.f (l0_0 : List (S67)) (a0_1 : Int) (l0_2 : List ByteArray) (a1 : Int) : Option (Bool) := if 0 ≤ a1 then (if a1 < (l0_0.length : Int) then (if (rd_T67 l0_0 a1).f2 = true then (if a1 < (l0_2.length : Int) then (some (decide (((rdOf ByteArray.empty l0_2 a1).size : Int) ≥ a0_1))) else (none)) else (some false)) else (none)) else (none)
set_option maxHeartbeats 8000000 in
set_option maxRecDepth 100000 in
theorem impl_game_isFatal.calls (G0 : Nat) (A0_0 : Option Addr) (c0_0 : Nat) (l0_0 : List (S67)) (a0_1 : Int) (A0_2 : Option Addr) (c0_2 : Nat) (l0_2 : List ByteArray) (a1 : Int) (r : Bool) (w : World) (hr0_0 : Kd.C k67 w A0_0 l0_0.length l0_0) (hc0_0 : l0_0.length ≤ c0_0) (hr0_2 : Kd.C Kd.string w A0_2 l0_2.length l0_2) (hc0_2 : l0_2.length ≤ c0_2) (hb0 : w.heap[G0]? = some (.cells #[.slice A0_0 l0_0.length c0_0, .int .i64 a0_1, .slice A0_2 l0_2.length c0_2] 69 (0, 0))) (h : impl_game_isFatal.f l0_0 a0_1 l0_2 a1 = some r) :
  Calls Try.prog 63 #[.pointer (some ⟨G0, 0, none⟩), .int .i64 a1] w fun e w' => e = .returned (.bool r) ∧ Below w.heap.size w w' := by
 have HR0_0 := Aside0.mk hr0_0; have HC0_0 := Aside0.mk hc0_0; clear hr0_0 hc0_0; have HR0_2 := Aside0.mk hr0_2; have HC0_2 := Aside0.mk hc0_2; clear hr0_2 hc0_2; have BK399 := Aside0.mk hb0; clear hb0; have HB := Aside0.mk (Below.refl w.heap.size w)
 have H : (if 0 ≤ a1 then (if a1 < (l0_0.length : Int) then (if (rd_T67 l0_0 a1).f2 = true then (if a1 < (l0_2.length : Int) then (some (decide (((rdOf ByteArray.empty l0_2 a1).size : Int) ≥ a0_1))) else (none)) else (some false)) else (none)) else (none)) = some r := h
 clear h
 by_cases c3 : 0 ≤ a1
 ·rw [if_pos c3] at H
  have c3b0 : decide (0 ≤ a1) = true := decide_eq_true c3
  clear c3
  by_cases c4 : a1 < (l0_0.length : Int)
  ·rw [if_pos c4] at H
   have c4b0 : decide (a1 < (l0_0.length : Int)) = true := decide_eq_true c4
   clear c4
   obtain ⟨bq5, hbq5⟩ : ∃ b_ : Bool, b_ = ((rd_T67 l0_0 a1).f2) := ⟨_, rfl⟩
   replace H : (if bq5 = true then (if a1 < (l0_2.length : Int) then (some (decide (((rdOf ByteArray.empty l0_2 a1).size : Int) ≥ a0_1))) else (none)) else (some false)) = some r := by rw [← hbq5] at H; exact H
   have Nbq5 := Aside0.mk hbq5; clear hbq5
   by_cases c6 : bq5 = true
   ·subst c6
    have H1 : (if a1 < (l0_2.length : Int) then (some (decide (((rdOf ByteArray.empty l0_2 a1).size : Int) ≥ a0_1))) else (none)) = some r := by rw [if_pos rfl] at H; exact H
    clear H; have H := H1; clear H1
    by_cases c7 : a1 < (l0_2.length : Int)
    ·rw [if_pos c7] at H
     have c7b0 : decide (a1 < (l0_2.length : Int)) = true := decide_eq_true c7
     clear c7
     obtain rfl := Option.some.inj H
     have hcz8_0 : w.cell? ⟨G0, 0, none⟩ = some (.slice A0_0 l0_0.length c0_0) := (blk_cell BK399.out 0).trans rfl
     have hcz8_1 : w.cell? ⟨G0, 1, none⟩ = some (.int .i64 a0_1) := (blk_cell BK399.out 1).trans rfl
     have hcz8_2 : w.cell? ⟨G0, 2, none⟩ = some (.slice A0_2 l0_2.length c0_2) := (blk_cell BK399.out 2).trans rfl
     have hfz8_0 := blk_frozen BK399.out 0; have hfz8_1 := blk_frozen BK399.out 1; have hfz8_2 := blk_frozen BK399.out 2
     have p400 : 0 ≤ (a1 : Int) := of_decide_eq_true ax36
     have q400 : a1 < (l0_0.length : Int) := of_decide_eq_true ax36
     obtain ⟨ad400, e400, hx400_0, hx400_1, hx400_2⟩ := at_T67 HR0_0.out a1 p400 q400
     (try rw [← Nbq5.out] at hx400_2)
     cases e400; replace p400 := eq_true p400; replace q400 := eq_true q400
     have p401 : 0 ≤ (a1 : Int) := of_decide_eq_true ax36
     have q401 : a1 < (l0_2.length : Int) := of_decide_eq_true ax36
     obtain ⟨ad401, e401, hx401_0⟩ := Kd.at_string HR0_2.out a1 p401 q401
     cases e401; replace p401 := eq_true p401; replace q401 := eq_true q401
     go_enter Try.func63, Try.ntmps63
     go_wp2
     repeat (go_quiet (fail); try go_wp2)
     go_ret
     exact ⟨by first | rfl | (simp [errW_none, errW_some] <;> rfl) | (simp [*, errW_none, errW_some] <;> rfl), by repeat (first | (with_reducible first | exact HB.out | apply below_alloc | apply pw_below_drewN | apply below_drew1 | refine below_set ?_ GE399.out) | exact HB.out)⟩
    ·exact ax2
   ·replace c6 := Bool.eq_false_iff.mpr c6
    subst c6
    have H1 : (some false) = some r := by rw [if_neg (show ¬ (false = true) by decide)] at H; exact H
    clear H; have H := H1; clear H1
    obtain rfl := Option.some.inj H
    have hcz9_0 : w.cell? ⟨G0, 0, none⟩ = some (.slice A0_0 l0_0.length c0_0) := (blk_cell BK399.out 0).trans rfl
    have hcz9_1 : w.cell? ⟨G0, 1, none⟩ = some (.int .i64 a0_1) := (blk_cell BK399.out 1).trans rfl
    have hcz9_2 : w.cell? ⟨G0, 2, none⟩ = some (.slice A0_2 l0_2.length c0_2) := (blk_cell BK399.out 2).trans rfl
    have hfz9_0 := blk_frozen BK399.out 0; have hfz9_1 := blk_frozen BK399.out 1; have hfz9_2 := blk_frozen BK399.out 2
    have p400 : 0 ≤ (a1 : Int) := of_decide_eq_true ax36
    have q400 : a1 < (l0_0.length : Int) := of_decide_eq_true ax36
    obtain ⟨ad400, e400, hx400_0, hx400_1, hx400_2⟩ := at_T67 HR0_0.out a1 p400 q400
    (try rw [← Nbq5.out] at hx400_2)
    cases e400; replace p400 := eq_true p400; replace q400 := eq_true q400
    go_enter Try.func63, Try.ntmps63
    go_wp2
    repeat (go_quiet (fail); try go_wp2)
    go_ret
    exact ⟨by first | rfl | (simp [errW_none, errW_some] <;> rfl) | (simp [*, errW_none, errW_some] <;> rfl), by repeat (first | (with_reducible first | exact HB.out | apply below_alloc | apply pw_below_drewN | apply below_drew1 | refine below_set ?_ GE399.out) | exact HB.out)⟩
  ·exact ax13
 ·rw [if_neg c3] at H
  exact absurd H (by simp)

/-! ### impl_game_wins: function 53: a contract of our own -/
def impl_game_wins.f : Nat → List (S67) → Int → List ByteArray → Int → Option Bool
 | 0, _, _, _, _ => none
 | k + 1, l0, a1, l2, node => (impl_Trie_kids.f k l0 node).bind fun ks => G.anyM (fun c => (impl_game_isFatal.f l0 a1 l2 c).bind fun b => if b = true then some false else (impl_game_wins.f k l0 a1 l2 c).bind fun b2 => some (!b2)) ks
theorem impl_game_wins.mono : ∀ a0 a1 a2 a3 k, LeO (impl_game_wins.f k a0 a1 a2 a3) (impl_game_wins.f (k + 1) a0 a1 a2 a3) := by
 intro a0 a1 a2 a3 k
 induction k generalizing a3 with
 | zero => exact fun r h => by simp [impl_game_wins.f] at h
 | succ k ih => exact LeO.bind (impl_Trie_kids.mono _ _ _) (fun ks => G.anyM_le ks (fun c => LeO.bind (LeO.refl _) (fun b => LeO.ite (LeO.refl _) (LeO.bind (ih c) (fun _ => LeO.refl _)))))
/-- The game lies at G0, as told. -/
def impl_game_wins.At (G0 : Nat) (A0 : Option Addr) (c0 : Nat) (l0 : List (S67)) (a1 : Int) (A2 : Option Addr) (c2 : Nat) (l2 : List ByteArray) (w : World) : Prop :=
 Kd.C k67 w A0 l0.length l0 ∧ l0.length ≤ c0 ∧ Kd.C Kd.string w A2 l2.length l2 ∧ l2.length ≤ c2 ∧ w.heap[G0]? = some (.cells #[.slice A0 l0.length c0, .int .i64 a1, .slice A2 l2.length c2] 69 (0, 0))
theorem impl_game_wins.At.below {G0 : Nat} {A0 : Option Addr} {c0 : Nat} {l0 : List (S67)} {a1 : Int} {A2 : Option Addr} {c2 : Nat} {l2 : List ByteArray} {w W : World} (h : impl_game_wins.At G0 A0 c0 l0 a1 A2 c2 l2 w) (hb : Below w.heap.size w W) : impl_game_wins.At G0 A0 c0 l0 a1 A2 c2 l2 W :=
 ⟨Kd.C_below h.1 hb, h.2.1, Kd.C_below h.2.2.1 hb, h.2.2.2.1, blk_below h.2.2.2.2 hb⟩
theorem impl_game_wins.good {G0 : Nat} {A0 : Option Addr} {c0 : Nat} {l0 : List (S67)} {a1 : Int} {A2 : Option Addr} {c2 : Nat} {l2 : List ByteArray} {w : World} (hA : impl_game_wins.At G0 A0 c0 l0 a1 A2 c2 l2 w) (c : Int) (F : Option Bool)
  (hF : ∀ q W, impl_game_wins.At G0 A0 c0 l0 a1 A2 c2 l2 W → F = some q → Calls Try.prog 53 #[.pointer (some ⟨G0, 0, none⟩), .int .i64 c] W fun e w' => e = .returned (.bool q) ∧ Below W.heap.size W w') (r : Bool)
  (h : ((impl_game_isFatal.f l0 a1 l2 c).bind fun b => if b = true then some false else F.bind fun b2 => some (!b2)) = some r) :
  Calls Try.prog 60 #[.pointer (some ⟨G0, 0, none⟩), .int .i64 c] w fun e w' => e = .returned (.bool r) ∧ Below w.heap.size w w' := by
 obtain ⟨b, hb, h⟩ := Option.bind_eq_some_iff.1 h
 have cF := impl_game_isFatal.calls G0 A0 c0 l0 a1 A2 c2 l2 c b w hA.1 hA.2.1 hA.2.2.1 hA.2.2.2.1 hA.2.2.2.2 hb; have HA := Aside0.mk hA; clear hA hb
 cases b with
 | true =>
  rw [if_pos rfl] at h
  obtain rfl := Option.some.inj h
  clear h hF
  go_enter Try.func60, Try.ntmps60
  go_wp2_with (go_at_call 63; refine cF.mono ?_; rintro e w' ⟨rfl, hB⟩; clear cF)
  go_ret
  exact ⟨rfl, hB⟩
 | false =>
  rw [if_neg (by decide)] at h
  obtain ⟨b2, hb2, h⟩ := Option.bind_eq_some_iff.1 h
  obtain rfl := Option.some.inj h
  have cW := fun w1 (hB : Below w.heap.size w w1) => hF b2 w1 (HA.out.below hB) hb2
  clear h hF hb2
  go_enter Try.func60, Try.ntmps60
  go_wp2_with (first
   | (go_at_call 63; refine cF.mono ?_; rintro e w1 ⟨rfl, hB⟩; have cW1 := cW w1 hB; have HB := Aside0.mk hB; clear cF cW hB)
   | (go_at_call 53; refine cW1.mono ?_; rintro e w2 ⟨rfl, hB2⟩; clear cW1))
  go_ret
  exact ⟨rfl, HB.out.trans (hB2.mono HB.out.size)⟩
set_option maxHeartbeats 2000000 in
theorem impl_game_wins.calls (k : Nat) (G0 : Nat) (A0_0 : Option Addr) (c0_0 : Nat) (l0_0 : List (S67)) (a0_1 : Int) (A0_2 : Option Addr) (c0_2 : Nat) (l0_2 : List ByteArray) (a1 : Int) (r : Bool) (w : World) (hr0_0 : Kd.C k67 w A0_0 l0_0.length l0_0) (hc0_0 : l0_0.length ≤ c0_0) (hr0_2 : Kd.C Kd.string w A0_2 l0_2.length l0_2) (hc0_2 : l0_2.length ≤ c0_2) (hb0 : w.heap[G0]? = some (.cells #[.slice A0_0 l0_0.length c0_0, .int .i64 a0_1, .slice A0_2 l0_2.length c0_2] 69 (0, 0))) (h : impl_game_wins.f k l0_0 a0_1 l0_2 a1 = some r) :
  Calls Try.prog 53 #[.pointer (some ⟨G0, 0, none⟩), .int .i64 a1] w fun e w' => e = .returned (.bool r) ∧ Below w.heap.size w w' := by
 have key : ∀ k a1 r w, impl_game_wins.At G0 A0_0 c0_0 l0_0 a0_1 A0_2 c0_2 l0_2 w → impl_game_wins.f k l0_0 a0_1 l0_2 a1 = some r → Calls Try.prog 53 #[.pointer (some ⟨G0, 0, none⟩), .int .i64 a1] w fun e w' => e = .returned (.bool r) ∧ Below w.heap.size w w' := by
  clear h hr0_0 hc0_0 hr0_2 hc0_2 hb0 k a1 r w
  intro k
  induction k with
  | zero => intro a1 r w _ h; exact absurd h (by simp [impl_game_wins.f])
  | succ k ih =>
   intro a1 r w hA h
   obtain ⟨ks, hks, hany⟩ := Option.bind_eq_some_iff.1 (show (impl_Trie_kids.f k l0_0 a1).bind _ = some r from h)
   have ck := impl_Trie_kids.calls k A0_0 c0_0 l0_0 a1 ks w hA.1 hA.2.1 hks
   obtain ⟨i, hi⟩ := G.idx_of_anyM hany
   have hri : r = decide (i ≥ 0) := Option.some.inj (hany.symm.trans (G.anyM_of_idx hi).2)
   have hall := fun (j : Nat) x hx hj => G.idxM_all hi j x hx hj
   have hnone := G.idxM_none hi
   have cg : ∀ (c : Int) (q : Bool) (W : World), Below w.heap.size w W → ((impl_game_isFatal.f l0_0 a0_1 l0_2 c).bind fun b => if b = true then some false else (impl_game_wins.f k l0_0 a0_1 l0_2 c).bind fun b2 => some (!b2)) = some q → Calls Try.prog 60 #[.pointer (some ⟨G0, 0, none⟩), .int .i64 c] W fun e w' => e = .returned (.bool q) ∧ Below W.heap.size W w' :=
    fun c q W hW hq => impl_game_wins.good (hA.below hW) c _ (fun q2 W2 hA2 hq2 => ih c q2 W2 hA2 hq2) q hq
   have hcz0 : w.cell? ⟨G0, 0, none⟩ = some (.slice A0_0 l0_0.length c0_0) := (blk_cell hA.2.2.2.2 0).trans rfl
   have hu := Try.underlying30; have HALL := Aside0.mk hall; have HNONE := Aside0.mk hnone; have HRI := Aside0.mk hri; have CG := Aside0.mk cg; clear h hA hks hany hi hri hall hnone cg ih
   go_enter Try.func53, Try.ntmps53
   go_wp2_with (go_at_call 59; refine ck.mono ?_; rintro e w1 ⟨v, rfl, hR, hB1⟩; obtain ⟨Ak, c_, rfl⟩ := Kd.R_slice hR; have HK := Aside0.mk (Kd.R_reads' hR); have HB1 := Aside0.mk hB1; clear ck hR hB1 hcz0)
   go_loopg [14] ks.length (fun gg s14 wr => ∃ kk : Nat, kk ≤ ks.length ∧ ks.length - kk ≤ gg ∧ s14 = .int .i64 kk ∧ Aside0 (Below w.heap.size w wr) ∧ Aside0 (Kd.C (Kd.int .i64) wr Ak ks.length ks) ∧ Aside0 (∀ (j : Nat) y, j < kk → ks[j]? = some y → ((impl_game_isFatal.f l0_0 a0_1 l0_2 y).bind fun b => if b = true then some false else (impl_game_wins.f k l0_0 a0_1 l0_2 y).bind fun b2 => some (!b2)) = some false))
   case atStart => exact ⟨0, Nat.zero_le _, by omega, rfl, HB1, ⟨HK.out.2.2⟩, ⟨fun j y hj => absurd hj (Nat.not_lt_zero _)⟩⟩
   case round =>
    obtain ⟨kk, hkk, hg, rfl, HB, HC, HA⟩ := hrel
    have hlen := HC.out.2.1
    by_cases hlt : kk < ks.length
    ·have hltz : (kk : Int) < (ks.length : Int) := by omega
     obtain ⟨ad, rfl, hcell⟩ := Kd.at_int HC.out (kk : Int) (by omega) (by omega)
     have hx : ks[kk]? = some (rd ks (kk : Int)) := by simp [rd, List.getD, List.getElem?_eq_getElem hlt]
     obtain ⟨q, hq, hqr⟩ := HALL.out kk _ hx HA.out
     have hcall := CG.out (rd ks (kk : Int)) q wr HB.out hq; generalize rd ks (kk : Int) = y at hcell hx hcall hq
     simp only [Int.toNat_natCast] at hcell
     have HX := Aside0.mk hx; have HQR := Aside0.mk hqr; have HQ := Aside0.mk hq; clear hx hq hqr
     cases q with
     | true =>
      have hrk := HQR.out rfl; have HRK := Aside0.mk hrk; clear hrk
      go_wp2_with (go_at_call 60; refine hcall.mono ?_; rintro e w' ⟨rfl, hb⟩)
      go_ret
      exact ⟨by rw [HRI.out, HRK.out]; simp, HB.out.trans (hb.mono HB.out.size)⟩
     | false =>
      go_wp2_with (go_at_call 60; refine hcall.mono ?_; rintro e w' ⟨rfl, hb⟩)
      go_roundg (ks.length - (kk + 1))
      case measure => omega
      case rel =>
       refine ⟨kk + 1, by omega, by omega, by go_num, ⟨HB.out.trans (hb.mono HB.out.size)⟩, ⟨Kd.C_below HC.out hb⟩, ⟨fun j z hj hz => ?_⟩⟩
       by_cases e : j = kk
       ·subst e; rw [HX.out] at hz; cases hz; exact HQ.out
       ·exact HA.out j z (by omega) hz
    ·have hltz : ¬ (kk : Int) < (ks.length : Int) := by omega
     have hend : i = -1 := HNONE.out (fun j x hx => HA.out j x ax192 hx)
     have HE := Aside0.mk hend; clear hend
     go_wp2
     go_ret
     exact ⟨by rw [HRI.out, HE.out]; rfl, HB.out⟩
 exact key k a1 r w ⟨hr0_0, hc0_0, hr0_2, hc0_2, hb0⟩ h

/-! ### impl_game_isGood: function 60: a contract of our own -/
def impl_game_isGood.f (k : Nat) (l0 : List (S67)) (a1 : Int) (l2 : List ByteArray) (node : Int) : Option Bool := (impl_game_isFatal.f l0 a1 l2 node).bind fun b => if b = true then some false else (impl_game_wins.f k l0 a1 l2 node).bind fun b2 => some (!b2)
theorem impl_game_isGood.mono : ∀ a0 a1 a2 a3 k, LeO (impl_game_isGood.f k a0 a1 a2 a3) (impl_game_isGood.f (k + 1) a0 a1 a2 a3) := fun a0 a1 a2 a3 k =>
 LeO.bind (LeO.refl _) (fun b => LeO.ite (LeO.refl _) (LeO.bind (impl_game_wins.mono _ _ _ _ _) (fun _ => LeO.refl _)))
theorem impl_game_isGood.calls (k : Nat) (G0 : Nat) (A0_0 : Option Addr) (c0_0 : Nat) (l0_0 : List (S67)) (a0_1 : Int) (A0_2 : Option Addr) (c0_2 : Nat) (l0_2 : List ByteArray) (a1 : Int) (r : Bool) (w : World) (hr0_0 : Kd.C k67 w A0_0 l0_0.length l0_0) (hc0_0 : l0_0.length ≤ c0_0) (hr0_2 : Kd.C Kd.string w A0_2 l0_2.length l0_2) (hc0_2 : l0_2.length ≤ c0_2) (hb0 : w.heap[G0]? = some (.cells #[.slice A0_0 l0_0.length c0_0, .int .i64 a0_1, .slice A0_2 l0_2.length c0_2] 69 (0, 0))) (h : impl_game_isGood.f k l0_0 a0_1 l0_2 a1 = some r) :
  Calls Try.prog 60 #[.pointer (some ⟨G0, 0, none⟩), .int .i64 a1] w fun e w' => e = .returned (.bool r) ∧ Below w.heap.size w w' :=
 impl_game_wins.good ⟨hr0_0, hc0_0, hr0_2, hc0_2, hb0⟩ a1 _ (fun q W hA hq => impl_game_wins.calls k G0 A0_0 c0_0 l0_0 a0_1 A0_2 c0_2 l0_2 a1 q W hA.1 hA.2.1 hA.2.2.1 hA.2.2.2.1 hA.2.2.2.2 hq) r h

/-! ### strings_Join: function 75: a contract of our own -/
def strings_Join.f (l0 : List ByteArray) (a1 : ByteArray) : Option ByteArray := if l0.length ≤ 1000000000 ∧ (Lib.join (l0.map (·.data.toList)) a1.data.toList).length ≤ 140737488355328 then some ⟨(Lib.join (l0.map (·.data.toList)) a1.data.toList).toArray⟩ else none
theorem strings_Join.calls (A : Option Addr) (c : Nat) (l0 : List ByteArray) (a1 : ByteArray) (r : ByteArray) (w : World) (hr : Kd.string.C w A l0.length l0) (hc : l0.length ≤ c) (h : strings_Join.f l0 a1 = some r) :
  Calls Try.prog 75 #[.slice A l0.length c, .string a1] w fun e w' => e = .returned (.string r) ∧ Below w.heap.size w w' := by
 unfold strings_Join.f at h
 by_cases hm : l0.length ≤ 1000000000 ∧ (Lib.join (l0.map (·.data.toList)) a1.data.toList).length ≤ 140737488355328
 case neg => rw [if_neg hm] at h; cases h
 rw [if_pos hm] at h
 obtain rfl := Option.some.inj h
 clear h
 by_cases h0 : l0.length = 0
 ·obtain rfl := List.length_eq_zero_iff.1 h0
  refine (Try.strings_Join_none A c a1 w).mono ?_
  rintro e w' ⟨rfl, rfl⟩
  exact ⟨rfl, Below.refl _ _⟩
 obtain ⟨ad, hA, hcell⟩ := Kd.at_string hr 0 (by omega) (by omega)
 have hlt := World.block_lt_of_cell? w _ hcell
 obtain ⟨b, o, sp⟩ := ad
 have hsp : sp = none := by
  cases sp with
  | none => rfl
  | some s =>
   simp only [Addr.add, Int.toNat_zero, if_true, World.cell?] at hcell
   split at hcell <;> simp at hcell
 subst hsp; subst hA
 have hcells : ∀ (j : Nat) x, l0[j]? = some x → w.cell? ⟨b, o + j, none⟩ = some (.string x) := by
  intro j x hx
  have hj : j < l0.length := (List.getElem?_eq_some_iff.1 hx).1
  obtain ⟨ad, hA, hc2⟩ := Kd.at_string hr j (by omega) (by omega)
  cases hA
  rw [Int.toNat_natCast] at hc2
  have e1 : Addr.add ⟨b, o, none⟩ j = ⟨b, o + j, none⟩ := by
   unfold Addr.add
   by_cases hj0 : j = 0
   ·subst hj0; rfl
   ·rw [if_neg hj0]
  rw [e1] at hc2
  rw [hc2]
  congr 2
  show l0.getD (j : Int).toNat _ = x
  rw [Int.toNat_natCast, List.getD_eq_getElem?_getD, hx]; rfl
 refine (Try.strings_Join b o c l0 a1 w hcells hlt (by omega) hc hm.2).mono ?_
 rintro e w' ⟨rfl, hb⟩
 exact ⟨rfl, hb⟩

end Go.Proofs.Ytcbjfflaamlpcaa.X

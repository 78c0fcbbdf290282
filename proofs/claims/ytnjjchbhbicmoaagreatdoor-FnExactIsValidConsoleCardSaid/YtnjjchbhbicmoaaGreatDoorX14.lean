-- By gen.py (the session's own program over the kit's printer): functions of the program, each with its contract. Lean checks it.
import Derived.Test.YtnjjchbhbicmoaaGreatDoorX0
import Derived.Test.YtnjjchbhbicmoaaGreatDoorX11
import Derived.Test.YtnjjchbhbicmoaaGreatDoorX12
import Derived.Test.YtnjjchbhbicmoaaGreatDoorX13
namespace Go.Proofs.YtnjjchbhbicmoaaGreatDoor.X
open Go.RowKit Go.Proofs.YtnjjchbhbicmoaaGreatDoorW.PrintWords Go.Proofs.YtnjjchbhbicmoaaGreatDoorW.PrintLast Go.Proofs.YtnjjchbhbicmoaaGreatDoorW.PrintMore
attribute [local go_sem] max2_int min2_int max_two min_two max_three min_three max_four min_four   -- for this text's walks alone
set_option linter.unusedVariables false
set_option linter.unusedSimpArgs false

/-! ### impl_Book_trie: function 22 -/
def impl_Book_trie.f (k : Nat) (a0_0 : ByteArray) (a0_1 : ByteArray) (a0_2 : Int) : Option ((List (S68)) × Bool) := (impl_Book_wordsOf.f a0_0 a0_1 a0_2).bind fun t348 => (if (t348.length : Int) > 40 then (some (([] : List (S68)), false)) else ((slices_ContainsFunc_string_string.f t348 (fun z_ => impl_Book_trie_1.f z_)).bind fun t351 => (if t351 = true then (some (([] : List (S68)), false)) else ((impl_set.f t348).bind fun t352 => ((slices_Equal_string_string.f k t352 t348).bind fun t355 => (if t355 = true then ((impl_trieOf.f k t348).bind fun t356 => (some (t356, true))) else (some (([] : List (S68)), false))))))))
theorem impl_Book_trie.mono : ∀ a0 a1 a2 k, LeO (impl_Book_trie.f k a0 a1 a2) (impl_Book_trie.f (k + 1) a0 a1 a2) := by
 intro a0 a1 a2 k
 unfold impl_Book_trie.f
 repeat' first | (with_reducible first | exact impl_trieOf.mono .. | exact slices_Equal_string_string.mono .. | exact LeO.refl _ | exact LeO.none _ | refine LeO.ite ?_ ?_ | refine LeO.bind ?_ (fun _ => ?_)) | exact impl_trieOf.mono .. | exact slices_Equal_string_string.mono .. | exact LeO.none _ | refine LeO.ite ?_ ?_ | refine LeO.bind ?_ (fun _ => ?_)
set_option maxHeartbeats 8000000 in
set_option maxRecDepth 100000 in
theorem impl_Book_trie.calls (k : Nat) (a0_0 : ByteArray) (a0_1 : ByteArray) (a0_2 : Int) (r1 : List (S68)) (r2 : Bool) (w : World) (hG : GL w) (h : impl_Book_trie.f k a0_0 a0_1 a0_2 = some (r1, r2)) :
  Calls Tryz.prog 22 #[.agg #[.string a0_0, .string a0_1, .int .i64 a0_2]] w fun e w' => ∃ v0_ : Value, e = .returned (.tuple #[.agg #[v0_], .bool r2]) ∧ Kd.R k68 68 w' w.heap.size (fun _ => True) v0_ r1 ∧ Below w.heap.size w w' := by
 have hu30 := Tryz.underlying30; have hu51 := Tryz.underlying51; have HB := Aside0.mk (Below.refl w.heap.size w); have HG := Aside0.mk hG; clear hG
 have H : ((impl_Book_wordsOf.f a0_0 a0_1 a0_2).bind fun t348 => (if (t348.length : Int) > 40 then (some (([] : List (S68)), false)) else ((slices_ContainsFunc_string_string.f t348 (fun z_ => impl_Book_trie_1.f z_)).bind fun t351 => (if t351 = true then (some (([] : List (S68)), false)) else ((impl_set.f t348).bind fun t352 => ((slices_Equal_string_string.f k t352 t348).bind fun t355 => (if t355 = true then ((impl_trieOf.f k t348).bind fun t356 => (some (t356, true))) else (some (([] : List (S68)), false))))))))) = some (r1, r2) := h
 clear h
 obtain ⟨t348, A2, H⟩ := bs H
 by_cases c3 : (t348.length : Int) > 40
 ·rw [if_pos c3] at H
  have c3b0 : decide (40 < (t348.length : Int)) = true := decide_eq_true c3
  have c3b1 : decide (40 < t348.length) = true := decide_eq_true (by omega)
  clear c3
  simp only [Option.some.injEq, Prod.mk.injEq] at H
  obtain ⟨rfl, rfl⟩ := H
  go_enter Tryz.func22, Tryz.ntmps22
  go_wp2_with (first | ((with_reducible refine gate_dst (N := 1) rfl ?_); refine box_event ?hg (N := 1) ?hd (cs := #[.string a0_0, .string a0_1, .int .i64 a0_2]) (t := 30) ?hr ?_; (case hd => rfl); (case hg => rfl); (case hr => exact ax8); intro gb346 hg w4 hbox hb; have n0_ := Aside0.mk (below_step ax9 hb); have n1_ := Aside0.mk (hbox); have n2_ := Aside0.mk ((ax10 : w.heap.size ≤ gb346)); have n3_ := Aside0.mk ((ax10 : w.heap.size ≤ gb346)); clear HB; have HB := n0_; have BK346 := n1_; have GW346 := n2_; have GE346 := n3_; clear n0_ n1_ n2_ n3_; clear hb hbox hg) | ((with_reducible refine gate_dst (N := 2) rfl ?_); refine box_event ?hg (N := 2) ?hd (cs := #[.slice none 0 0]) (t := 51) ?hr ?_; (case hd => rfl); (case hg => rfl); (case hr => exact ax8); intro gb347 hg w5 hbox hb; have n0_ := Aside0.mk (blk_below (g := gb346) (o := .cells #[.string a0_0, .string a0_1, .int .i64 a0_2] 30 (0, 0)) ax181 hb); have n1_ := Aside0.mk (below_step ax182 hb); have n2_ := Aside0.mk (hbox); have n3_ := Aside0.mk ((ax183 : w.heap.size ≤ gb347)); have n4_ := Aside0.mk ((ax183 : w.heap.size ≤ gb347)); have n5_ := Aside0.mk ((ax184 : gb346 ≠ gb347)); have n6_ := Aside0.mk ((ax185 : gb347 ≠ gb346)); clear BK346; clear HB; have BK346 := n0_; have HB := n1_; have BK347 := n2_; have GW347 := n3_; have GE347 := n4_; have NB346_347 := n5_; have NB347_346 := n6_; clear n0_ n1_ n2_ n3_ n4_ n5_ n6_; clear hb hbox hg; have hnb6 := NB346_347.out; have hnc6 := NB347_346.out; have hcz7_0 : w5.cell? ⟨gb346, 0, none⟩ = some (.string a0_0) := (blk_cell BK346.out 0).trans rfl; have hcz7_1 : w5.cell? ⟨gb346, 1, none⟩ = some (.string a0_1) := (blk_cell BK346.out 1).trans rfl; have hcz7_2 : w5.cell? ⟨gb346, 2, none⟩ = some (.int .i64 a0_2) := (blk_cell BK346.out 2).trans rfl; have hfz7_0 := blk_frozen BK346.out 0; have hfz7_1 := blk_frozen BK346.out 1; have hfz7_2 := blk_frozen BK346.out 2) | ((with_reducible refine gate_callee (f := 35) rfl ?_); refine goesL_ (some 6) rfl rfl Tryz.func35 (by kernel_rfl) rfl #[.agg #[.string a0_0, .string a0_1, .int .i64 a0_2]] rfl ax12 ?_; (with_reducible refine (impl_Book_wordsOf.calls a0_0 a0_1 a0_2 t348 _ ?side1 A2.out).mono ?_); (case side1 => exact ax186); rintro e w8 ⟨v349, rfl, ho0, hb⟩; refine ⟨_, rfl, ?_⟩; have n0_ := Aside0.mk (Kd.R_lower ho0 (below_size ax187)); have n1_ := Aside0.mk (blk_below (g := gb346) (o := .cells #[.string a0_0, .string a0_1, .int .i64 a0_2] 30 (0, 0)) ax181 hb); have n2_ := Aside0.mk (blk_below (g := gb347) (o := .cells #[.slice none 0 0] 51 (0, 0)) ax188 hb); have n3_ := Aside0.mk (below_step ax187 hb); clear BK346; clear BK347; clear HB; have HO350 := n0_; have BK346 := n1_; have BK347 := n2_; have HB := n3_; clear n0_ n1_ n2_ n3_; (try clear hb); (try clear hb2); (try clear hk); (try clear hi); (try clear ho0); obtain ⟨Ao9, co9, eo9⟩ := Kd.R_slice HO350.out; subst eo9; have hcz10_0 : w8.cell? ⟨gb347, 0, none⟩ = some (.slice none 0 0) := (blk_cell BK347.out 0).trans rfl; have hfz10_0 := blk_frozen BK347.out 0))
  refine bodyPost_ret (results_ct rfl _ _ gb347 51 #[.slice none 0 0] (0, 0) _ rfl ax189 Tryz.underlying51 rfl (by kernel_rfl)) rfl ?_
  exact ⟨_, by first | rfl | (simp [errW_none, errW_some] <;> rfl) | (simp [*, errW_none, errW_some] <;> rfl), by first | exact Kd.R_nil _ _ _ _ _ | exact Kd.N_nil _ _ _ _ _ | exact Kd.V_nil _ _ _ _ _ | exact Kd.Q_nil _ _ _ _ _ | exact Kd.S_nil _ _ _ _ _, by repeat (first | (with_reducible first | exact HB.out | apply below_alloc | apply pw_below_drewN | apply below_drew1 | refine below_set ?_ GE346.out | refine below_set ?_ GE347.out) | exact HB.out)⟩
 ·rw [if_neg c3] at H
  have c3b0 : decide (40 < (t348.length : Int)) = false := decide_eq_false c3
  have c3b1 : decide (40 < t348.length) = false := decide_eq_false (by omega)
  clear c3
  obtain ⟨t351, A11, H⟩ := bs H
  by_cases c12 : t351 = true
  ·subst c12
   rw [if_pos rfl] at H
   simp only [Option.some.injEq, Prod.mk.injEq] at H
   obtain ⟨rfl, rfl⟩ := H
   go_enter Tryz.func22, Tryz.ntmps22
   go_wp2_with (first | ((with_reducible refine gate_dst (N := 1) rfl ?_); refine box_event ?hg (N := 1) ?hd (cs := #[.string a0_0, .string a0_1, .int .i64 a0_2]) (t := 30) ?hr ?_; (case hd => rfl); (case hg => rfl); (case hr => exact ax8); intro gb346 hg w13 hbox hb; have n0_ := Aside0.mk (below_step ax9 hb); have n1_ := Aside0.mk (hbox); have n2_ := Aside0.mk ((ax10 : w.heap.size ≤ gb346)); have n3_ := Aside0.mk ((ax10 : w.heap.size ≤ gb346)); clear HB; have HB := n0_; have BK346 := n1_; have GW346 := n2_; have GE346 := n3_; clear n0_ n1_ n2_ n3_; clear hb hbox hg) | ((with_reducible refine gate_dst (N := 2) rfl ?_); refine box_event ?hg (N := 2) ?hd (cs := #[.slice none 0 0]) (t := 51) ?hr ?_; (case hd => rfl); (case hg => rfl); (case hr => exact ax8); intro gb347 hg w14 hbox hb; have n0_ := Aside0.mk (blk_below (g := gb346) (o := .cells #[.string a0_0, .string a0_1, .int .i64 a0_2] 30 (0, 0)) ax181 hb); have n1_ := Aside0.mk (below_step ax182 hb); have n2_ := Aside0.mk (hbox); have n3_ := Aside0.mk ((ax183 : w.heap.size ≤ gb347)); have n4_ := Aside0.mk ((ax183 : w.heap.size ≤ gb347)); have n5_ := Aside0.mk ((ax184 : gb346 ≠ gb347)); have n6_ := Aside0.mk ((ax185 : gb347 ≠ gb346)); clear BK346; clear HB; have BK346 := n0_; have HB := n1_; have BK347 := n2_; have GW347 := n3_; have GE347 := n4_; have NB346_347 := n5_; have NB347_346 := n6_; clear n0_ n1_ n2_ n3_ n4_ n5_ n6_; clear hb hbox hg; have hnb15 := NB346_347.out; have hnc15 := NB347_346.out; have hcz16_0 : w14.cell? ⟨gb346, 0, none⟩ = some (.string a0_0) := (blk_cell BK346.out 0).trans rfl; have hcz16_1 : w14.cell? ⟨gb346, 1, none⟩ = some (.string a0_1) := (blk_cell BK346.out 1).trans rfl; have hcz16_2 : w14.cell? ⟨gb346, 2, none⟩ = some (.int .i64 a0_2) := (blk_cell BK346.out 2).trans rfl; have hfz16_0 := blk_frozen BK346.out 0; have hfz16_1 := blk_frozen BK346.out 1; have hfz16_2 := blk_frozen BK346.out 2) | ((with_reducible refine gate_callee (f := 35) rfl ?_); refine goesL_ (some 6) rfl rfl Tryz.func35 (by kernel_rfl) rfl #[.agg #[.string a0_0, .string a0_1, .int .i64 a0_2]] rfl ax12 ?_; (with_reducible refine (impl_Book_wordsOf.calls a0_0 a0_1 a0_2 t348 _ ?side1 A2.out).mono ?_); (case side1 => exact ax186); rintro e w17 ⟨v349, rfl, ho0, hb⟩; refine ⟨_, rfl, ?_⟩; have n0_ := Aside0.mk (Kd.R_lower ho0 (below_size ax187)); have n1_ := Aside0.mk (blk_below (g := gb346) (o := .cells #[.string a0_0, .string a0_1, .int .i64 a0_2] 30 (0, 0)) ax181 hb); have n2_ := Aside0.mk (blk_below (g := gb347) (o := .cells #[.slice none 0 0] 51 (0, 0)) ax188 hb); have n3_ := Aside0.mk (below_step ax187 hb); clear BK346; clear BK347; clear HB; have HO350 := n0_; have BK346 := n1_; have BK347 := n2_; have HB := n3_; clear n0_ n1_ n2_ n3_; (try clear hb); (try clear hb2); (try clear hk); (try clear hi); (try clear ho0); obtain ⟨Ao18, co18, eo18⟩ := Kd.R_slice HO350.out; subst eo18) | (go_at_call 36; (with_reducible refine (slices_ContainsFunc_string_string.calls _ _ t348 (fun z_ => impl_Book_trie_1.f z_) true _ ?side1 ?side2 ?side3 ?side4 A11.out).mono ?_); (case side1 => exact ax190); (case side2 => exact ax191); (case side3 => exact ax192); (case side4 => exact ax193); rintro e w19 ⟨rfl, hb⟩; have n0_ := Aside0.mk (Kd.R_below ax194 hb); have n1_ := Aside0.mk (blk_below (g := gb346) (o := .cells #[.string a0_0, .string a0_1, .int .i64 a0_2] 30 (0, 0)) ax181 hb); have n2_ := Aside0.mk (blk_below (g := gb347) (o := .cells #[.slice none 0 0] 51 (0, 0)) ax188 hb); have n3_ := Aside0.mk (below_step ax187 hb); clear HO350; clear BK346; clear BK347; clear HB; have HO350 := n0_; have BK346 := n1_; have BK347 := n2_; have HB := n3_; clear n0_ n1_ n2_ n3_; (try clear hb); (try clear hb2); (try clear hk); (try clear hi); have hcz20_0 : w19.cell? ⟨gb347, 0, none⟩ = some (.slice none 0 0) := (blk_cell BK347.out 0).trans rfl; have hfz20_0 := blk_frozen BK347.out 0))
   refine bodyPost_ret (results_ct rfl _ _ gb347 51 #[.slice none 0 0] (0, 0) _ rfl ax189 Tryz.underlying51 rfl (by kernel_rfl)) rfl ?_
   exact ⟨_, by first | rfl | (simp [errW_none, errW_some] <;> rfl) | (simp [*, errW_none, errW_some] <;> rfl), by first | exact Kd.R_nil _ _ _ _ _ | exact Kd.N_nil _ _ _ _ _ | exact Kd.V_nil _ _ _ _ _ | exact Kd.Q_nil _ _ _ _ _ | exact Kd.S_nil _ _ _ _ _, by repeat (first | (with_reducible first | exact HB.out | apply below_alloc | apply pw_below_drewN | apply below_drew1 | refine below_set ?_ GE346.out | refine below_set ?_ GE347.out) | exact HB.out)⟩
  ·replace c12 := Bool.eq_false_iff.mpr c12
   subst c12
   rw [if_neg (show ¬ (false = true) by decide)] at H
   obtain ⟨t352, A21, H⟩ := bs H
   obtain ⟨t355, A22, H⟩ := bs H
   by_cases c23 : t355 = true
   ·subst c23
    rw [if_pos rfl] at H
    obtain ⟨t356, A24, H⟩ := bs H
    simp only [Option.some.injEq, Prod.mk.injEq] at H
    obtain ⟨rfl, rfl⟩ := H
    go_enter Tryz.func22, Tryz.ntmps22
    go_wp2_with (first | ((with_reducible refine gate_dst (N := 1) rfl ?_); refine box_event ?hg (N := 1) ?hd (cs := #[.string a0_0, .string a0_1, .int .i64 a0_2]) (t := 30) ?hr ?_; (case hd => rfl); (case hg => rfl); (case hr => exact ax8); intro gb346 hg w25 hbox hb; have n0_ := Aside0.mk (below_step ax9 hb); have n1_ := Aside0.mk (hbox); have n2_ := Aside0.mk ((ax10 : w.heap.size ≤ gb346)); have n3_ := Aside0.mk ((ax10 : w.heap.size ≤ gb346)); clear HB; have HB := n0_; have BK346 := n1_; have GW346 := n2_; have GE346 := n3_; clear n0_ n1_ n2_ n3_; clear hb hbox hg) | ((with_reducible refine gate_dst (N := 2) rfl ?_); refine box_event ?hg (N := 2) ?hd (cs := #[.slice none 0 0]) (t := 51) ?hr ?_; (case hd => rfl); (case hg => rfl); (case hr => exact ax8); intro gb347 hg w26 hbox hb; have n0_ := Aside0.mk (blk_below (g := gb346) (o := .cells #[.string a0_0, .string a0_1, .int .i64 a0_2] 30 (0, 0)) ax181 hb); have n1_ := Aside0.mk (below_step ax182 hb); have n2_ := Aside0.mk (hbox); have n3_ := Aside0.mk ((ax183 : w.heap.size ≤ gb347)); have n4_ := Aside0.mk ((ax183 : w.heap.size ≤ gb347)); have n5_ := Aside0.mk ((ax184 : gb346 ≠ gb347)); have n6_ := Aside0.mk ((ax185 : gb347 ≠ gb346)); clear BK346; clear HB; have BK346 := n0_; have HB := n1_; have BK347 := n2_; have GW347 := n3_; have GE347 := n4_; have NB346_347 := n5_; have NB347_346 := n6_; clear n0_ n1_ n2_ n3_ n4_ n5_ n6_; clear hb hbox hg; have hnb27 := NB346_347.out; have hnc27 := NB347_346.out; have hcz28_0 : w26.cell? ⟨gb346, 0, none⟩ = some (.string a0_0) := (blk_cell BK346.out 0).trans rfl; have hcz28_1 : w26.cell? ⟨gb346, 1, none⟩ = some (.string a0_1) := (blk_cell BK346.out 1).trans rfl; have hcz28_2 : w26.cell? ⟨gb346, 2, none⟩ = some (.int .i64 a0_2) := (blk_cell BK346.out 2).trans rfl; have hfz28_0 := blk_frozen BK346.out 0; have hfz28_1 := blk_frozen BK346.out 1; have hfz28_2 := blk_frozen BK346.out 2) | ((with_reducible refine gate_callee (f := 35) rfl ?_); refine goesL_ (some 6) rfl rfl Tryz.func35 (by kernel_rfl) rfl #[.agg #[.string a0_0, .string a0_1, .int .i64 a0_2]] rfl ax12 ?_; (with_reducible refine (impl_Book_wordsOf.calls a0_0 a0_1 a0_2 t348 _ ?side1 A2.out).mono ?_); (case side1 => exact ax186); rintro e w29 ⟨v349, rfl, ho0, hb⟩; refine ⟨_, rfl, ?_⟩; have n0_ := Aside0.mk (Kd.R_lower ho0 (below_size ax187)); have n1_ := Aside0.mk (blk_below (g := gb346) (o := .cells #[.string a0_0, .string a0_1, .int .i64 a0_2] 30 (0, 0)) ax181 hb); have n2_ := Aside0.mk (blk_below (g := gb347) (o := .cells #[.slice none 0 0] 51 (0, 0)) ax188 hb); have n3_ := Aside0.mk (below_step ax187 hb); clear BK346; clear BK347; clear HB; have HO350 := n0_; have BK346 := n1_; have BK347 := n2_; have HB := n3_; clear n0_ n1_ n2_ n3_; (try clear hb); (try clear hb2); (try clear hk); (try clear hi); (try clear ho0); obtain ⟨Ao30, co30, eo30⟩ := Kd.R_slice HO350.out; subst eo30) | (go_at_call 36; (with_reducible refine (slices_ContainsFunc_string_string.calls _ _ t348 (fun z_ => impl_Book_trie_1.f z_) false _ ?side1 ?side2 ?side3 ?side4 A11.out).mono ?_); (case side1 => exact ax190); (case side2 => exact ax191); (case side3 => exact ax192); (case side4 => exact ax193); rintro e w31 ⟨rfl, hb⟩; have n0_ := Aside0.mk (Kd.R_below ax194 hb); have n1_ := Aside0.mk (blk_below (g := gb346) (o := .cells #[.string a0_0, .string a0_1, .int .i64 a0_2] 30 (0, 0)) ax181 hb); have n2_ := Aside0.mk (blk_below (g := gb347) (o := .cells #[.slice none 0 0] 51 (0, 0)) ax188 hb); have n3_ := Aside0.mk (below_step ax187 hb); clear HO350; clear BK346; clear BK347; clear HB; have HO350 := n0_; have BK346 := n1_; have BK347 := n2_; have HB := n3_; clear n0_ n1_ n2_ n3_; (try clear hb); (try clear hb2); (try clear hk); (try clear hi)) | (go_at_call 40; (with_reducible refine (impl_set.calls _ _ t348 t352 _ ?side1 ?side2 A21.out).mono ?_); (case side1 => exact ax190); (case side2 => exact ax191); rintro e w32 ⟨v353, rfl, ho0, hb⟩; have n0_ := Aside0.mk (Kd.R_elder' ax194 (Kd.R_base ho0) hb); have n1_ := Aside0.mk (Kd.R_lower (Kd.R_new' ho0 (Kd.R_lt ax194)) (below_size ax187)); have n2_ := Aside0.mk (blk_below (g := gb346) (o := .cells #[.string a0_0, .string a0_1, .int .i64 a0_2] 30 (0, 0)) ax181 hb); have n3_ := Aside0.mk (blk_below (g := gb347) (o := .cells #[.slice none 0 0] 51 (0, 0)) ax188 hb); have n4_ := Aside0.mk (below_step ax187 hb); clear HO350; clear BK346; clear BK347; clear HB; have HO350 := n0_; have HO354 := n1_; have BK346 := n2_; have BK347 := n3_; have HB := n4_; clear n0_ n1_ n2_ n3_ n4_; (try clear hb); (try clear hb2); (try clear hk); (try clear hi); (try clear ho0); obtain ⟨Ao33, co33, eo33⟩ := Kd.R_slice HO354.out; subst eo33) | (go_at_call 39; (with_reducible refine (slices_Equal_string_string.calls k _ _ t352 _ _ t348 true _ ?side1 ?side2 ?side3 ?side4 A22.out).mono ?_); (case side1 => exact ax195); (case side2 => exact (Kd.R_reads' HO354.out).2.1); (case side3 => exact ax190); (case side4 => exact ax191); rintro e w' ⟨rfl, ⟨nd, rfl⟩⟩; (try (rw [drewN_self w32]; generalize hq_ : World.drewN w32 _ = w32; have n0_ : Aside0 (Kd.R Kd.string 9 w32 w.heap.size (fun k_ => some k_ ≠ (.slice Ao33 t352.length co33 : Value).ownBlock) (.slice Ao30 t348.length co30) t348) := ⟨ax196⟩; have n1_ : Aside0 (Kd.R Kd.string 9 w32 w.heap.size (fun k_ => some k_ ≠ (.slice Ao30 t348.length co30 : Value).ownBlock) (.slice Ao33 t352.length co33) t352) := ⟨ax197⟩; have n2_ : Aside0 (w32.heap[gb346]? = some (.cells #[.string a0_0, .string a0_1, .int .i64 a0_2] 30 (0, 0))) := ⟨ax198⟩; have n3_ : Aside0 (w32.heap[gb347]? = some (.cells #[.slice none 0 0] 51 (0, 0))) := ⟨ax199⟩; have n4_ : Aside0 (Below w.heap.size w w32) := ⟨ax200⟩; clear HO350 HO354 BK346 BK347 HB hq_; have HO350 := n0_; have HO354 := n1_; have BK346 := n2_; have BK347 := n3_; have HB := n4_; clear n0_ n1_ n2_ n3_ n4_))) | ((with_reducible refine gate_callee (f := 41) rfl ?_); refine goesL_ (some 23) rfl rfl Tryz.func41 (by kernel_rfl) rfl #[.slice Ao30 t348.length co30] rfl ax12 ?_; (with_reducible refine (impl_trieOf.calls k _ _ t348 t356 _ ?side1 ?side2 A24.out).mono ?_); (case side1 => exact ax190); (case side2 => exact ax191); rintro e w34 ⟨v357, rfl, ho0, hb⟩; refine ⟨_, rfl, ?_⟩; have n0_ := Aside0.mk (Kd.R_below ax194 hb); have n1_ := Aside0.mk (Kd.R_below (by (with_reducible repeat (first | apply Kd.R_alloc | apply Kd.R_drewN | apply Kd.R_drew)); exact HO354.out) hb); have n2_ := Aside0.mk (Kd.R_lower ho0 (below_size ax187)); have n3_ := Aside0.mk (blk_below (g := gb346) (o := .cells #[.string a0_0, .string a0_1, .int .i64 a0_2] 30 (0, 0)) ax181 hb); have n4_ := Aside0.mk (blk_below (g := gb347) (o := .cells #[.slice none 0 0] 51 (0, 0)) ax188 hb); have n5_ := Aside0.mk (below_step ax187 hb); clear HO350; clear HO354; clear BK346; clear BK347; clear HB; have HO350 := n0_; have HO354 := n1_; have HO358 := n2_; have BK346 := n3_; have BK347 := n4_; have HB := n5_; clear n0_ n1_ n2_ n3_ n4_ n5_; (try clear hb); (try clear hb2); (try clear hk); (try clear hi); (try clear ho0); obtain ⟨Ao35, co35, eo35⟩ := Kd.R_slice HO358.out; subst eo35; have hcz36_0 : w34.cell? ⟨gb347, 0, none⟩ = some (.slice none 0 0) := (blk_cell BK347.out 0).trans rfl; have hfz36_0 := blk_frozen BK347.out 0))
    refine bodyPost_ret (results_ct rfl _ _ gb347 51 #[.slice Ao35 t356.length co35] (0, 0) _ rfl ax189 Tryz.underlying51 rfl (by kernel_rfl)) rfl ?_
    exact ⟨_, by first | rfl | (simp [errW_none, errW_some] <;> rfl) | (simp [*, errW_none, errW_some] <;> rfl), by (with_reducible repeat (first | apply Kd.R_alloc | apply Kd.R_drewN | apply Kd.R_drew)); exact Kd.R_mono (Kd.R_far (p := ⟨gb347, 0, none⟩) (Kd.R_types HO358.out BK347.out (by decide)) (fun _ hk => hk.2) (.slice Ao35 t356.length co35)) (fun _ hk => trivial), by repeat (first | (with_reducible first | exact HB.out | apply below_alloc | apply pw_below_drewN | apply below_drew1 | refine below_set ?_ GE346.out | refine below_set ?_ GE347.out) | exact HB.out)⟩
   ·replace c23 := Bool.eq_false_iff.mpr c23
    subst c23
    rw [if_neg (show ¬ (false = true) by decide)] at H
    simp only [Option.some.injEq, Prod.mk.injEq] at H
    obtain ⟨rfl, rfl⟩ := H
    go_enter Tryz.func22, Tryz.ntmps22
    go_wp2_with (first | ((with_reducible refine gate_dst (N := 1) rfl ?_); refine box_event ?hg (N := 1) ?hd (cs := #[.string a0_0, .string a0_1, .int .i64 a0_2]) (t := 30) ?hr ?_; (case hd => rfl); (case hg => rfl); (case hr => exact ax8); intro gb346 hg w37 hbox hb; have n0_ := Aside0.mk (below_step ax9 hb); have n1_ := Aside0.mk (hbox); have n2_ := Aside0.mk ((ax10 : w.heap.size ≤ gb346)); have n3_ := Aside0.mk ((ax10 : w.heap.size ≤ gb346)); clear HB; have HB := n0_; have BK346 := n1_; have GW346 := n2_; have GE346 := n3_; clear n0_ n1_ n2_ n3_; clear hb hbox hg) | ((with_reducible refine gate_dst (N := 2) rfl ?_); refine box_event ?hg (N := 2) ?hd (cs := #[.slice none 0 0]) (t := 51) ?hr ?_; (case hd => rfl); (case hg => rfl); (case hr => exact ax8); intro gb347 hg w38 hbox hb; have n0_ := Aside0.mk (blk_below (g := gb346) (o := .cells #[.string a0_0, .string a0_1, .int .i64 a0_2] 30 (0, 0)) ax181 hb); have n1_ := Aside0.mk (below_step ax182 hb); have n2_ := Aside0.mk (hbox); have n3_ := Aside0.mk ((ax183 : w.heap.size ≤ gb347)); have n4_ := Aside0.mk ((ax183 : w.heap.size ≤ gb347)); have n5_ := Aside0.mk ((ax184 : gb346 ≠ gb347)); have n6_ := Aside0.mk ((ax185 : gb347 ≠ gb346)); clear BK346; clear HB; have BK346 := n0_; have HB := n1_; have BK347 := n2_; have GW347 := n3_; have GE347 := n4_; have NB346_347 := n5_; have NB347_346 := n6_; clear n0_ n1_ n2_ n3_ n4_ n5_ n6_; clear hb hbox hg; have hnb39 := NB346_347.out; have hnc39 := NB347_346.out; have hcz40_0 : w38.cell? ⟨gb346, 0, none⟩ = some (.string a0_0) := (blk_cell BK346.out 0).trans rfl; have hcz40_1 : w38.cell? ⟨gb346, 1, none⟩ = some (.string a0_1) := (blk_cell BK346.out 1).trans rfl; have hcz40_2 : w38.cell? ⟨gb346, 2, none⟩ = some (.int .i64 a0_2) := (blk_cell BK346.out 2).trans rfl; have hfz40_0 := blk_frozen BK346.out 0; have hfz40_1 := blk_frozen BK346.out 1; have hfz40_2 := blk_frozen BK346.out 2) | ((with_reducible refine gate_callee (f := 35) rfl ?_); refine goesL_ (some 6) rfl rfl Tryz.func35 (by kernel_rfl) rfl #[.agg #[.string a0_0, .string a0_1, .int .i64 a0_2]] rfl ax12 ?_; (with_reducible refine (impl_Book_wordsOf.calls a0_0 a0_1 a0_2 t348 _ ?side1 A2.out).mono ?_); (case side1 => exact ax186); rintro e w41 ⟨v349, rfl, ho0, hb⟩; refine ⟨_, rfl, ?_⟩; have n0_ := Aside0.mk (Kd.R_lower ho0 (below_size ax187)); have n1_ := Aside0.mk (blk_below (g := gb346) (o := .cells #[.string a0_0, .string a0_1, .int .i64 a0_2] 30 (0, 0)) ax181 hb); have n2_ := Aside0.mk (blk_below (g := gb347) (o := .cells #[.slice none 0 0] 51 (0, 0)) ax188 hb); have n3_ := Aside0.mk (below_step ax187 hb); clear BK346; clear BK347; clear HB; have HO350 := n0_; have BK346 := n1_; have BK347 := n2_; have HB := n3_; clear n0_ n1_ n2_ n3_; (try clear hb); (try clear hb2); (try clear hk); (try clear hi); (try clear ho0); obtain ⟨Ao42, co42, eo42⟩ := Kd.R_slice HO350.out; subst eo42) | (go_at_call 36; (with_reducible refine (slices_ContainsFunc_string_string.calls _ _ t348 (fun z_ => impl_Book_trie_1.f z_) false _ ?side1 ?side2 ?side3 ?side4 A11.out).mono ?_); (case side1 => exact ax190); (case side2 => exact ax191); (case side3 => exact ax192); (case side4 => exact ax193); rintro e w43 ⟨rfl, hb⟩; have n0_ := Aside0.mk (Kd.R_below ax194 hb); have n1_ := Aside0.mk (blk_below (g := gb346) (o := .cells #[.string a0_0, .string a0_1, .int .i64 a0_2] 30 (0, 0)) ax181 hb); have n2_ := Aside0.mk (blk_below (g := gb347) (o := .cells #[.slice none 0 0] 51 (0, 0)) ax188 hb); have n3_ := Aside0.mk (below_step ax187 hb); clear HO350; clear BK346; clear BK347; clear HB; have HO350 := n0_; have BK346 := n1_; have BK347 := n2_; have HB := n3_; clear n0_ n1_ n2_ n3_; (try clear hb); (try clear hb2); (try clear hk); (try clear hi)) | (go_at_call 40; (with_reducible refine (impl_set.calls _ _ t348 t352 _ ?side1 ?side2 A21.out).mono ?_); (case side1 => exact ax190); (case side2 => exact ax191); rintro e w44 ⟨v353, rfl, ho0, hb⟩; have n0_ := Aside0.mk (Kd.R_elder' ax194 (Kd.R_base ho0) hb); have n1_ := Aside0.mk (Kd.R_lower (Kd.R_new' ho0 (Kd.R_lt ax194)) (below_size ax187)); have n2_ := Aside0.mk (blk_below (g := gb346) (o := .cells #[.string a0_0, .string a0_1, .int .i64 a0_2] 30 (0, 0)) ax181 hb); have n3_ := Aside0.mk (blk_below (g := gb347) (o := .cells #[.slice none 0 0] 51 (0, 0)) ax188 hb); have n4_ := Aside0.mk (below_step ax187 hb); clear HO350; clear BK346; clear BK347; clear HB; have HO350 := n0_; have HO354 := n1_; have BK346 := n2_; have BK347 := n3_; have HB := n4_; clear n0_ n1_ n2_ n3_ n4_; (try clear hb); (try clear hb2); (try clear hk); (try clear hi); (try clear ho0); obtain ⟨Ao45, co45, eo45⟩ := Kd.R_slice HO354.out; subst eo45) | (go_at_call 39; (with_reducible refine (slices_Equal_string_string.calls k _ _ t352 _ _ t348 false _ ?side1 ?side2 ?side3 ?side4 A22.out).mono ?_); (case side1 => exact ax195); (case side2 => exact (Kd.R_reads' HO354.out).2.1); (case side3 => exact ax190); (case side4 => exact ax191); rintro e w' ⟨rfl, ⟨nd, rfl⟩⟩; (try (rw [drewN_self w44]; generalize hq_ : World.drewN w44 _ = w44; have n0_ : Aside0 (Kd.R Kd.string 9 w44 w.heap.size (fun k_ => some k_ ≠ (.slice Ao45 t352.length co45 : Value).ownBlock) (.slice Ao42 t348.length co42) t348) := ⟨ax196⟩; have n1_ : Aside0 (Kd.R Kd.string 9 w44 w.heap.size (fun k_ => some k_ ≠ (.slice Ao42 t348.length co42 : Value).ownBlock) (.slice Ao45 t352.length co45) t352) := ⟨ax197⟩; have n2_ : Aside0 (w44.heap[gb346]? = some (.cells #[.string a0_0, .string a0_1, .int .i64 a0_2] 30 (0, 0))) := ⟨ax198⟩; have n3_ : Aside0 (w44.heap[gb347]? = some (.cells #[.slice none 0 0] 51 (0, 0))) := ⟨ax199⟩; have n4_ : Aside0 (Below w.heap.size w w44) := ⟨ax200⟩; clear HO350 HO354 BK346 BK347 HB hq_; have HO350 := n0_; have HO354 := n1_; have BK346 := n2_; have BK347 := n3_; have HB := n4_; clear n0_ n1_ n2_ n3_ n4_)); have hcz46_0 : w44.cell? ⟨gb347, 0, none⟩ = some (.slice none 0 0) := (blk_cell BK347.out 0).trans rfl; have hfz46_0 := blk_frozen BK347.out 0))
    refine bodyPost_ret (results_ct rfl _ _ gb347 51 #[.slice none 0 0] (0, 0) _ rfl ax189 Tryz.underlying51 rfl (by kernel_rfl)) rfl ?_
    exact ⟨_, by first | rfl | (simp [errW_none, errW_some] <;> rfl) | (simp [*, errW_none, errW_some] <;> rfl), by first | exact Kd.R_nil _ _ _ _ _ | exact Kd.N_nil _ _ _ _ _ | exact Kd.V_nil _ _ _ _ _ | exact Kd.Q_nil _ _ _ _ _ | exact Kd.S_nil _ _ _ _ _, by repeat (first | (with_reducible first | exact HB.out | apply below_alloc | apply pw_below_drewN | apply below_drew1 | refine below_set ?_ GE346.out | refine below_set ?_ GE347.out) | exact HB.out)⟩

/-! ### impl_in: function 23 -/
def impl_in.f (a0 : Int) (a1 : Int) (a2 : Int) : Option (Bool) := if a0 ≥ a1 then (some (decide (a0 ≤ a2))) else (some false)
set_option maxHeartbeats 8000000 in
set_option maxRecDepth 100000 in
theorem impl_in.calls (a0 : Int) (a1 : Int) (a2 : Int) (r : Bool) (w : World) (h : impl_in.f a0 a1 a2 = some r) :
  Calls Tryz.prog 23 #[.int .i64 a0, .int .i64 a1, .int .i64 a2] w fun e w' => e = .returned (.bool r) ∧ Drawn0 w w' := by
 have H : (if a0 ≥ a1 then (some (decide (a0 ≤ a2))) else (some false)) = some r := h
 clear h
 by_cases c4 : a0 ≥ a1
 ·rw [if_pos c4] at H
  have c4b0 : decide (a1 ≤ a0) = true := decide_eq_true c4
  clear c4
  obtain rfl := Option.some.inj H
  go_enter Tryz.func23, Tryz.ntmps23
  go_wp2
  go_ret
  exact ⟨ax15, by repeat (first | exact Drawn0.refl _ | apply Drawn0.step)⟩
 ·rw [if_neg c4] at H
  have c4b0 : decide (a1 ≤ a0) = false := decide_eq_false c4
  clear c4
  obtain rfl := Option.some.inj H
  go_enter Tryz.func23, Tryz.ntmps23
  go_wp2
  go_ret
  exact ⟨ax15, by repeat (first | exact Drawn0.refl _ | apply Drawn0.step)⟩

/-! ### impl_letter: function 42 -/
def impl_letter.f (a0 : Int) : Option (ByteArray) := some (strOfNums (([(wrap64 (97 + a0)) % 256] : List Int)))
set_option maxHeartbeats 8000000 in
set_option maxRecDepth 100000 in
theorem impl_letter.calls (a0 : Int) (r : ByteArray) (w : World) (h : impl_letter.f a0 = some r) :
  Calls Tryz.prog 42 #[.int .i64 a0] w fun e w' => e = .returned (.string r) ∧ Below w.heap.size w w' := by
 have HB := Aside0.mk (Below.refl w.heap.size w)
 have H : (some (strOfNums (([(wrap64 (97 + a0)) % 256] : List Int)))) = some r := h
 clear h
 obtain ⟨y359, hy359⟩ : ∃ y_ : List Int, y_ = (([(wrap64 (97 + a0)) % 256] : List Int)) := ⟨_, rfl⟩
 replace H : (some (strOfNums y359)) = some r := by first | (rw [hy359]; with_reducible exact H) | (have H2_ := (Option.bind_some _ _).symm.trans H; rw [hy359]; with_reducible exact H2_) | (have H2_ := (Option.bind_some _ _).symm.trans H; with_reducible exact H2_) | with_reducible exact H | (rw [hy359]; exact H) | exact H
 have Ny359 := Aside0.mk hy359; clear hy359
 obtain rfl := Option.some.inj H
 go_enter Tryz.func42, Tryz.ntmps42
 go_wp2_with (first | ((with_reducible refine gate_dst (N := 6) rfl ?_); refine Kd.R_lit (Kd.int .u8) _ 5 ?hg (N := 6) ?hd (xs := ([(wrap64 (97 + a0)) % 256] : List Int)) (inner := [.int .u8 ((wrap64 (97 + a0)) % 256)]) (ok := fun _ => True) (okp := fun _ => True) ?hr ?hp (fun _ hk => hk) trivial (Below.refl _ _) (Nat.le_refl _) (by simp) ?_; (case hd => rfl); (case hg => rfl); (case hr => exact ax8); (case hp => exact (Reps.one (show Kd.M (Kd.int .u8) _ _ _ ((wrap64 (97 + a0)) % 256) [.int .u8 ((wrap64 (97 + a0)) % 256)] from rfl) (Reps.none _ _))); intro v360 w2 ho3 hb hg_ hnew_; clear hg_ hnew_; (first | rw [← Ny359.out] at ho3 | (simp only [Int.reduceToNat] at ho3; rw [← Ny359.out] at ho3)); have n0_ := Aside0.mk (Kd.R_lower ho3 (below_size ax9)); have n1_ := Aside0.mk (below_step ax9 hb); clear HB; have HO361 := n0_; have HB := n1_; clear n0_ n1_; clear hb ho3; have hcv4 := own_string (P := Tryz.prog) Tryz.underlying94 Tryz.underlying5 Tryz.underlying9 (Kd.own_of_R HO361.out)))
 go_ret
 exact ⟨ax11, by repeat (first | (with_reducible first | exact HB.out | apply below_alloc | apply pw_below_drewN | apply below_drew1) | exact HB.out)⟩

/-! ### impl_Trie_prefixes: function 24 -/
def impl_Trie_prefixes.l0 : Nat → List ByteArray → List (S68) → Int → Int → Option (List ByteArray × Bool)
 | 0, _, _, _, _ => none
 | k + 1, x4, x15, x16, x17 => if x17 < x16 then (if 0 ≤ x17 then (if x17 < (x15.length : Int) then ((impl_in.f ((rd_T68 x15 x17).f1) 0 x17).bind fun t373 => (if t373 = true then ((impl_in.f ((rd_T68 x15 x17).f0) 0 25).bind fun t374 => (if t374 = true then (if 0 ≤ ((rd_T68 x15 x17).f1) then (if ((rd_T68 x15 x17).f1) < (x4.length : Int) then ((impl_letter.f ((rd_T68 x15 x17).f0)).bind fun t376 => (if (rdOf ByteArray.empty x4 ((rd_T68 x15 x17).f1)).size + t376.size ≤ 9223372036854775807 then (if x4.length < 8796093022208 then (impl_Trie_prefixes.l0 k (x4 ++ [(rdOf ByteArray.empty x4 ((rd_T68 x15 x17).f1)) ++ t376]) x15 x16 (wrap64 (x17 + 1))) else (none)) else (none))) else (none)) else (none)) else (some (([] : List ByteArray), false)))) else (some (([] : List ByteArray), false)))) else (none)) else (none)) else (some (x4, true))
def impl_Trie_prefixes.f (k : Nat) (l0_0 : List (S68)) : Option (List ByteArray × Bool) := (impl_in.f (l0_0.length : Int) 1 481).bind fun t366 => (if t366 = true then (if 1 ≤ (l0_0.length : Int) then ((some (l0_0.drop 1 : List (S68))).bind fun y367 => (impl_Trie_prefixes.l0 k (([(⟨#[]⟩ : ByteArray)] : List ByteArray)) y367 (y367.length : Int) 0)) else (none)) else (some (([] : List ByteArray), false)))
theorem impl_Trie_prefixes.mono_l : ∀ k, (∀ y0 y1 y2 y3, LeO (impl_Trie_prefixes.l0 k y0 y1 y2 y3) (impl_Trie_prefixes.l0 (k + 1) y0 y1 y2 y3))
 | 0 => fun _ _ _ _ r h => by simp [impl_Trie_prefixes.l0] at h
 | k + 1 => by
  have ih0 := impl_Trie_prefixes.mono_l k
  ·intro y0 y1 y2 y3
   unfold impl_Trie_prefixes.l0
   repeat' first | (with_reducible first | exact ih0 .. | exact LeO.refl _ | exact LeO.none _ | refine LeO.ite ?_ ?_ | refine LeO.bind ?_ (fun _ => ?_)) | exact ih0 .. | exact LeO.none _ | refine LeO.ite ?_ ?_ | refine LeO.bind ?_ (fun _ => ?_)
theorem impl_Trie_prefixes.mono : ∀ a0 k, LeO (impl_Trie_prefixes.f k a0) (impl_Trie_prefixes.f (k + 1) a0) := by
 intro a0 k
 have ih0 := impl_Trie_prefixes.mono_l k
 unfold impl_Trie_prefixes.f
 repeat' first | (with_reducible first | exact ih0 .. | exact LeO.refl _ | exact LeO.none _ | refine LeO.ite ?_ ?_ | refine LeO.bind ?_ (fun _ => ?_)) | exact ih0 .. | exact LeO.none _ | refine LeO.ite ?_ ?_ | refine LeO.bind ?_ (fun _ => ?_)
def impl_Trie_prefixes.T9 : Bool × List (List Nat × List Nat) := (true, [([], []), ([], []), ([], []), ([2], [2]), ([1, 3], [1, 3]), ([4], [4]), ([], []), ([6], [6]), ([7], [7]), ([5, 8], [5, 8]), ([9], [9]), ([0, 10, 8], [0, 10]), ([11, 11, 0, 1, 2, 3, 4, 5, 6, 7, 8, 9, 10, 11], [0, 1, 11])])
def impl_Trie_prefixes.B9 : List Nat := [0, 0, 0, 4, 14, 30, 0, 64, 192, 510, 1022, 2047, 4095]
theorem impl_Trie_prefixes.tab9 : rtab .any (opsOf Tryz.f24 9) = impl_Trie_prefixes.T9 := by kernel_rfl
theorem impl_Trie_prefixes.bits9 : waitsOk impl_Trie_prefixes.T9.2 impl_Trie_prefixes.B9 = true := by kernel_rfl
set_option maxHeartbeats 8000000 in
set_option maxRecDepth 100000 in
theorem impl_Trie_prefixes.calls (k : Nat) (A0_0 : Option Addr) (c0_0 : Nat) (l0_0 : List (S68)) (r1 : List ByteArray) (r2 : Bool) (w : World) (hr0_0 : Kd.C k68 w A0_0 l0_0.length l0_0) (hc0_0 : l0_0.length ≤ c0_0) (h : impl_Trie_prefixes.f k l0_0 = some (r1, r2)) :
  Calls Tryz.prog 24 #[.agg #[.slice A0_0 l0_0.length c0_0]] w fun e w' => ∃ v0_ : Value, e = .returned (.tuple #[v0_, .bool r2]) ∧ Kd.R Kd.string 9 w' w.heap.size (fun _ => True) v0_ r1 ∧ Below w.heap.size w w' := by
 have hu51 := Tryz.underlying51; have hu68 := Tryz.underlying68; have HR0_0 := Aside0.mk hr0_0; have HC0_0 := Aside0.mk hc0_0; clear hr0_0 hc0_0; have HB := Aside0.mk (Below.refl w.heap.size w)
 have H : ((impl_in.f (l0_0.length : Int) 1 481).bind fun t366 => (if t366 = true then (if 1 ≤ (l0_0.length : Int) then ((some (l0_0.drop 1 : List (S68))).bind fun y367 => (impl_Trie_prefixes.l0 k (([(⟨#[]⟩ : ByteArray)] : List ByteArray)) y367 (y367.length : Int) 0)) else (none)) else (some (([] : List ByteArray), false)))) = some (r1, r2) := h
 clear h
 obtain ⟨y363, hy363⟩ : ∃ y_ : List ByteArray, y_ = (([(⟨#[]⟩ : ByteArray)] : List ByteArray)) := ⟨_, rfl⟩
 replace H : ((impl_in.f (l0_0.length : Int) 1 481).bind fun t366 => (if t366 = true then (if 1 ≤ (l0_0.length : Int) then ((some (l0_0.drop 1 : List (S68))).bind fun y367 => (impl_Trie_prefixes.l0 k y363 y367 (y367.length : Int) 0)) else (none)) else (some (([] : List ByteArray), false)))) = some (r1, r2) := by first | (rw [hy363]; with_reducible exact H) | (have H2_ := (Option.bind_some _ _).symm.trans H; rw [hy363]; with_reducible exact H2_) | (have H2_ := (Option.bind_some _ _).symm.trans H; with_reducible exact H2_) | with_reducible exact H | (rw [hy363]; exact H) | exact H
 have Ny363 := Aside0.mk hy363; clear hy363
 obtain ⟨t366, A2, H⟩ := bs H
 by_cases c3 : t366 = true
 ·subst c3
  rw [if_pos rfl] at H
  by_cases c4 : 1 ≤ (l0_0.length : Int)
  ·rw [if_pos c4] at H
   have c4b0 := eq_true c4
   have c4b1 : decide (1 ≤ (l0_0.length : Int)) = true := decide_eq_true c4
   clear c4
   obtain ⟨y367, hy367⟩ : ∃ y_ : List (S68), y_ = (l0_0.drop 1) := ⟨_, rfl⟩
   replace H : (impl_Trie_prefixes.l0 k y363 y367 (y367.length : Int) 0) = some (r1, r2) := by first | (rw [hy367]; with_reducible exact H) | (have H2_ := (Option.bind_some _ _).symm.trans H; rw [hy367]; with_reducible exact H2_) | (have H2_ := (Option.bind_some _ _).symm.trans H; with_reducible exact H2_) | with_reducible exact H | (rw [hy367]; exact H) | exact H
   have Ny367 := Aside0.mk hy367; clear hy367
   have H' := Aside0.mk H
   clear H
   go_enter Tryz.func24, Tryz.ntmps24
   go_wp2_with (first | ((with_reducible refine gate_dst (N := 1) rfl ?_); refine box_event ?hg (N := 1) ?hd (cs := #[.slice A0_0 l0_0.length c0_0]) (t := 51) ?hr ?_; (case hd => rfl); (case hg => rfl); (case hr => exact ax8); intro gb362 hg w5 hbox hb; have n0_ := Aside0.mk (below_step ax9 hb); have n1_ := Aside0.mk (hbox); have n2_ := Aside0.mk ((ax10 : w.heap.size ≤ gb362)); have n3_ := Aside0.mk ((ax10 : w.heap.size ≤ gb362)); clear HB; have HB := n0_; have BK362 := n1_; have GW362 := n2_; have GE362 := n3_; clear n0_ n1_ n2_ n3_; clear hb hbox hg) | ((with_reducible refine gate_dst (N := 7) rfl ?_); refine Kd.R_lit Kd.string _ 9 ?hg (N := 7) ?hd (xs := ([(⟨#[]⟩ : ByteArray)] : List ByteArray)) (inner := [.string (⟨#[]⟩ : ByteArray)]) (ok := fun _ => True) (okp := fun _ => True) ?hr ?hp (fun _ hk => hk) trivial (Below.refl _ _) (Nat.le_refl _) (by simp) ?_; (case hd => rfl); (case hg => rfl); (case hr => exact ax8); (case hp => exact ax59); intro v364 w6 ho7 hb hg_ hnew_; clear hg_ hnew_; (first | rw [← Ny363.out] at ho7 | (simp only [Int.reduceToNat] at ho7; rw [← Ny363.out] at ho7)); have n0_ := Aside0.mk (Kd.R_lower ho7 (below_size ax201)); have n1_ := Aside0.mk (blk_below (g := gb362) (o := .cells #[.slice A0_0 l0_0.length c0_0] 51 (0, 0)) ax202 hb); have n2_ := Aside0.mk (below_step ax201 hb); clear BK362; clear HB; have HO365 := n0_; have BK362 := n1_; have HB := n2_; clear n0_ n1_ n2_; clear hb ho7; have hcz8_0 : w6.cell? ⟨gb362, 0, none⟩ = some (.slice A0_0 l0_0.length c0_0) := (blk_cell BK362.out 0).trans rfl; have hfz8_0 := blk_frozen BK362.out 0) | ((with_reducible refine gate_callee (f := 23) rfl ?_); refine goesL_ (some 11) rfl rfl Tryz.func23 (by kernel_rfl) rfl #[.int .i64 (l0_0.length : Int), .int .i64 1, .int .i64 481] rfl ax12 ?_; (with_reducible refine (impl_in.calls (l0_0.length : Int) 1 481 true _ A2.out).mono ?_); rintro e w' ⟨rfl, ⟨nd, rfl⟩⟩; refine ⟨_, rfl, ?_⟩; have q9 : (1 : Int) ≤ ((l0_0.length : Int) : Int) := of_decide_eq_true ax17; obtain ⟨i09, hi09, _, hsz9, _⟩ := info_parts info68; have hroom9 : l0_0.length ≤ c0_0 := HC0_0.out; have hC9 : Kd.C k68 _ A0_0 l0_0.length l0_0 := HR0_0.out; have hcut9 := cut_from (P := Tryz.prog) 49 68 .i64 Tryz.underlying49 hi09 3 hsz9 A0_0 l0_0.length c0_0 1 (by omega) q9; have hr9 := Kd.C_drop (m := (1 : Int).toNat) (c := c0_0) hC9 (by omega) hroom9; obtain ⟨A9, hA9⟩ : ∃ A1, A1 = (if c0_0 = (1 : Int).toNat then A0_0 else (A0_0 : Option Addr).map (·.add ((1 : Int).toNat * 3))) := ⟨_, rfl⟩; obtain ⟨c9, hc9⟩ : ∃ c1, c1 = c0_0 - (1 : Int).toNat := ⟨_, rfl⟩; have hy9 : y367.length = l0_0.length - (1 : Int).toNat := (by rw [Ny367.out, List.length_drop] <;> omega); rw [show (l0_0).drop (1 : Int).toNat = y367 from Ny367.out.symm] at hr9; replace hr9 : Kd.C k68 _ A9 y367.length y367 := (by rw [hA9]; exact hr9); rw [← hy9, ← hA9, ← hc9] at hcut9; have HR370 := Aside0.mk hr9; have HC370 := Aside0.mk (show y367.length ≤ c9 from by rw [hy9, hc9]; exact Nat.sub_le_sub_right hroom9 _); clear hr9 hC9 hroom9 hi09 hsz9 hc9; have KY9 := Aside0.mk hy9; have KA9 := Aside0.mk hA9; clear hy9 hA9; replace q9 := eq_true q9))
   go_loopg [4, 17] k (fun kq v4 v17 w' => ∃ (x4_1 : List ByteArray) (x17_1 : Int), v17 = .int .i64 x17_1 ∧ Aside0 (impl_Trie_prefixes.l0 kq x4_1 y367 (y367.length : Int) x17_1 = some (r1, r2)) ∧ Aside0 (kq ≤ k) ∧ Aside0 (Kd.R Kd.string 9 w' w.heap.size (fun _ => True) v4 x4_1) ∧ Aside0 (w'.heap[gb362]? = some (.cells #[(.slice A0_0 l0_0.length c0_0)] 51 (0, 0))) ∧ Aside0 (Below w.heap.size w w'))
   case atStart => exact ⟨(y363), (0), ax15, H', ⟨Nat.le_refl _⟩, ⟨(by (with_reducible repeat (first | apply Kd.R_alloc | apply Kd.R_drewN | apply Kd.R_drew)); exact HO365.out)⟩, ⟨ax202⟩, ⟨ax201⟩⟩
   case round =>
    clear H'
    try clear c1
    try clear c2
    try clear p2
    try clear c3
    try clear c4
    try clear c4b0
    try clear c4b1
    try clear c9
    try clear q9
    try clear hcz8_0
    try clear hfz8_0
    try clear q9
    obtain ⟨x4_1, x17_1, rfl, HA, HK1, HO_4, BK362, HB⟩ := hrel
    cases gk with
    | zero => exact absurd HA.out (by simp [impl_Trie_prefixes.l0])
    | succ k1 =>
     have H := HA.out; clear HA
     simp only [impl_Trie_prefixes.l0] at H
     by_cases c10 : x17_1 < (y367.length : Int)
     ·rw [if_pos c10] at H
      have c10b0 : decide (x17_1 < (y367.length : Int)) = true := decide_eq_true c10
      clear c10
      by_cases c11 : 0 ≤ x17_1
      ·rw [if_pos c11] at H
       have c11b0 : decide (0 ≤ x17_1) = true := decide_eq_true c11
       clear c11
       by_cases c12 : x17_1 < (y367.length : Int)
       ·rw [if_pos c12] at H
        have c12b0 : decide (x17_1 < (y367.length : Int)) = true := decide_eq_true c12
        clear c12
        obtain ⟨t373, A13, H⟩ := bs H
        by_cases c14 : t373 = true
        ·subst c14
         rw [if_pos rfl] at H
         obtain ⟨t374, A15, H⟩ := bs H
         by_cases c16 : t374 = true
         ·subst c16
          rw [if_pos rfl] at H
          by_cases c17 : 0 ≤ ((rd_T68 y367 x17_1).f1)
          ·rw [if_pos c17] at H
           have c17b0 : decide (0 ≤ ((rd_T68 y367 x17_1).f1)) = true := decide_eq_true c17
           clear c17
           by_cases c18 : ((rd_T68 y367 x17_1).f1) < (x4_1.length : Int)
           ·rw [if_pos c18] at H
            have c18b0 : decide (((rd_T68 y367 x17_1).f1) < (x4_1.length : Int)) = true := decide_eq_true c18
            clear c18
            obtain ⟨t376, A19, H⟩ := bs H
            by_cases c20 : (rdOf ByteArray.empty x4_1 ((rd_T68 y367 x17_1).f1)).size + t376.size ≤ 9223372036854775807
            ·rw [if_pos c20] at H
             have c20b0 := eq_true c20
             have c20b1 : decide ((rdOf ByteArray.empty x4_1 ((rd_T68 y367 x17_1).f1)).size + t376.size ≤ 9223372036854775807) = true := decide_eq_true c20
             try have c20b2 : (9223372036854775807 < (rdOf ByteArray.empty x4_1 ((rd_T68 y367 x17_1).f1)).size + t376.size) = False := eq_false (Nat.not_lt.2 c20)
             clear c20
             obtain ⟨js21, hjs21⟩ : ∃ j_ : ByteArray, ((rdOf ByteArray.empty x4_1 ((rd_T68 y367 x17_1).f1)) ++ t376) = j_ := ⟨_, rfl⟩
             replace H : (if x4_1.length < 8796093022208 then (impl_Trie_prefixes.l0 k1 (x4_1 ++ [js21]) y367 (y367.length : Int) (wrap64 (x17_1 + 1))) else (none)) = some (r1, r2) := by first | (rw [hjs21] at H; exact H) | (simp only [hjs21] at H ⊢; exact H)
             by_cases c22 : x4_1.length < 8796093022208
             ·rw [if_pos c22] at H
              have LMc22 := Aside0.mk c22; clear c22
              obtain ⟨y377, hy377⟩ : ∃ y_ : List ByteArray, y_ = (x4_1 ++ [js21]) := ⟨_, rfl⟩
              replace H : (impl_Trie_prefixes.l0 k1 y377 y367 (y367.length : Int) (wrap64 (x17_1 + 1))) = some (r1, r2) := by first | (rw [hy377]; with_reducible exact H) | (have H2_ := (Option.bind_some _ _).symm.trans H; rw [hy377]; with_reducible exact H2_) | (have H2_ := (Option.bind_some _ _).symm.trans H; with_reducible exact H2_) | with_reducible exact H | (rw [hy377]; exact H) | exact H
              have Ny377 := Aside0.mk hy377; clear hy377
              have H' := Aside0.mk H
              clear H
              have p371 : 0 ≤ (x17_1 : Int) := of_decide_eq_true ax17
              have q371 : x17_1 < (y367.length : Int) := of_decide_eq_true ax17
              obtain ⟨ad371, e371, hx371_0, hx371_1, hx371_2⟩ := at_T68 HR370.out x17_1 p371 q371
              cases e371; replace hx371_0 := (HB.out.cell (World.block_lt_of_cell? w _ hx371_0)).trans hx371_0; replace hx371_1 := (HB.out.cell (World.block_lt_of_cell? w _ hx371_1)).trans hx371_1; replace hx371_2 := (HB.out.cell (World.block_lt_of_cell? w _ hx371_2)).trans hx371_2; replace p371 := eq_true p371; replace q371 := eq_true q371
              try go_wp2_with (first | ((with_reducible refine gate_dst (N := 6) rfl ?_); refine box_event ?hg (N := 6) ?hd (cs := #[.int .i64 0, .int .i64 0, .bool false]) (t := 68) ?hr ?_; (case hd => rfl); (case hg => rfl); (case hr => exact ax8); intro gb372 hg w23 hbox hb; have n0_ := Aside0.mk (Kd.R_below ax111 hb); have n1_ := Aside0.mk (blk_below (g := gb362) (o := .cells #[.slice A0_0 l0_0.length c0_0] 51 (0, 0)) ax202 hb); have n2_ := Aside0.mk (below_step ax201 hb); have n3_ := Aside0.mk (hbox); have n4_ := Aside0.mk ((ax203 : w.heap.size ≤ gb372)); have n5_ := Aside0.mk ((ax203 : w.heap.size ≤ gb372)); have n6_ := Aside0.mk ((ax204 : gb362 ≠ gb372)); have n7_ := Aside0.mk ((ax205 : gb372 ≠ gb362)); clear HO_4; clear BK362; clear HB; have HO_4 := n0_; have BK362 := n1_; have HB := n2_; have BK372 := n3_; have GW372 := n4_; have GE372 := n5_; have NB362_372 := n6_; have NB372_362 := n7_; clear n0_ n1_ n2_ n3_ n4_ n5_ n6_ n7_; clear hb hbox hg; have hnb24 := NB372_362.out; have hnc24 := NB362_372.out; have hcz25_0 : w23.cell? ⟨gb372, 0, none⟩ = some (.int .i64 0) := (blk_cell BK372.out 0).trans rfl; have hcz25_1 : w23.cell? ⟨gb372, 1, none⟩ = some (.int .i64 0) := (blk_cell BK372.out 1).trans rfl; have hcz25_2 : w23.cell? ⟨gb372, 2, none⟩ = some (.bool false) := (blk_cell BK372.out 2).trans rfl; have hfz25_0 := blk_frozen BK372.out 0; have hfz25_1 := blk_frozen BK372.out 1; have hfz25_2 := blk_frozen BK372.out 2) | ((with_reducible refine gate_store (t := 68) (p := 6) rfl ?_); refine store_event (t := 68) (p := 6) (v := ?vo_w26) (w1 := (((w23.setCell ⟨gb372, 0, none⟩ (.int .i64 ((rd_T68 y367 x17_1).f0))).setCell ⟨gb372, 1, none⟩ (.int .i64 ((rd_T68 y367 x17_1).f1))).setCell ⟨gb372, 2, none⟩ (.bool ((rd_T68 y367 x17_1).f2)))) ?hg ?ho ?hn ?hr ?_; (case ho => rfl); (case hg => rfl); (case hn => rfl); (case hr => exact ax8); intro w26 hw; have n0_ : Aside0 (Kd.R Kd.string 9 w26 w.heap.size (fun _ => True) u4 x4_1) := ⟨ax206⟩; have n1_ : Aside0 (w26.heap[gb362]? = some (.cells #[.slice A0_0 l0_0.length c0_0] 51 (0, 0))) := ⟨ax207⟩; have n2_ : Aside0 (w26.heap[gb372]? = some (.cells #[.int .i64 ((rd_T68 y367 x17_1).f0), .int .i64 ((rd_T68 y367 x17_1).f1), .bool ((rd_T68 y367 x17_1).f2)] 68 (0, 0))) := ⟨ax208⟩; have n3_ : Aside0 (Below w.heap.size w w26) := ⟨ax209⟩; clear hw; clear HO_4; clear BK362; clear BK372; clear HB; have HO_4 := n0_; have BK362 := n1_; have BK372 := n2_; have HB := n3_; clear n0_ n1_ n2_ n3_; have hcz27_0 : w26.cell? ⟨gb372, 0, none⟩ = some (.int .i64 ((rd_T68 y367 x17_1).f0)) := (blk_cell BK372.out 0).trans rfl; have hcz27_1 : w26.cell? ⟨gb372, 1, none⟩ = some (.int .i64 ((rd_T68 y367 x17_1).f1)) := (blk_cell BK372.out 1).trans rfl; have hcz27_2 : w26.cell? ⟨gb372, 2, none⟩ = some (.bool ((rd_T68 y367 x17_1).f2)) := (blk_cell BK372.out 2).trans rfl; have hfz27_0 := blk_frozen BK372.out 0; have hfz27_1 := blk_frozen BK372.out 1; have hfz27_2 := blk_frozen BK372.out 2) | ((with_reducible refine gate_callee (f := 23) rfl ?_); refine goesL_ (some 25) rfl rfl Tryz.func23 (by kernel_rfl) rfl #[.int .i64 ((rd_T68 y367 x17_1).f1), .int .i64 0, .int .i64 x17_1] rfl ax12 ?_; (with_reducible refine (impl_in.calls ((rd_T68 y367 x17_1).f1) 0 x17_1 true _ A13.out).mono ?_); rintro e w' ⟨rfl, ⟨nd, rfl⟩⟩; refine ⟨_, rfl, ?_⟩) | (go_at_call 23; (with_reducible refine (impl_in.calls ((rd_T68 y367 x17_1).f0) 0 25 true _ A15.out).mono ?_); rintro e w' ⟨rfl, ⟨nd, rfl⟩⟩))
              (try (rw [drewN_self w26]; generalize hq_ : World.drewN w26 _ = w26; have n0_ : Aside0 (Kd.R Kd.string 9 w26 w.heap.size (fun _ => True) u4 x4_1) := ⟨ax210⟩; have n1_ : Aside0 (w26.heap[gb362]? = some (.cells #[.slice A0_0 l0_0.length c0_0] 51 (0, 0))) := ⟨(by rw [← hq_]; exact ax202)⟩; have n2_ : Aside0 (w26.heap[gb372]? = some (.cells #[.int .i64 ((rd_T68 y367 x17_1).f0), .int .i64 ((rd_T68 y367 x17_1).f1), .bool ((rd_T68 y367 x17_1).f2)] 68 (0, 0))) := ⟨(by rw [← hq_]; exact ax211)⟩; have n3_ : Aside0 (Below w.heap.size w w26) := ⟨(by rw [← hq_]; exact ax212)⟩; clear HO_4 BK362 BK372 HB hq_; have HO_4 := n0_; have BK362 := n1_; have BK372 := n2_; have HB := n3_; clear n0_ n1_ n2_ n3_))
              have n0_ := Aside0.mk (Kd.R_drew HO_4.out); have n1_ := Aside0.mk (blk_drew BK362.out); have n2_ := Aside0.mk (blk_drew BK372.out); have n3_ := Aside0.mk (below_drew1 HB.out); clear HO_4; clear BK362; clear BK372; clear HB; have HO_4 := n0_; have BK362 := n1_; have BK372 := n2_; have HB := n3_; clear n0_ n1_ n2_ n3_
              obtain ⟨Ao29, co29, eo29⟩ := Kd.R_slice HO_4.out
              (first | subst eo29 | (injection eo29 with f1_ f2_ f3_; have f4_ := f1_.symm; have f5_ := f3_.symm; clear f1_ f2_ f3_; subst f4_; subst f5_))
              have p375 : 0 ≤ (((rd_T68 y367 x17_1).f1) : Int) := of_decide_eq_true ax17
              have q375 : ((rd_T68 y367 x17_1).f1) < (x4_1.length : Int) := of_decide_eq_true ax17
              obtain ⟨ad375, e375, hx375_0⟩ := Kd.at_string (Kd.R_reads' HO_4.out).2.2 ((rd_T68 y367 x17_1).f1) p375 q375
              cases e375; replace p375 := eq_true p375; replace q375 := eq_true q375
              refine start_ (n := 13) (S := fun w' => w'.cell? ⟨gb372, 0, none⟩ = some (.int .i64 ((rd_T68 y367 x17_1).f0)) ∧ w'.cell? ⟨gb372, 1, none⟩ = some (.int .i64 ((rd_T68 y367 x17_1).f1)) ∧ w'.cell? ⟨gb372, 2, none⟩ = some (.bool ((rd_T68 y367 x17_1).f2)) ∧ w'.cell? (ad375.add (((rd_T68 y367 x17_1).f1)).toNat) = some (.string (rdOf ByteArray.empty x4_1 ((rd_T68 y367 x17_1).f1)))) (ds := [10, 11]) (ob 13 0) (by kernel_rfl) rfl rfl ⟨(blk_cell BK372.out 0).trans rfl, (blk_cell BK372.out 1).trans rfl, (blk_cell BK372.out 2).trans rfl, hx375_0⟩ (fun hHeld => ?_); refine with_tabW impl_Trie_prefixes.tab9 impl_Trie_prefixes.bits9 (fun HT_ HW_ => ?_)
              generalize w26.drew = w28 at HO_4 BK362 BK372 HB hx375_0 hHeld ⊢
              refine pu 0 33 ?_; refine pu 1 34 ?_; refine pu 2 35 ?_; refine pu 6 39 ?_; refine tk 3 36 ?_; refine pu 4 37 ?_; refine tk 5 38 ?_; refine tk 7 40 ?_
              refine one_ (i := 8) (N := some 41) (ob 13 511) rfl rfl (one_of HT_.out (by kernel_rfl)) (by decide) (fun K hK => ?_)
              refine goes_ Tryz.func42 (by kernel_rfl) rfl #[.int .i64 ((rd_T68 y367 x17_1).f0)] (by rfl) rfl rfl ax12 ?_
              with_reducible refine (impl_letter.calls ((rd_T68 y367 x17_1).f0) t376 _ A19.out).mono ?_
              rintro e w30 ⟨rfl, hb⟩
              have HS3_ := (hb.cell (World.block_lt_of_cell? _ _ (hHeld.2.2.2))).trans (hHeld.2.2.2)
              refine ⟨_, rfl, ?_⟩
              have n0_ := Aside0.mk (Kd.R_below ax111 hb)
              have n1_ := Aside0.mk (blk_below (g := gb362) (o := .cells #[.slice A0_0 l0_0.length c0_0] 51 (0, 0)) ax202 hb)
              have n2_ := Aside0.mk (blk_below (g := gb372) (o := .cells #[.int .i64 ((rd_T68 y367 x17_1).f0), .int .i64 ((rd_T68 y367 x17_1).f1), .bool ((rd_T68 y367 x17_1).f2)] 68 (0, 0)) ax211 hb)
              have n3_ := Aside0.mk (below_step ax212 hb); clear HO_4; clear BK362; clear BK372; clear HB; have HO_4 := n0_; have BK362 := n1_; have BK372 := n2_; have HB := n3_; clear n0_ n1_ n2_ n3_; (try clear hb); (try clear hb2); (try clear hk); (try clear hi)
              refine hK.out _ _ ⟨(blk_cell BK372.out 0).trans rfl, (blk_cell BK372.out 1).trans rfl, (blk_cell BK372.out 2).trans rfl, HS3_⟩ (fun hHeld => ?_)
              clear hK K
              refine nm 41 ?_
              refine pu 9 42 ?_
              refine last_ (i := 10) (N := some 43) (ob 13 2047) rfl rfl (one_of HT_.out (by kernel_rfl)) (by decide) (fun K hK => ?_)
              refine value_ (w1 := ?_) (v := ?_) (by rfl) rfl ?_ ?_
              rotate_left 2
              ·go_simp
               constructor
               ·rfl
               ·rfl
              refine hK.out _ _ ?_
              clear hK K
              refine nm 43 ?_
              refine last_ (i := 11) (N := some 44) (ob 13 4095) rfl rfl (one_of HT_.out (by kernel_rfl)) (by decide) (fun K hK => ?_)
              refine Kd.R_append_step Kd.string (w0 := w) w.heap.size (by rfl) (.tmp 33) (.tmp 43) 45 9 (.string ⟨#[]⟩) 16 rfl Tryz.underlying45 info9 rfl (by decide) (by omega) (.slice (some ad375) x4_1.length co29) x4_1 js21 [.string js21] (fun _ => True) (fun _ => False) rfl rfl ?aP (fun _ hk => hk.elim) ?aF ?aO ?aB ?aS ?aL ?_
              (case aP => exact rfl)
              (case aB => exact ax212)
              (case aF => exact ax20)
              (case aO => exact ax111)
              (case aS => exact (below_size ax212))
              (case aL => have := LMc22.out; omega)
              intro v378 w31 ho hb hg hat
              rw [← Ny377.out] at ho
              have n0_ := Aside0.mk (blk_grown (g := gb362) (o := .cells #[.slice A0_0 l0_0.length c0_0] 51 (0, 0)) ax202 hg (Kd.R_ne HO_4.out BK362.out (by decide)))
              have n1_ := Aside0.mk (blk_grown (g := gb372) (o := .cells #[.int .i64 ((rd_T68 y367 x17_1).f0), .int .i64 ((rd_T68 y367 x17_1).f1), .bool ((rd_T68 y367 x17_1).f2)] 68 (0, 0)) ax211 hg (Kd.R_ne HO_4.out BK372.out (by decide)))
              have n2_ := Aside0.mk (hb); have n3_ := Aside0.mk (ho); clear BK362; clear BK372; clear HB; clear HO_4; have BK362 := n0_; have BK372 := n1_; have HB := n2_; have HO379 := n3_; clear n0_ n1_ n2_ n3_; clear ho hb hg hat
              refine hK.out _ _ ?_
              clear hK K
              refine nm 44 ?_
              refine pu 12 4 ?_
              refine dn ?_
              try go_wp2
              go_roundg k1
              case measure => have := HK1.out; omega
              case rel => exact ⟨(y377), (wrap64 (x17_1 + 1)), ax15, H', ⟨by have := HK1.out; omega⟩, ⟨(by (with_reducible repeat (first | apply Kd.R_alloc | apply Kd.R_drewN | apply Kd.R_drew)); exact HO379.out)⟩, ⟨ax202⟩, ⟨ax212⟩⟩
             ·rw [if_neg c22] at H
              exact absurd H (by simp)
            ·rw [if_neg c20] at H
             exact absurd H (by simp)
           ·rw [if_neg c18] at H
            exact absurd H (by simp)
          ·rw [if_neg c17] at H
           exact absurd H (by simp)
         ·replace c16 := Bool.eq_false_iff.mpr c16
          subst c16
          rw [if_neg (show ¬ (false = true) by decide)] at H
          simp only [Option.some.injEq, Prod.mk.injEq] at H
          obtain ⟨rfl, rfl⟩ := H
          have p371 : 0 ≤ (x17_1 : Int) := of_decide_eq_true ax17
          have q371 : x17_1 < (y367.length : Int) := of_decide_eq_true ax17
          obtain ⟨ad371, e371, hx371_0, hx371_1, hx371_2⟩ := at_T68 HR370.out x17_1 p371 q371
          cases e371; replace hx371_0 := (HB.out.cell (World.block_lt_of_cell? w _ hx371_0)).trans hx371_0; replace hx371_1 := (HB.out.cell (World.block_lt_of_cell? w _ hx371_1)).trans hx371_1; replace hx371_2 := (HB.out.cell (World.block_lt_of_cell? w _ hx371_2)).trans hx371_2; replace p371 := eq_true p371; replace q371 := eq_true q371
          go_wp2_with (first | ((with_reducible refine gate_dst (N := 6) rfl ?_); refine box_event ?hg (N := 6) ?hd (cs := #[.int .i64 0, .int .i64 0, .bool false]) (t := 68) ?hr ?_; (case hd => rfl); (case hg => rfl); (case hr => exact ax8); intro gb372 hg w32 hbox hb; have n0_ := Aside0.mk (Kd.R_below ax111 hb); have n1_ := Aside0.mk (blk_below (g := gb362) (o := .cells #[.slice A0_0 l0_0.length c0_0] 51 (0, 0)) ax202 hb); have n2_ := Aside0.mk (below_step ax201 hb); have n3_ := Aside0.mk (hbox); have n4_ := Aside0.mk ((ax203 : w.heap.size ≤ gb372)); have n5_ := Aside0.mk ((ax203 : w.heap.size ≤ gb372)); have n6_ := Aside0.mk ((ax204 : gb362 ≠ gb372)); have n7_ := Aside0.mk ((ax205 : gb372 ≠ gb362)); clear HO_4; clear BK362; clear HB; have HO_4 := n0_; have BK362 := n1_; have HB := n2_; have BK372 := n3_; have GW372 := n4_; have GE372 := n5_; have NB362_372 := n6_; have NB372_362 := n7_; clear n0_ n1_ n2_ n3_ n4_ n5_ n6_ n7_; clear hb hbox hg; have hnb33 := NB372_362.out; have hnc33 := NB362_372.out; have hcz34_0 : w32.cell? ⟨gb372, 0, none⟩ = some (.int .i64 0) := (blk_cell BK372.out 0).trans rfl; have hcz34_1 : w32.cell? ⟨gb372, 1, none⟩ = some (.int .i64 0) := (blk_cell BK372.out 1).trans rfl; have hcz34_2 : w32.cell? ⟨gb372, 2, none⟩ = some (.bool false) := (blk_cell BK372.out 2).trans rfl; have hfz34_0 := blk_frozen BK372.out 0; have hfz34_1 := blk_frozen BK372.out 1; have hfz34_2 := blk_frozen BK372.out 2) | ((with_reducible refine gate_store (t := 68) (p := 6) rfl ?_); refine store_event (t := 68) (p := 6) (v := ?vo_w35) (w1 := (((w32.setCell ⟨gb372, 0, none⟩ (.int .i64 ((rd_T68 y367 x17_1).f0))).setCell ⟨gb372, 1, none⟩ (.int .i64 ((rd_T68 y367 x17_1).f1))).setCell ⟨gb372, 2, none⟩ (.bool ((rd_T68 y367 x17_1).f2)))) ?hg ?ho ?hn ?hr ?_; (case ho => rfl); (case hg => rfl); (case hn => rfl); (case hr => exact ax8); intro w35 hw; have n0_ : Aside0 (Kd.R Kd.string 9 w35 w.heap.size (fun _ => True) u4 x4_1) := ⟨ax206⟩; have n1_ : Aside0 (w35.heap[gb362]? = some (.cells #[.slice A0_0 l0_0.length c0_0] 51 (0, 0))) := ⟨ax207⟩; have n2_ : Aside0 (w35.heap[gb372]? = some (.cells #[.int .i64 ((rd_T68 y367 x17_1).f0), .int .i64 ((rd_T68 y367 x17_1).f1), .bool ((rd_T68 y367 x17_1).f2)] 68 (0, 0))) := ⟨ax208⟩; have n3_ : Aside0 (Below w.heap.size w w35) := ⟨ax209⟩; clear hw; clear HO_4; clear BK362; clear BK372; clear HB; have HO_4 := n0_; have BK362 := n1_; have BK372 := n2_; have HB := n3_; clear n0_ n1_ n2_ n3_; have hcz36_0 : w35.cell? ⟨gb372, 0, none⟩ = some (.int .i64 ((rd_T68 y367 x17_1).f0)) := (blk_cell BK372.out 0).trans rfl; have hcz36_1 : w35.cell? ⟨gb372, 1, none⟩ = some (.int .i64 ((rd_T68 y367 x17_1).f1)) := (blk_cell BK372.out 1).trans rfl; have hcz36_2 : w35.cell? ⟨gb372, 2, none⟩ = some (.bool ((rd_T68 y367 x17_1).f2)) := (blk_cell BK372.out 2).trans rfl; have hfz36_0 := blk_frozen BK372.out 0; have hfz36_1 := blk_frozen BK372.out 1; have hfz36_2 := blk_frozen BK372.out 2) | ((with_reducible refine gate_callee (f := 23) rfl ?_); refine goesL_ (some 25) rfl rfl Tryz.func23 (by kernel_rfl) rfl #[.int .i64 ((rd_T68 y367 x17_1).f1), .int .i64 0, .int .i64 x17_1] rfl ax12 ?_; (with_reducible refine (impl_in.calls ((rd_T68 y367 x17_1).f1) 0 x17_1 true _ A13.out).mono ?_); rintro e w' ⟨rfl, ⟨nd, rfl⟩⟩; refine ⟨_, rfl, ?_⟩) | (go_at_call 23; (with_reducible refine (impl_in.calls ((rd_T68 y367 x17_1).f0) 0 25 false _ A15.out).mono ?_); rintro e w' ⟨rfl, ⟨nd, rfl⟩⟩))
          go_ret2
          exact ⟨_, by first | rfl | (simp [errW_none, errW_some] <;> rfl) | (simp [*, errW_none, errW_some] <;> rfl), by first | exact Kd.R_nil _ _ _ _ _ | exact Kd.N_nil _ _ _ _ _ | exact Kd.V_nil _ _ _ _ _ | exact Kd.Q_nil _ _ _ _ _ | exact Kd.S_nil _ _ _ _ _, by repeat (first | (with_reducible first | exact HB.out | apply below_alloc | apply pw_below_drewN | apply below_drew1 | refine below_set ?_ GE362.out | refine below_set ?_ GE372.out) | exact HB.out)⟩
        ·replace c14 := Bool.eq_false_iff.mpr c14
         subst c14
         rw [if_neg (show ¬ (false = true) by decide)] at H
         simp only [Option.some.injEq, Prod.mk.injEq] at H
         obtain ⟨rfl, rfl⟩ := H
         have p371 : 0 ≤ (x17_1 : Int) := of_decide_eq_true ax17
         have q371 : x17_1 < (y367.length : Int) := of_decide_eq_true ax17
         obtain ⟨ad371, e371, hx371_0, hx371_1, hx371_2⟩ := at_T68 HR370.out x17_1 p371 q371
         cases e371; replace hx371_0 := (HB.out.cell (World.block_lt_of_cell? w _ hx371_0)).trans hx371_0; replace hx371_1 := (HB.out.cell (World.block_lt_of_cell? w _ hx371_1)).trans hx371_1; replace hx371_2 := (HB.out.cell (World.block_lt_of_cell? w _ hx371_2)).trans hx371_2; replace p371 := eq_true p371; replace q371 := eq_true q371
         go_wp2_with (first | ((with_reducible refine gate_dst (N := 6) rfl ?_); refine box_event ?hg (N := 6) ?hd (cs := #[.int .i64 0, .int .i64 0, .bool false]) (t := 68) ?hr ?_; (case hd => rfl); (case hg => rfl); (case hr => exact ax8); intro gb372 hg w37 hbox hb; have n0_ := Aside0.mk (Kd.R_below ax111 hb); have n1_ := Aside0.mk (blk_below (g := gb362) (o := .cells #[.slice A0_0 l0_0.length c0_0] 51 (0, 0)) ax202 hb); have n2_ := Aside0.mk (below_step ax201 hb); have n3_ := Aside0.mk (hbox); have n4_ := Aside0.mk ((ax203 : w.heap.size ≤ gb372)); have n5_ := Aside0.mk ((ax203 : w.heap.size ≤ gb372)); have n6_ := Aside0.mk ((ax204 : gb362 ≠ gb372)); have n7_ := Aside0.mk ((ax205 : gb372 ≠ gb362)); clear HO_4; clear BK362; clear HB; have HO_4 := n0_; have BK362 := n1_; have HB := n2_; have BK372 := n3_; have GW372 := n4_; have GE372 := n5_; have NB362_372 := n6_; have NB372_362 := n7_; clear n0_ n1_ n2_ n3_ n4_ n5_ n6_ n7_; clear hb hbox hg; have hnb38 := NB372_362.out; have hnc38 := NB362_372.out; have hcz39_0 : w37.cell? ⟨gb372, 0, none⟩ = some (.int .i64 0) := (blk_cell BK372.out 0).trans rfl; have hcz39_1 : w37.cell? ⟨gb372, 1, none⟩ = some (.int .i64 0) := (blk_cell BK372.out 1).trans rfl; have hcz39_2 : w37.cell? ⟨gb372, 2, none⟩ = some (.bool false) := (blk_cell BK372.out 2).trans rfl; have hfz39_0 := blk_frozen BK372.out 0; have hfz39_1 := blk_frozen BK372.out 1; have hfz39_2 := blk_frozen BK372.out 2) | ((with_reducible refine gate_store (t := 68) (p := 6) rfl ?_); refine store_event (t := 68) (p := 6) (v := ?vo_w40) (w1 := (((w37.setCell ⟨gb372, 0, none⟩ (.int .i64 ((rd_T68 y367 x17_1).f0))).setCell ⟨gb372, 1, none⟩ (.int .i64 ((rd_T68 y367 x17_1).f1))).setCell ⟨gb372, 2, none⟩ (.bool ((rd_T68 y367 x17_1).f2)))) ?hg ?ho ?hn ?hr ?_; (case ho => rfl); (case hg => rfl); (case hn => rfl); (case hr => exact ax8); intro w40 hw; have n0_ : Aside0 (Kd.R Kd.string 9 w40 w.heap.size (fun _ => True) u4 x4_1) := ⟨ax206⟩; have n1_ : Aside0 (w40.heap[gb362]? = some (.cells #[.slice A0_0 l0_0.length c0_0] 51 (0, 0))) := ⟨ax207⟩; have n2_ : Aside0 (w40.heap[gb372]? = some (.cells #[.int .i64 ((rd_T68 y367 x17_1).f0), .int .i64 ((rd_T68 y367 x17_1).f1), .bool ((rd_T68 y367 x17_1).f2)] 68 (0, 0))) := ⟨ax208⟩; have n3_ : Aside0 (Below w.heap.size w w40) := ⟨ax209⟩; clear hw; clear HO_4; clear BK362; clear BK372; clear HB; have HO_4 := n0_; have BK362 := n1_; have BK372 := n2_; have HB := n3_; clear n0_ n1_ n2_ n3_; have hcz41_0 : w40.cell? ⟨gb372, 0, none⟩ = some (.int .i64 ((rd_T68 y367 x17_1).f0)) := (blk_cell BK372.out 0).trans rfl; have hcz41_1 : w40.cell? ⟨gb372, 1, none⟩ = some (.int .i64 ((rd_T68 y367 x17_1).f1)) := (blk_cell BK372.out 1).trans rfl; have hcz41_2 : w40.cell? ⟨gb372, 2, none⟩ = some (.bool ((rd_T68 y367 x17_1).f2)) := (blk_cell BK372.out 2).trans rfl; have hfz41_0 := blk_frozen BK372.out 0; have hfz41_1 := blk_frozen BK372.out 1; have hfz41_2 := blk_frozen BK372.out 2) | ((with_reducible refine gate_callee (f := 23) rfl ?_); refine goesL_ (some 25) rfl rfl Tryz.func23 (by kernel_rfl) rfl #[.int .i64 ((rd_T68 y367 x17_1).f1), .int .i64 0, .int .i64 x17_1] rfl ax12 ?_; (with_reducible refine (impl_in.calls ((rd_T68 y367 x17_1).f1) 0 x17_1 false _ A13.out).mono ?_); rintro e w' ⟨rfl, ⟨nd, rfl⟩⟩; refine ⟨_, rfl, ?_⟩))
         go_ret2
         exact ⟨_, by first | rfl | (simp [errW_none, errW_some] <;> rfl) | (simp [*, errW_none, errW_some] <;> rfl), by first | exact Kd.R_nil _ _ _ _ _ | exact Kd.N_nil _ _ _ _ _ | exact Kd.V_nil _ _ _ _ _ | exact Kd.Q_nil _ _ _ _ _ | exact Kd.S_nil _ _ _ _ _, by repeat (first | (with_reducible first | exact HB.out | apply below_alloc | apply pw_below_drewN | apply below_drew1 | refine below_set ?_ GE362.out | refine below_set ?_ GE372.out) | exact HB.out)⟩
       ·rw [if_neg c12] at H
        exact absurd H (by simp)
      ·exact ax3
     ·rw [if_neg c10] at H
      have c10b0 : decide (x17_1 < (y367.length : Int)) = false := decide_eq_false c10
      clear c10
      simp only [Option.some.injEq, Prod.mk.injEq] at H
      obtain ⟨rfl, rfl⟩ := H
      go_wp2
      go_ret2
      exact ⟨_, by first | rfl | (simp [errW_none, errW_some] <;> rfl) | (simp [*, errW_none, errW_some] <;> rfl), by (with_reducible repeat (first | apply Kd.R_alloc | apply Kd.R_drewN | apply Kd.R_drew)); exact HO_4.out, by repeat (first | (with_reducible first | exact HB.out | apply below_alloc | apply pw_below_drewN | apply below_drew1 | refine below_set ?_ GE362.out) | exact HB.out)⟩
  ·exact ax7
 ·replace c3 := Bool.eq_false_iff.mpr c3
  subst c3
  rw [if_neg (show ¬ (false = true) by decide)] at H
  simp only [Option.some.injEq, Prod.mk.injEq] at H
  obtain ⟨rfl, rfl⟩ := H
  go_enter Tryz.func24, Tryz.ntmps24
  go_wp2_with (first | ((with_reducible refine gate_dst (N := 1) rfl ?_); refine box_event ?hg (N := 1) ?hd (cs := #[.slice A0_0 l0_0.length c0_0]) (t := 51) ?hr ?_; (case hd => rfl); (case hg => rfl); (case hr => exact ax8); intro gb362 hg w42 hbox hb; have n0_ := Aside0.mk (below_step ax9 hb); have n1_ := Aside0.mk (hbox); have n2_ := Aside0.mk ((ax10 : w.heap.size ≤ gb362)); have n3_ := Aside0.mk ((ax10 : w.heap.size ≤ gb362)); clear HB; have HB := n0_; have BK362 := n1_; have GW362 := n2_; have GE362 := n3_; clear n0_ n1_ n2_ n3_; clear hb hbox hg) | ((with_reducible refine gate_dst (N := 7) rfl ?_); refine Kd.R_lit Kd.string _ 9 ?hg (N := 7) ?hd (xs := ([(⟨#[]⟩ : ByteArray)] : List ByteArray)) (inner := [.string (⟨#[]⟩ : ByteArray)]) (ok := fun _ => True) (okp := fun _ => True) ?hr ?hp (fun _ hk => hk) trivial (Below.refl _ _) (Nat.le_refl _) (by simp) ?_; (case hd => rfl); (case hg => rfl); (case hr => exact ax8); (case hp => exact ax59); intro v364 w43 ho44 hb hg_ hnew_; clear hg_ hnew_; (first | rw [← Ny363.out] at ho44 | (simp only [Int.reduceToNat] at ho44; rw [← Ny363.out] at ho44)); have n0_ := Aside0.mk (Kd.R_lower ho44 (below_size ax201)); have n1_ := Aside0.mk (blk_below (g := gb362) (o := .cells #[.slice A0_0 l0_0.length c0_0] 51 (0, 0)) ax202 hb); have n2_ := Aside0.mk (below_step ax201 hb); clear BK362; clear HB; have HO365 := n0_; have BK362 := n1_; have HB := n2_; clear n0_ n1_ n2_; clear hb ho44; have hcz45_0 : w43.cell? ⟨gb362, 0, none⟩ = some (.slice A0_0 l0_0.length c0_0) := (blk_cell BK362.out 0).trans rfl; have hfz45_0 := blk_frozen BK362.out 0) | ((with_reducible refine gate_callee (f := 23) rfl ?_); refine goesL_ (some 11) rfl rfl Tryz.func23 (by kernel_rfl) rfl #[.int .i64 (l0_0.length : Int), .int .i64 1, .int .i64 481] rfl ax12 ?_; (with_reducible refine (impl_in.calls (l0_0.length : Int) 1 481 false _ A2.out).mono ?_); rintro e w' ⟨rfl, ⟨nd, rfl⟩⟩; refine ⟨_, rfl, ?_⟩))
  go_ret2
  exact ⟨_, by first | rfl | (simp [errW_none, errW_some] <;> rfl) | (simp [*, errW_none, errW_some] <;> rfl), by first | exact Kd.R_nil _ _ _ _ _ | exact Kd.N_nil _ _ _ _ _ | exact Kd.V_nil _ _ _ _ _ | exact Kd.Q_nil _ _ _ _ _ | exact Kd.S_nil _ _ _ _ _, by repeat (first | (with_reducible first | exact HB.out | apply below_alloc | apply pw_below_drewN | apply below_drew1 | refine below_set ?_ GE362.out) | exact HB.out)⟩

end Go.Proofs.YtnjjchbhbicmoaaGreatDoor.X

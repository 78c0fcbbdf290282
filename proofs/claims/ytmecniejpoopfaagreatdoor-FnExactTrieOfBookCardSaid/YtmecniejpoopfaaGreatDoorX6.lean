-- By gen.py (the session's own program over the kit's printer): functions of the program, each with its contract. Lean checks it.
import Derived.Test.YtmecniejpoopfaaGreatDoorX0
import Derived.Test.YtmecniejpoopfaaGreatDoorX3
import Derived.Test.YtmecniejpoopfaaGreatDoorX4
import Derived.Test.YtmecniejpoopfaaGreatDoorX5
namespace Go.Proofs.YtmecniejpoopfaaGreatDoor.X
open Go.RowKit Go.Proofs.YtmecniejpoopfaaGreatDoorW.PrintWords Go.Proofs.YtmecniejpoopfaaGreatDoorW.PrintLast Go.Proofs.YtmecniejpoopfaaGreatDoorW.PrintMore
attribute [local go_sem] max2_int min2_int max_two min_two max_three min_three max_four min_four   -- for this text's walks alone
set_option linter.unusedVariables false
set_option linter.unusedSimpArgs false

/-! ### impl_Book_trie: function 45 -/
def impl_Book_trie.f (k : Nat) (a0_0 : ByteArray) (a0_1 : ByteArray) (a0_2 : Int) : Option ((List (S105)) × Bool) := (impl_Book_wordsOf.f a0_0 a0_1 a0_2).bind fun t226 => (if (t226.length : Int) > 40 then (some (([] : List (S105)), false)) else ((slices_ContainsFunc_string_string.f t226 (fun z_ => impl_Book_trie_1.f z_)).bind fun t229 => (if t229 = true then (some (([] : List (S105)), false)) else ((impl_set.f t226).bind fun t230 => ((slices_Equal_string_string.f k t230 t226).bind fun t233 => (if t233 = true then ((impl_trieOf.f k t226).bind fun t234 => (some (t234, true))) else (some (([] : List (S105)), false))))))))
theorem impl_Book_trie.mono : ∀ a0 a1 a2 k, LeO (impl_Book_trie.f k a0 a1 a2) (impl_Book_trie.f (k + 1) a0 a1 a2) := by
 intro a0 a1 a2 k
 unfold impl_Book_trie.f
 repeat' first
   | (with_reducible exact impl_trieOf.mono _ _)
   | (with_reducible exact slices_Equal_string_string.mono _ _ _)
   | (with_reducible exact LeO.refl _)
   | (with_reducible exact LeO.none _)
   | (with_reducible refine LeO.ite ?_ ?_)
   | (with_reducible refine LeO.bind ?_ (fun _ => ?_))
   | exact impl_trieOf.mono _ _
   | exact slices_Equal_string_string.mono _ _ _
   | exact LeO.none _
   | refine LeO.ite ?_ ?_
   | refine LeO.bind ?_ (fun _ => ?_)
set_option maxHeartbeats 8000000 in
set_option maxRecDepth 100000 in
theorem impl_Book_trie.calls (k : Nat) (a0_0 : ByteArray) (a0_1 : ByteArray) (a0_2 : Int) (r1 : List (S105)) (r2 : Bool) (w : World) (hG : GL w) (h : impl_Book_trie.f k a0_0 a0_1 a0_2 = some (r1, r2)) :
  Calls Tryz.prog 45 #[.agg #[.string a0_0, .string a0_1, .int .i64 a0_2]] w fun e w' => ∃ v0_ : Value, e = .returned (.tuple #[.agg #[v0_], .bool r2]) ∧ Kd.R k105 105 w' w.heap.size (fun _ => True) v0_ r1 ∧ Below w.heap.size w w' := by
 have hu25 := Tryz.underlying25; have hu45 := Tryz.underlying45; have HB := Aside0.mk (Below.refl w.heap.size w); have HG := Aside0.mk hG; clear hG
 have H : ((impl_Book_wordsOf.f a0_0 a0_1 a0_2).bind fun t226 => (if (t226.length : Int) > 40 then (some (([] : List (S105)), false)) else ((slices_ContainsFunc_string_string.f t226 (fun z_ => impl_Book_trie_1.f z_)).bind fun t229 => (if t229 = true then (some (([] : List (S105)), false)) else ((impl_set.f t226).bind fun t230 => ((slices_Equal_string_string.f k t230 t226).bind fun t233 => (if t233 = true then ((impl_trieOf.f k t226).bind fun t234 => (some (t234, true))) else (some (([] : List (S105)), false))))))))) = some (r1, r2) := h
 clear h; replace H := Option.bind_eq_some_iff.mp H
 obtain ⟨t226, A20, H⟩ := H
 replace H : (if (t226.length : Int) > 40 then (some (([] : List (S105)), false)) else ((slices_ContainsFunc_string_string.f t226 (fun z_ => impl_Book_trie_1.f z_)).bind fun t229 => (if t229 = true then (some (([] : List (S105)), false)) else ((impl_set.f t226).bind fun t230 => ((slices_Equal_string_string.f k t230 t226).bind fun t233 => (if t233 = true then ((impl_trieOf.f k t226).bind fun t234 => (some (t234, true))) else (some (([] : List (S105)), false)))))))) = some (r1, r2) := H
 have A2 := Aside0.mk A20; clear A20
 by_cases c3 : (t226.length : Int) > 40
 ·rw [if_pos c3] at H
  have c3b0 : decide (40 < (t226.length : Int)) = true := decide_eq_true c3
  have c3b1 : decide (40 < t226.length) = true := decide_eq_true (by omega)
  clear c3
  simp only [Option.some.injEq, Prod.mk.injEq] at H
  obtain ⟨rfl, rfl⟩ := H
  go_enter Tryz.func45, Tryz.ntmps45
  go_wp2_with (first | ((with_reducible refine gate_dst (N := 1) rfl ?_); refine box_event ?hg (N := 1) ?hd (cs := #[.string a0_0, .string a0_1, .int .i64 a0_2]) (t := 25) ?hr ?_; (case hd => rfl); (case hg => rfl); (case hr => exact ax23); intro gb224 hg w4 hbox hb; have n0_ := Aside0.mk (below_step ax25 hb); have n1_ := Aside0.mk (hbox); have n2_ := Aside0.mk ((ax54 : w.heap.size ≤ gb224)); have n3_ := Aside0.mk ((ax54 : w.heap.size ≤ gb224)); clear HB; have HB := n0_; have BK224 := n1_; have GW224 := n2_; have GE224 := n3_; clear n0_ n1_ n2_ n3_; clear hb hbox hg) | ((with_reducible refine gate_dst (N := 2) rfl ?_); refine box_event ?hg (N := 2) ?hd (cs := #[.slice none 0 0]) (t := 45) ?hr ?_; (case hd => rfl); (case hg => rfl); (case hr => exact ax23); intro gb225 hg w5 hbox hb; have n0_ := Aside0.mk (blk_below (g := gb224) (o := .cells #[.string a0_0, .string a0_1, .int .i64 a0_2] 25 (0, 0)) ax80 hb); have n1_ := Aside0.mk (below_step ax81 hb); have n2_ := Aside0.mk (hbox); have n3_ := Aside0.mk ((ax82 : w.heap.size ≤ gb225)); have n4_ := Aside0.mk ((ax82 : w.heap.size ≤ gb225)); have n5_ := Aside0.mk ((ax83 : gb224 ≠ gb225)); have n6_ := Aside0.mk ((ax84 : gb225 ≠ gb224)); clear BK224; clear HB; have BK224 := n0_; have HB := n1_; have BK225 := n2_; have GW225 := n3_; have GE225 := n4_; have NB224_225 := n5_; have NB225_224 := n6_; clear n0_ n1_ n2_ n3_ n4_ n5_ n6_; clear hb hbox hg; have hnb6 := NB224_225.out; have hnc6 := NB225_224.out; have hcz7_0 : w5.cell? ⟨gb224, 0, none⟩ = some (.string a0_0) := (blk_cell BK224.out 0).trans rfl; have hcz7_1 : w5.cell? ⟨gb224, 1, none⟩ = some (.string a0_1) := (blk_cell BK224.out 1).trans rfl; have hcz7_2 : w5.cell? ⟨gb224, 2, none⟩ = some (.int .i64 a0_2) := (blk_cell BK224.out 2).trans rfl; have hfz7_0 := blk_frozen BK224.out 0; have hfz7_1 := blk_frozen BK224.out 1; have hfz7_2 := blk_frozen BK224.out 2) | ((with_reducible refine gate_callee (f := 51) rfl ?_); refine goesL_ (some 6) rfl rfl Tryz.func51 (by kernel_rfl) rfl #[.agg #[.string a0_0, .string a0_1, .int .i64 a0_2]] rfl ax31 ?_; (with_reducible refine (impl_Book_wordsOf.calls a0_0 a0_1 a0_2 t226 _ ?side1 A2.out).mono ?_); (case side1 => exact ax85); rintro e w8 ⟨v227, rfl, ho0, hb⟩; refine ⟨_, rfl, ?_⟩; have n0_ := Aside0.mk (Kd.R_lower ho0 (below_size ax86)); have n1_ := Aside0.mk (blk_below (g := gb224) (o := .cells #[.string a0_0, .string a0_1, .int .i64 a0_2] 25 (0, 0)) ax80 hb); have n2_ := Aside0.mk (blk_below (g := gb225) (o := .cells #[.slice none 0 0] 45 (0, 0)) ax87 hb); have n3_ := Aside0.mk (below_step ax86 hb); clear BK224; clear BK225; clear HB; have HO228 := n0_; have BK224 := n1_; have BK225 := n2_; have HB := n3_; clear n0_ n1_ n2_ n3_; (try clear hb); (try clear hb2); (try clear hk); (try clear hi); (try clear ho0); obtain ⟨Ao9, co9, eo9⟩ := Kd.R_slice HO228.out; subst eo9; have hcz10_0 : w8.cell? ⟨gb225, 0, none⟩ = some (.slice none 0 0) := (blk_cell BK225.out 0).trans rfl; have hfz10_0 := blk_frozen BK225.out 0))
  refine bodyPost_ret (results_ct rfl _ _ gb225 45 #[.slice none 0 0] (0, 0) _ rfl ax88 Tryz.underlying45 rfl (by kernel_rfl)) rfl ?_
  exact ⟨_, by first | rfl | (simp [errW_none, errW_some] <;> rfl) | (simp [*, errW_none, errW_some] <;> rfl), by first | exact Kd.R_nil _ _ _ _ _ | exact Kd.N_nil _ _ _ _ _ | exact Kd.V_nil _ _ _ _ _ | exact Kd.Q_nil _ _ _ _ _ | exact Kd.S_nil _ _ _ _ _, by repeat (first | (with_reducible first | exact HB.out | apply below_alloc | apply pw_below_drewN | apply below_drew1 | refine below_set ?_ GE224.out | refine below_set ?_ GE225.out) | exact HB.out)⟩
 ·rw [if_neg c3] at H
  have c3b0 : decide (40 < (t226.length : Int)) = false := decide_eq_false c3
  have c3b1 : decide (40 < t226.length) = false := decide_eq_false (by omega)
  clear c3; replace H := Option.bind_eq_some_iff.mp H
  obtain ⟨t229, A110, H⟩ := H
  replace H : (if t229 = true then (some (([] : List (S105)), false)) else ((impl_set.f t226).bind fun t230 => ((slices_Equal_string_string.f k t230 t226).bind fun t233 => (if t233 = true then ((impl_trieOf.f k t226).bind fun t234 => (some (t234, true))) else (some (([] : List (S105)), false)))))) = some (r1, r2) := H
  have A11 := Aside0.mk A110; clear A110
  by_cases c12 : t229 = true
  ·subst c12
   have H1 : (some (([] : List (S105)), false)) = some (r1, r2) := by rw [if_pos rfl] at H; exact H
   clear H; have H := H1; clear H1
   simp only [Option.some.injEq, Prod.mk.injEq] at H
   obtain ⟨rfl, rfl⟩ := H
   go_enter Tryz.func45, Tryz.ntmps45
   go_wp2_with (first | ((with_reducible refine gate_dst (N := 1) rfl ?_); refine box_event ?hg (N := 1) ?hd (cs := #[.string a0_0, .string a0_1, .int .i64 a0_2]) (t := 25) ?hr ?_; (case hd => rfl); (case hg => rfl); (case hr => exact ax23); intro gb224 hg w13 hbox hb; have n0_ := Aside0.mk (below_step ax25 hb); have n1_ := Aside0.mk (hbox); have n2_ := Aside0.mk ((ax54 : w.heap.size ≤ gb224)); have n3_ := Aside0.mk ((ax54 : w.heap.size ≤ gb224)); clear HB; have HB := n0_; have BK224 := n1_; have GW224 := n2_; have GE224 := n3_; clear n0_ n1_ n2_ n3_; clear hb hbox hg) | ((with_reducible refine gate_dst (N := 2) rfl ?_); refine box_event ?hg (N := 2) ?hd (cs := #[.slice none 0 0]) (t := 45) ?hr ?_; (case hd => rfl); (case hg => rfl); (case hr => exact ax23); intro gb225 hg w14 hbox hb; have n0_ := Aside0.mk (blk_below (g := gb224) (o := .cells #[.string a0_0, .string a0_1, .int .i64 a0_2] 25 (0, 0)) ax80 hb); have n1_ := Aside0.mk (below_step ax81 hb); have n2_ := Aside0.mk (hbox); have n3_ := Aside0.mk ((ax82 : w.heap.size ≤ gb225)); have n4_ := Aside0.mk ((ax82 : w.heap.size ≤ gb225)); have n5_ := Aside0.mk ((ax83 : gb224 ≠ gb225)); have n6_ := Aside0.mk ((ax84 : gb225 ≠ gb224)); clear BK224; clear HB; have BK224 := n0_; have HB := n1_; have BK225 := n2_; have GW225 := n3_; have GE225 := n4_; have NB224_225 := n5_; have NB225_224 := n6_; clear n0_ n1_ n2_ n3_ n4_ n5_ n6_; clear hb hbox hg; have hnb15 := NB224_225.out; have hnc15 := NB225_224.out; have hcz16_0 : w14.cell? ⟨gb224, 0, none⟩ = some (.string a0_0) := (blk_cell BK224.out 0).trans rfl; have hcz16_1 : w14.cell? ⟨gb224, 1, none⟩ = some (.string a0_1) := (blk_cell BK224.out 1).trans rfl; have hcz16_2 : w14.cell? ⟨gb224, 2, none⟩ = some (.int .i64 a0_2) := (blk_cell BK224.out 2).trans rfl; have hfz16_0 := blk_frozen BK224.out 0; have hfz16_1 := blk_frozen BK224.out 1; have hfz16_2 := blk_frozen BK224.out 2) | ((with_reducible refine gate_callee (f := 51) rfl ?_); refine goesL_ (some 6) rfl rfl Tryz.func51 (by kernel_rfl) rfl #[.agg #[.string a0_0, .string a0_1, .int .i64 a0_2]] rfl ax31 ?_; (with_reducible refine (impl_Book_wordsOf.calls a0_0 a0_1 a0_2 t226 _ ?side1 A2.out).mono ?_); (case side1 => exact ax85); rintro e w17 ⟨v227, rfl, ho0, hb⟩; refine ⟨_, rfl, ?_⟩; have n0_ := Aside0.mk (Kd.R_lower ho0 (below_size ax86)); have n1_ := Aside0.mk (blk_below (g := gb224) (o := .cells #[.string a0_0, .string a0_1, .int .i64 a0_2] 25 (0, 0)) ax80 hb); have n2_ := Aside0.mk (blk_below (g := gb225) (o := .cells #[.slice none 0 0] 45 (0, 0)) ax87 hb); have n3_ := Aside0.mk (below_step ax86 hb); clear BK224; clear BK225; clear HB; have HO228 := n0_; have BK224 := n1_; have BK225 := n2_; have HB := n3_; clear n0_ n1_ n2_ n3_; (try clear hb); (try clear hb2); (try clear hk); (try clear hi); (try clear ho0); obtain ⟨Ao18, co18, eo18⟩ := Kd.R_slice HO228.out; subst eo18) | (go_at_call 38; (with_reducible refine (slices_ContainsFunc_string_string.calls _ _ t226 (fun z_ => impl_Book_trie_1.f z_) true _ ?side1 ?side2 ?side3 ?side4 A11.out).mono ?_); (case side1 => exact ax89); (case side2 => exact ax90); (case side3 => exact ax91); (case side4 => exact ax92); rintro e w19 ⟨rfl, hb⟩; have n0_ := Aside0.mk (Kd.R_below ax93 hb); have n1_ := Aside0.mk (blk_below (g := gb224) (o := .cells #[.string a0_0, .string a0_1, .int .i64 a0_2] 25 (0, 0)) ax80 hb); have n2_ := Aside0.mk (blk_below (g := gb225) (o := .cells #[.slice none 0 0] 45 (0, 0)) ax87 hb); have n3_ := Aside0.mk (below_step ax86 hb); clear HO228; clear BK224; clear BK225; clear HB; have HO228 := n0_; have BK224 := n1_; have BK225 := n2_; have HB := n3_; clear n0_ n1_ n2_ n3_; (try clear hb); (try clear hb2); (try clear hk); (try clear hi); have hcz20_0 : w19.cell? ⟨gb225, 0, none⟩ = some (.slice none 0 0) := (blk_cell BK225.out 0).trans rfl; have hfz20_0 := blk_frozen BK225.out 0))
   refine bodyPost_ret (results_ct rfl _ _ gb225 45 #[.slice none 0 0] (0, 0) _ rfl ax88 Tryz.underlying45 rfl (by kernel_rfl)) rfl ?_
   exact ⟨_, by first | rfl | (simp [errW_none, errW_some] <;> rfl) | (simp [*, errW_none, errW_some] <;> rfl), by first | exact Kd.R_nil _ _ _ _ _ | exact Kd.N_nil _ _ _ _ _ | exact Kd.V_nil _ _ _ _ _ | exact Kd.Q_nil _ _ _ _ _ | exact Kd.S_nil _ _ _ _ _, by repeat (first | (with_reducible first | exact HB.out | apply below_alloc | apply pw_below_drewN | apply below_drew1 | refine below_set ?_ GE224.out | refine below_set ?_ GE225.out) | exact HB.out)⟩
  ·replace c12 := Bool.eq_false_iff.mpr c12
   subst c12
   have H1 : ((impl_set.f t226).bind fun t230 => ((slices_Equal_string_string.f k t230 t226).bind fun t233 => (if t233 = true then ((impl_trieOf.f k t226).bind fun t234 => (some (t234, true))) else (some (([] : List (S105)), false))))) = some (r1, r2) := by rw [if_neg (show ¬ (false = true) by decide)] at H; exact H
   clear H; have H := H1; clear H1; replace H := Option.bind_eq_some_iff.mp H
   obtain ⟨t230, A210, H⟩ := H
   replace H : ((slices_Equal_string_string.f k t230 t226).bind fun t233 => (if t233 = true then ((impl_trieOf.f k t226).bind fun t234 => (some (t234, true))) else (some (([] : List (S105)), false)))) = some (r1, r2) := H
   have A21 := Aside0.mk A210; clear A210; replace H := Option.bind_eq_some_iff.mp H
   obtain ⟨t233, A220, H⟩ := H
   replace H : (if t233 = true then ((impl_trieOf.f k t226).bind fun t234 => (some (t234, true))) else (some (([] : List (S105)), false))) = some (r1, r2) := H
   have A22 := Aside0.mk A220; clear A220
   by_cases c23 : t233 = true
   ·subst c23
    have H1 : ((impl_trieOf.f k t226).bind fun t234 => (some (t234, true))) = some (r1, r2) := by rw [if_pos rfl] at H; exact H
    clear H; have H := H1; clear H1; replace H := Option.bind_eq_some_iff.mp H
    obtain ⟨t234, A240, H⟩ := H
    replace H : (some (t234, true)) = some (r1, r2) := H
    have A24 := Aside0.mk A240; clear A240
    simp only [Option.some.injEq, Prod.mk.injEq] at H
    obtain ⟨rfl, rfl⟩ := H
    go_enter Tryz.func45, Tryz.ntmps45
    go_wp2_with (first | ((with_reducible refine gate_dst (N := 1) rfl ?_); refine box_event ?hg (N := 1) ?hd (cs := #[.string a0_0, .string a0_1, .int .i64 a0_2]) (t := 25) ?hr ?_; (case hd => rfl); (case hg => rfl); (case hr => exact ax23); intro gb224 hg w25 hbox hb; have n0_ := Aside0.mk (below_step ax25 hb); have n1_ := Aside0.mk (hbox); have n2_ := Aside0.mk ((ax54 : w.heap.size ≤ gb224)); have n3_ := Aside0.mk ((ax54 : w.heap.size ≤ gb224)); clear HB; have HB := n0_; have BK224 := n1_; have GW224 := n2_; have GE224 := n3_; clear n0_ n1_ n2_ n3_; clear hb hbox hg) | ((with_reducible refine gate_dst (N := 2) rfl ?_); refine box_event ?hg (N := 2) ?hd (cs := #[.slice none 0 0]) (t := 45) ?hr ?_; (case hd => rfl); (case hg => rfl); (case hr => exact ax23); intro gb225 hg w26 hbox hb; have n0_ := Aside0.mk (blk_below (g := gb224) (o := .cells #[.string a0_0, .string a0_1, .int .i64 a0_2] 25 (0, 0)) ax80 hb); have n1_ := Aside0.mk (below_step ax81 hb); have n2_ := Aside0.mk (hbox); have n3_ := Aside0.mk ((ax82 : w.heap.size ≤ gb225)); have n4_ := Aside0.mk ((ax82 : w.heap.size ≤ gb225)); have n5_ := Aside0.mk ((ax83 : gb224 ≠ gb225)); have n6_ := Aside0.mk ((ax84 : gb225 ≠ gb224)); clear BK224; clear HB; have BK224 := n0_; have HB := n1_; have BK225 := n2_; have GW225 := n3_; have GE225 := n4_; have NB224_225 := n5_; have NB225_224 := n6_; clear n0_ n1_ n2_ n3_ n4_ n5_ n6_; clear hb hbox hg; have hnb27 := NB224_225.out; have hnc27 := NB225_224.out; have hcz28_0 : w26.cell? ⟨gb224, 0, none⟩ = some (.string a0_0) := (blk_cell BK224.out 0).trans rfl; have hcz28_1 : w26.cell? ⟨gb224, 1, none⟩ = some (.string a0_1) := (blk_cell BK224.out 1).trans rfl; have hcz28_2 : w26.cell? ⟨gb224, 2, none⟩ = some (.int .i64 a0_2) := (blk_cell BK224.out 2).trans rfl; have hfz28_0 := blk_frozen BK224.out 0; have hfz28_1 := blk_frozen BK224.out 1; have hfz28_2 := blk_frozen BK224.out 2) | ((with_reducible refine gate_callee (f := 51) rfl ?_); refine goesL_ (some 6) rfl rfl Tryz.func51 (by kernel_rfl) rfl #[.agg #[.string a0_0, .string a0_1, .int .i64 a0_2]] rfl ax31 ?_; (with_reducible refine (impl_Book_wordsOf.calls a0_0 a0_1 a0_2 t226 _ ?side1 A2.out).mono ?_); (case side1 => exact ax85); rintro e w29 ⟨v227, rfl, ho0, hb⟩; refine ⟨_, rfl, ?_⟩; have n0_ := Aside0.mk (Kd.R_lower ho0 (below_size ax86)); have n1_ := Aside0.mk (blk_below (g := gb224) (o := .cells #[.string a0_0, .string a0_1, .int .i64 a0_2] 25 (0, 0)) ax80 hb); have n2_ := Aside0.mk (blk_below (g := gb225) (o := .cells #[.slice none 0 0] 45 (0, 0)) ax87 hb); have n3_ := Aside0.mk (below_step ax86 hb); clear BK224; clear BK225; clear HB; have HO228 := n0_; have BK224 := n1_; have BK225 := n2_; have HB := n3_; clear n0_ n1_ n2_ n3_; (try clear hb); (try clear hb2); (try clear hk); (try clear hi); (try clear ho0); obtain ⟨Ao30, co30, eo30⟩ := Kd.R_slice HO228.out; subst eo30) | (go_at_call 38; (with_reducible refine (slices_ContainsFunc_string_string.calls _ _ t226 (fun z_ => impl_Book_trie_1.f z_) false _ ?side1 ?side2 ?side3 ?side4 A11.out).mono ?_); (case side1 => exact ax89); (case side2 => exact ax90); (case side3 => exact ax91); (case side4 => exact ax92); rintro e w31 ⟨rfl, hb⟩; have n0_ := Aside0.mk (Kd.R_below ax93 hb); have n1_ := Aside0.mk (blk_below (g := gb224) (o := .cells #[.string a0_0, .string a0_1, .int .i64 a0_2] 25 (0, 0)) ax80 hb); have n2_ := Aside0.mk (blk_below (g := gb225) (o := .cells #[.slice none 0 0] 45 (0, 0)) ax87 hb); have n3_ := Aside0.mk (below_step ax86 hb); clear HO228; clear BK224; clear BK225; clear HB; have HO228 := n0_; have BK224 := n1_; have BK225 := n2_; have HB := n3_; clear n0_ n1_ n2_ n3_; (try clear hb); (try clear hb2); (try clear hk); (try clear hi)) | (go_at_call 37; (with_reducible refine (impl_set.calls _ _ t226 t230 _ ?side1 ?side2 A21.out).mono ?_); (case side1 => exact ax89); (case side2 => exact ax90); rintro e w32 ⟨v231, rfl, ho0, hb⟩; have n0_ := Aside0.mk (Kd.R_elder' ax93 (Kd.R_base ho0) hb); have n1_ := Aside0.mk (Kd.R_lower (Kd.R_new' ho0 (Kd.R_lt ax93)) (below_size ax86)); have n2_ := Aside0.mk (blk_below (g := gb224) (o := .cells #[.string a0_0, .string a0_1, .int .i64 a0_2] 25 (0, 0)) ax80 hb); have n3_ := Aside0.mk (blk_below (g := gb225) (o := .cells #[.slice none 0 0] 45 (0, 0)) ax87 hb); have n4_ := Aside0.mk (below_step ax86 hb); clear HO228; clear BK224; clear BK225; clear HB; have HO228 := n0_; have HO232 := n1_; have BK224 := n2_; have BK225 := n3_; have HB := n4_; clear n0_ n1_ n2_ n3_ n4_; (try clear hb); (try clear hb2); (try clear hk); (try clear hi); (try clear ho0); obtain ⟨Ao33, co33, eo33⟩ := Kd.R_slice HO232.out; subst eo33) | (go_at_call 72; (with_reducible refine (slices_Equal_string_string.calls k _ _ t230 _ _ t226 true _ ?side1 ?side2 ?side3 ?side4 A22.out).mono ?_); (case side1 => exact ax94); (case side2 => exact (Kd.R_reads' HO232.out).2.1); (case side3 => exact ax89); (case side4 => exact ax90); rintro e w' ⟨rfl, ⟨nd, rfl⟩⟩; (try (rw [drewN_self w32]; generalize hq_ : World.drewN w32 _ = w32; have n0_ : Aside0 (Kd.R Kd.string 9 w32 w.heap.size (fun k_ => some k_ ≠ (.slice Ao33 t230.length co33 : Value).ownBlock) (.slice Ao30 t226.length co30) t226) := ⟨by rw [← hq_]; exact ax95⟩; have n1_ : Aside0 (Kd.R Kd.string 9 w32 w.heap.size (fun k_ => some k_ ≠ (.slice Ao30 t226.length co30 : Value).ownBlock) (.slice Ao33 t230.length co33) t230) := ⟨by rw [← hq_]; exact ax96⟩; have n2_ : Aside0 (w32.heap[gb224]? = some (.cells #[.string a0_0, .string a0_1, .int .i64 a0_2] 25 (0, 0))) := ⟨by rw [← hq_]; exact ax80⟩; have n3_ : Aside0 (w32.heap[gb225]? = some (.cells #[.slice none 0 0] 45 (0, 0))) := ⟨by rw [← hq_]; exact ax87⟩; have n4_ : Aside0 (Below w.heap.size w w32) := ⟨by rw [← hq_]; exact ax86⟩; clear HO228 HO232 BK224 BK225 HB hq_; have HO228 := n0_; have HO232 := n1_; have BK224 := n2_; have BK225 := n3_; have HB := n4_; clear n0_ n1_ n2_ n3_ n4_))) | ((with_reducible refine gate_callee (f := 73) rfl ?_); refine goesL_ (some 23) rfl rfl Tryz.func73 (by kernel_rfl) rfl #[.slice Ao30 t226.length co30] rfl ax31 ?_; (with_reducible refine (impl_trieOf.calls k _ _ t226 t234 _ ?side1 ?side2 A24.out).mono ?_); (case side1 => exact ax89); (case side2 => exact ax90); rintro e w34 ⟨v235, rfl, ho0, hb⟩; refine ⟨_, rfl, ?_⟩; have n0_ := Aside0.mk (Kd.R_below ax93 hb); have n1_ := Aside0.mk (Kd.R_below (by (with_reducible repeat (first | apply Kd.R_alloc | apply Kd.R_drewN | apply Kd.R_drew)); exact HO232.out) hb); have n2_ := Aside0.mk (Kd.R_lower ho0 (below_size ax86)); have n3_ := Aside0.mk (blk_below (g := gb224) (o := .cells #[.string a0_0, .string a0_1, .int .i64 a0_2] 25 (0, 0)) ax80 hb); have n4_ := Aside0.mk (blk_below (g := gb225) (o := .cells #[.slice none 0 0] 45 (0, 0)) ax87 hb); have n5_ := Aside0.mk (below_step ax86 hb); clear HO228; clear HO232; clear BK224; clear BK225; clear HB; have HO228 := n0_; have HO232 := n1_; have HO236 := n2_; have BK224 := n3_; have BK225 := n4_; have HB := n5_; clear n0_ n1_ n2_ n3_ n4_ n5_; (try clear hb); (try clear hb2); (try clear hk); (try clear hi); (try clear ho0); obtain ⟨Ao35, co35, eo35⟩ := Kd.R_slice HO236.out; subst eo35; have hcz36_0 : w34.cell? ⟨gb225, 0, none⟩ = some (.slice none 0 0) := (blk_cell BK225.out 0).trans rfl; have hfz36_0 := blk_frozen BK225.out 0))
    refine bodyPost_ret (results_ct rfl _ _ gb225 45 #[.slice Ao35 t234.length co35] (0, 0) _ rfl ax88 Tryz.underlying45 rfl (by kernel_rfl)) rfl ?_
    exact ⟨_, by first | rfl | (simp [errW_none, errW_some] <;> rfl) | (simp [*, errW_none, errW_some] <;> rfl), by (with_reducible repeat (first | apply Kd.R_alloc | apply Kd.R_drewN | apply Kd.R_drew)); exact Kd.R_mono (Kd.R_far (p := ⟨gb225, 0, none⟩) (Kd.R_types HO236.out BK225.out (by decide)) (fun _ hk => hk.2) (.slice Ao35 t234.length co35)) (fun _ hk => trivial), by repeat (first | (with_reducible first | exact HB.out | apply below_alloc | apply pw_below_drewN | apply below_drew1 | refine below_set ?_ GE224.out | refine below_set ?_ GE225.out) | exact HB.out)⟩
   ·replace c23 := Bool.eq_false_iff.mpr c23
    subst c23
    have H1 : (some (([] : List (S105)), false)) = some (r1, r2) := by rw [if_neg (show ¬ (false = true) by decide)] at H; exact H
    clear H; have H := H1; clear H1
    simp only [Option.some.injEq, Prod.mk.injEq] at H
    obtain ⟨rfl, rfl⟩ := H
    go_enter Tryz.func45, Tryz.ntmps45
    go_wp2_with (first | ((with_reducible refine gate_dst (N := 1) rfl ?_); refine box_event ?hg (N := 1) ?hd (cs := #[.string a0_0, .string a0_1, .int .i64 a0_2]) (t := 25) ?hr ?_; (case hd => rfl); (case hg => rfl); (case hr => exact ax23); intro gb224 hg w37 hbox hb; have n0_ := Aside0.mk (below_step ax25 hb); have n1_ := Aside0.mk (hbox); have n2_ := Aside0.mk ((ax54 : w.heap.size ≤ gb224)); have n3_ := Aside0.mk ((ax54 : w.heap.size ≤ gb224)); clear HB; have HB := n0_; have BK224 := n1_; have GW224 := n2_; have GE224 := n3_; clear n0_ n1_ n2_ n3_; clear hb hbox hg) | ((with_reducible refine gate_dst (N := 2) rfl ?_); refine box_event ?hg (N := 2) ?hd (cs := #[.slice none 0 0]) (t := 45) ?hr ?_; (case hd => rfl); (case hg => rfl); (case hr => exact ax23); intro gb225 hg w38 hbox hb; have n0_ := Aside0.mk (blk_below (g := gb224) (o := .cells #[.string a0_0, .string a0_1, .int .i64 a0_2] 25 (0, 0)) ax80 hb); have n1_ := Aside0.mk (below_step ax81 hb); have n2_ := Aside0.mk (hbox); have n3_ := Aside0.mk ((ax82 : w.heap.size ≤ gb225)); have n4_ := Aside0.mk ((ax82 : w.heap.size ≤ gb225)); have n5_ := Aside0.mk ((ax83 : gb224 ≠ gb225)); have n6_ := Aside0.mk ((ax84 : gb225 ≠ gb224)); clear BK224; clear HB; have BK224 := n0_; have HB := n1_; have BK225 := n2_; have GW225 := n3_; have GE225 := n4_; have NB224_225 := n5_; have NB225_224 := n6_; clear n0_ n1_ n2_ n3_ n4_ n5_ n6_; clear hb hbox hg; have hnb39 := NB224_225.out; have hnc39 := NB225_224.out; have hcz40_0 : w38.cell? ⟨gb224, 0, none⟩ = some (.string a0_0) := (blk_cell BK224.out 0).trans rfl; have hcz40_1 : w38.cell? ⟨gb224, 1, none⟩ = some (.string a0_1) := (blk_cell BK224.out 1).trans rfl; have hcz40_2 : w38.cell? ⟨gb224, 2, none⟩ = some (.int .i64 a0_2) := (blk_cell BK224.out 2).trans rfl; have hfz40_0 := blk_frozen BK224.out 0; have hfz40_1 := blk_frozen BK224.out 1; have hfz40_2 := blk_frozen BK224.out 2) | ((with_reducible refine gate_callee (f := 51) rfl ?_); refine goesL_ (some 6) rfl rfl Tryz.func51 (by kernel_rfl) rfl #[.agg #[.string a0_0, .string a0_1, .int .i64 a0_2]] rfl ax31 ?_; (with_reducible refine (impl_Book_wordsOf.calls a0_0 a0_1 a0_2 t226 _ ?side1 A2.out).mono ?_); (case side1 => exact ax85); rintro e w41 ⟨v227, rfl, ho0, hb⟩; refine ⟨_, rfl, ?_⟩; have n0_ := Aside0.mk (Kd.R_lower ho0 (below_size ax86)); have n1_ := Aside0.mk (blk_below (g := gb224) (o := .cells #[.string a0_0, .string a0_1, .int .i64 a0_2] 25 (0, 0)) ax80 hb); have n2_ := Aside0.mk (blk_below (g := gb225) (o := .cells #[.slice none 0 0] 45 (0, 0)) ax87 hb); have n3_ := Aside0.mk (below_step ax86 hb); clear BK224; clear BK225; clear HB; have HO228 := n0_; have BK224 := n1_; have BK225 := n2_; have HB := n3_; clear n0_ n1_ n2_ n3_; (try clear hb); (try clear hb2); (try clear hk); (try clear hi); (try clear ho0); obtain ⟨Ao42, co42, eo42⟩ := Kd.R_slice HO228.out; subst eo42) | (go_at_call 38; (with_reducible refine (slices_ContainsFunc_string_string.calls _ _ t226 (fun z_ => impl_Book_trie_1.f z_) false _ ?side1 ?side2 ?side3 ?side4 A11.out).mono ?_); (case side1 => exact ax89); (case side2 => exact ax90); (case side3 => exact ax91); (case side4 => exact ax92); rintro e w43 ⟨rfl, hb⟩; have n0_ := Aside0.mk (Kd.R_below ax93 hb); have n1_ := Aside0.mk (blk_below (g := gb224) (o := .cells #[.string a0_0, .string a0_1, .int .i64 a0_2] 25 (0, 0)) ax80 hb); have n2_ := Aside0.mk (blk_below (g := gb225) (o := .cells #[.slice none 0 0] 45 (0, 0)) ax87 hb); have n3_ := Aside0.mk (below_step ax86 hb); clear HO228; clear BK224; clear BK225; clear HB; have HO228 := n0_; have BK224 := n1_; have BK225 := n2_; have HB := n3_; clear n0_ n1_ n2_ n3_; (try clear hb); (try clear hb2); (try clear hk); (try clear hi)) | (go_at_call 37; (with_reducible refine (impl_set.calls _ _ t226 t230 _ ?side1 ?side2 A21.out).mono ?_); (case side1 => exact ax89); (case side2 => exact ax90); rintro e w44 ⟨v231, rfl, ho0, hb⟩; have n0_ := Aside0.mk (Kd.R_elder' ax93 (Kd.R_base ho0) hb); have n1_ := Aside0.mk (Kd.R_lower (Kd.R_new' ho0 (Kd.R_lt ax93)) (below_size ax86)); have n2_ := Aside0.mk (blk_below (g := gb224) (o := .cells #[.string a0_0, .string a0_1, .int .i64 a0_2] 25 (0, 0)) ax80 hb); have n3_ := Aside0.mk (blk_below (g := gb225) (o := .cells #[.slice none 0 0] 45 (0, 0)) ax87 hb); have n4_ := Aside0.mk (below_step ax86 hb); clear HO228; clear BK224; clear BK225; clear HB; have HO228 := n0_; have HO232 := n1_; have BK224 := n2_; have BK225 := n3_; have HB := n4_; clear n0_ n1_ n2_ n3_ n4_; (try clear hb); (try clear hb2); (try clear hk); (try clear hi); (try clear ho0); obtain ⟨Ao45, co45, eo45⟩ := Kd.R_slice HO232.out; subst eo45) | (go_at_call 72; (with_reducible refine (slices_Equal_string_string.calls k _ _ t230 _ _ t226 false _ ?side1 ?side2 ?side3 ?side4 A22.out).mono ?_); (case side1 => exact ax94); (case side2 => exact (Kd.R_reads' HO232.out).2.1); (case side3 => exact ax89); (case side4 => exact ax90); rintro e w' ⟨rfl, ⟨nd, rfl⟩⟩; (try (rw [drewN_self w44]; generalize hq_ : World.drewN w44 _ = w44; have n0_ : Aside0 (Kd.R Kd.string 9 w44 w.heap.size (fun k_ => some k_ ≠ (.slice Ao45 t230.length co45 : Value).ownBlock) (.slice Ao42 t226.length co42) t226) := ⟨by rw [← hq_]; exact ax95⟩; have n1_ : Aside0 (Kd.R Kd.string 9 w44 w.heap.size (fun k_ => some k_ ≠ (.slice Ao42 t226.length co42 : Value).ownBlock) (.slice Ao45 t230.length co45) t230) := ⟨by rw [← hq_]; exact ax96⟩; have n2_ : Aside0 (w44.heap[gb224]? = some (.cells #[.string a0_0, .string a0_1, .int .i64 a0_2] 25 (0, 0))) := ⟨by rw [← hq_]; exact ax80⟩; have n3_ : Aside0 (w44.heap[gb225]? = some (.cells #[.slice none 0 0] 45 (0, 0))) := ⟨by rw [← hq_]; exact ax87⟩; have n4_ : Aside0 (Below w.heap.size w w44) := ⟨by rw [← hq_]; exact ax86⟩; clear HO228 HO232 BK224 BK225 HB hq_; have HO228 := n0_; have HO232 := n1_; have BK224 := n2_; have BK225 := n3_; have HB := n4_; clear n0_ n1_ n2_ n3_ n4_)); have hcz46_0 : w44.cell? ⟨gb225, 0, none⟩ = some (.slice none 0 0) := (blk_cell BK225.out 0).trans rfl; have hfz46_0 := blk_frozen BK225.out 0))
    refine bodyPost_ret (results_ct rfl _ _ gb225 45 #[.slice none 0 0] (0, 0) _ rfl ax88 Tryz.underlying45 rfl (by kernel_rfl)) rfl ?_
    exact ⟨_, by first | rfl | (simp [errW_none, errW_some] <;> rfl) | (simp [*, errW_none, errW_some] <;> rfl), by first | exact Kd.R_nil _ _ _ _ _ | exact Kd.N_nil _ _ _ _ _ | exact Kd.V_nil _ _ _ _ _ | exact Kd.Q_nil _ _ _ _ _ | exact Kd.S_nil _ _ _ _ _, by repeat (first | (with_reducible first | exact HB.out | apply below_alloc | apply pw_below_drewN | apply below_drew1 | refine below_set ?_ GE224.out | refine below_set ?_ GE225.out) | exact HB.out)⟩

/-! ### impl_in: function 50 -/
def impl_in.f (a0 : Int) (a1 : Int) (a2 : Int) : Option (Bool) := if a0 ≥ a1 then (some (decide (a0 ≤ a2))) else (some false)
set_option maxHeartbeats 8000000 in
set_option maxRecDepth 100000 in
theorem impl_in.calls (a0 : Int) (a1 : Int) (a2 : Int) (r : Bool) (w : World) (h : impl_in.f a0 a1 a2 = some r) :
  Calls Tryz.prog 50 #[.int .i64 a0, .int .i64 a1, .int .i64 a2] w fun e w' => e = .returned (.bool r) ∧ Drawn0 w w' := by
 have H : (if a0 ≥ a1 then (some (decide (a0 ≤ a2))) else (some false)) = some r := h
 clear h
 by_cases c4 : a0 ≥ a1
 ·rw [if_pos c4] at H
  have c4b0 : decide (a1 ≤ a0) = true := decide_eq_true c4
  clear c4
  obtain rfl := Option.some.inj H
  go_enter Tryz.func50, Tryz.ntmps50
  go_wp2
  go_ret
  exact ⟨by first | rfl | (simp; done) | (simp [*]; done), by repeat (first | exact Drawn0.refl _ | apply Drawn0.step)⟩
 ·rw [if_neg c4] at H
  have c4b0 : decide (a1 ≤ a0) = false := decide_eq_false c4
  clear c4
  obtain rfl := Option.some.inj H
  go_enter Tryz.func50, Tryz.ntmps50
  go_wp2
  go_ret
  exact ⟨by first | rfl | (simp; done) | (simp [*]; done), by repeat (first | exact Drawn0.refl _ | apply Drawn0.step)⟩

/-! ### slices_Index_string_string: function 77 -/
def slices_Index_string_string.l0 : Nat → List ByteArray → ByteArray → Int → Int → Option (Int)
 | 0, _, _, _, _ => none
 | k + 1, x0, x1, x7, x8 => if x8 < x7 then (if 0 ≤ x8 then (if x8 < (x0.length : Int) then (if x1.toList = (rdOf ByteArray.empty x0 x8).toList then (some x8) else (slices_Index_string_string.l0 k x0 x1 x7 (wrap64 (x8 + 1)))) else (none)) else (none)) else (some (-1))
def slices_Index_string_string.f (k : Nat) (l0 : List ByteArray) (a1 : ByteArray) : Option (Int) := slices_Index_string_string.l0 k l0 a1 (l0.length : Int) 0
theorem slices_Index_string_string.mono_l : ∀ k, (∀ y0 y1 y2 y3, LeO (slices_Index_string_string.l0 k y0 y1 y2 y3) (slices_Index_string_string.l0 (k + 1) y0 y1 y2 y3))
 | 0 => fun _ _ _ _ r h => by simp [slices_Index_string_string.l0] at h
 | k + 1 => by
  have ih0 := slices_Index_string_string.mono_l k
  ·intro y0 y1 y2 y3
   unfold slices_Index_string_string.l0
   repeat' first
   | (with_reducible exact ih0 _ _ _ _)
   | (with_reducible exact LeO.refl _)
   | (with_reducible exact LeO.none _)
   | (with_reducible refine LeO.ite ?_ ?_)
   | (with_reducible refine LeO.bind ?_ (fun _ => ?_))
   | exact ih0 _ _ _ _
   | exact LeO.none _
   | refine LeO.ite ?_ ?_
   | refine LeO.bind ?_ (fun _ => ?_)
theorem slices_Index_string_string.mono : ∀ a0 a1 k, LeO (slices_Index_string_string.f k a0 a1) (slices_Index_string_string.f (k + 1) a0 a1) := by
 intro a0 a1 k
 have ih0 := slices_Index_string_string.mono_l k
 unfold slices_Index_string_string.f
 repeat' first
   | (with_reducible exact ih0 _ _ _ _)
   | (with_reducible exact LeO.refl _)
   | (with_reducible exact LeO.none _)
   | (with_reducible refine LeO.ite ?_ ?_)
   | (with_reducible refine LeO.bind ?_ (fun _ => ?_))
   | exact ih0 _ _ _ _
   | exact LeO.none _
   | refine LeO.ite ?_ ?_
   | refine LeO.bind ?_ (fun _ => ?_)
set_option maxHeartbeats 8000000 in
set_option maxRecDepth 100000 in
theorem slices_Index_string_string.calls (k : Nat) (A0 : Option Addr) (c0 : Nat) (l0 : List ByteArray) (a1 : ByteArray) (r : Int) (w : World) (hr0 : Kd.C Kd.string w A0 l0.length l0) (hc0 : l0.length ≤ c0) (h : slices_Index_string_string.f k l0 a1 = some r) :
  Calls Tryz.prog 77 #[.slice A0 l0.length c0, .string a1] w fun e w' => e = .returned (.int .i64 r) ∧ Drawn0 w w' := by
 have HR0 := Aside0.mk hr0; have HC0 := Aside0.mk hc0; clear hr0 hc0
 have H : (slices_Index_string_string.l0 k l0 a1 (l0.length : Int) 0) = some r := h
 clear h
 have H' := Aside0.mk H
 clear H
 go_enter Tryz.func77, Tryz.ntmps77
 go_wp2
 go_loopg [8] k (fun kq v8 w' => ∃ (x8_1 : Int), v8 = .int .i64 x8_1 ∧ Aside0 (slices_Index_string_string.l0 kq l0 a1 (l0.length : Int) x8_1 = some r) ∧ Aside0 (kq ≤ k) ∧ Drawn0 w w')
 case atStart => exact ⟨(0), ax21, H', ⟨Nat.le_refl _⟩, by repeat (first | exact Drawn0.refl _ | apply Drawn0.step)⟩
 case round =>
  clear H'
  try clear p2
  obtain ⟨x8_1, rfl, HA, HK1, ⟨m1, rfl⟩⟩ := hrel
  cases gk with
  | zero => exact absurd HA.out (by simp [slices_Index_string_string.l0])
  | succ k1 =>
   have H := HA.out; clear HA
   simp only [slices_Index_string_string.l0] at H
   by_cases c3 : x8_1 < (l0.length : Int)
   ·rw [if_pos c3] at H
    have c3b0 : decide (x8_1 < (l0.length : Int)) = true := decide_eq_true c3
    clear c3
    by_cases c4 : 0 ≤ x8_1
    ·rw [if_pos c4] at H
     have c4b0 : decide (0 ≤ x8_1) = true := decide_eq_true c4
     clear c4
     by_cases c5 : x8_1 < (l0.length : Int)
     ·rw [if_pos c5] at H
      have c5b0 : decide (x8_1 < (l0.length : Int)) = true := decide_eq_true c5
      clear c5
      by_cases c6 : a1.toList = (rdOf ByteArray.empty l0 x8_1).toList
      ·rw [if_pos c6] at H
       have c6b0 : (a1.toList == (rdOf ByteArray.empty l0 x8_1).toList) = true := beq_iff_eq.mpr c6
       have c6b1 : (a1.toList != (rdOf ByteArray.empty l0 x8_1).toList) = false := bne_eq_false_iff_eq.mpr c6
       clear c6
       obtain rfl := Option.some.inj H
       have p237 : 0 ≤ (x8_1 : Int) := of_decide_eq_true ax22
       have q237 : x8_1 < (l0.length : Int) := of_decide_eq_true ax22
       obtain ⟨ad237, e237, hx237_0⟩ := Kd.at_string HR0.out x8_1 p237 q237
       cases e237; replace p237 := eq_true p237; replace q237 := eq_true q237
       go_wp2
       go_ret
       exact ⟨by first | rfl | (simp; done) | (simp [*]; done), by repeat (first | exact Drawn0.refl _ | apply Drawn0.step)⟩
      ·rw [if_neg c6] at H
       have c6b0 : (a1.toList == (rdOf ByteArray.empty l0 x8_1).toList) = false := beq_eq_false_iff_ne.mpr c6
       have c6b1 : (a1.toList != (rdOf ByteArray.empty l0 x8_1).toList) = true := bne_iff_ne.mpr c6
       have H' := Aside0.mk H
       clear H
       have p237 : 0 ≤ (x8_1 : Int) := of_decide_eq_true ax22
       have q237 : x8_1 < (l0.length : Int) := of_decide_eq_true ax22
       obtain ⟨ad237, e237, hx237_0⟩ := Kd.at_string HR0.out x8_1 p237 q237
       cases e237; replace p237 := eq_true p237; replace q237 := eq_true q237
       go_wp2
       go_roundg k1
       case measure => have := HK1.out; omega
       case rel => exact ⟨(wrap64 (x8_1 + 1)), ax21, H', ⟨by have := HK1.out; omega⟩, by repeat (first | exact Drawn0.refl _ | apply Drawn0.step)⟩
     ·exact ax2
    ·exact ax12
   ·rw [if_neg c3] at H
    have c3b0 : decide (x8_1 < (l0.length : Int)) = false := decide_eq_false c3
    clear c3
    obtain rfl := Option.some.inj H
    go_wp2
    go_ret
    exact ⟨by first | rfl | (simp; done) | (simp [*]; done), by repeat (first | exact Drawn0.refl _ | apply Drawn0.step)⟩

/-! ### slices_Contains_string_string: function 52 -/
def slices_Contains_string_string.f (k : Nat) (l0 : List ByteArray) (a1 : ByteArray) : Option (Bool) := (slices_Index_string_string.f k l0 a1).bind fun t238 => (some (decide (t238 ≥ 0)))
theorem slices_Contains_string_string.mono : ∀ a0 a1 k, LeO (slices_Contains_string_string.f k a0 a1) (slices_Contains_string_string.f (k + 1) a0 a1) := by
 intro a0 a1 k
 unfold slices_Contains_string_string.f
 repeat' first
   | (with_reducible exact slices_Index_string_string.mono _ _ _)
   | (with_reducible exact LeO.refl _)
   | (with_reducible exact LeO.none _)
   | (with_reducible refine LeO.ite ?_ ?_)
   | (with_reducible refine LeO.bind ?_ (fun _ => ?_))
   | exact slices_Index_string_string.mono _ _ _
   | exact LeO.none _
   | refine LeO.ite ?_ ?_
   | refine LeO.bind ?_ (fun _ => ?_)
set_option maxHeartbeats 8000000 in
set_option maxRecDepth 100000 in
theorem slices_Contains_string_string.calls (k : Nat) (A0 : Option Addr) (c0 : Nat) (l0 : List ByteArray) (a1 : ByteArray) (r : Bool) (w : World) (hr0 : Kd.C Kd.string w A0 l0.length l0) (hc0 : l0.length ≤ c0) (h : slices_Contains_string_string.f k l0 a1 = some r) :
  Calls Tryz.prog 52 #[.slice A0 l0.length c0, .string a1] w fun e w' => e = .returned (.bool r) ∧ Drawn0 w w' := by
 have HR0 := Aside0.mk hr0; have HC0 := Aside0.mk hc0; clear hr0 hc0
 have H : ((slices_Index_string_string.f k l0 a1).bind fun t238 => (some (decide (t238 ≥ 0)))) = some r := h
 clear h; replace H := Option.bind_eq_some_iff.mp H
 obtain ⟨t238, A30, H⟩ := H
 replace H : (some (decide (t238 ≥ 0))) = some r := H
 have A3 := Aside0.mk A30; clear A30
 obtain rfl := Option.some.inj H
 go_enter Tryz.func52, Tryz.ntmps52
 go_wp2_with (first | ((with_reducible refine gate_callee (f := 77) rfl ?_); refine goesL_ (some 7) rfl rfl Tryz.func77 (by kernel_rfl) rfl #[.slice A0 l0.length c0, .string a1] rfl ax31 ?_; (with_reducible refine (slices_Index_string_string.calls k _ _ l0 a1 t238 _ ?side1 ?side2 A3.out).mono ?_); (case side1 => exact ax97); (case side2 => exact HC0.out); rintro e w' ⟨rfl, ⟨nd, rfl⟩⟩; refine ⟨_, rfl, ?_⟩))
 go_ret
 exact ⟨by first | rfl | (simp; done) | (simp [*]; done), by repeat (first | exact Drawn0.refl _ | apply Drawn0.step)⟩

/-! ### impl_letter: function 86 -/
def impl_letter.f (a0 : Int) : Option (ByteArray) := some (strOfNums (([(wrap64 (97 + a0)) % 256] : List Int)))
set_option maxHeartbeats 8000000 in
set_option maxRecDepth 100000 in
theorem impl_letter.calls (a0 : Int) (r : ByteArray) (w : World) (h : impl_letter.f a0 = some r) :
  Calls Tryz.prog 86 #[.int .i64 a0] w fun e w' => e = .returned (.string r) ∧ Below w.heap.size w w' := by
 have HB := Aside0.mk (Below.refl w.heap.size w)
 have H : (some (strOfNums (([(wrap64 (97 + a0)) % 256] : List Int)))) = some r := h
 clear h
 obtain ⟨y239, hy239⟩ : ∃ y_ : List Int, y_ = (([(wrap64 (97 + a0)) % 256] : List Int)) := ⟨_, rfl⟩
 replace H : (some (strOfNums y239)) = some r := by first | (rw [hy239]; with_reducible exact H) | (have H2_ := (Option.bind_some _ _).symm.trans H; rw [hy239]; with_reducible exact H2_) | (have H2_ := (Option.bind_some _ _).symm.trans H; with_reducible exact H2_) | with_reducible exact H | (rw [hy239]; exact H) | exact H
 have Ny239 := Aside0.mk hy239; clear hy239
 obtain rfl := Option.some.inj H
 go_enter Tryz.func86, Tryz.ntmps86
 go_wp2_with (first | ((with_reducible refine gate_dst (N := 6) rfl ?_); refine Kd.R_lit (Kd.int .u8) _ 5 ?hg (N := 6) ?hd (xs := ([(wrap64 (97 + a0)) % 256] : List Int)) (inner := [.int .u8 ((wrap64 (97 + a0)) % 256)]) (ok := fun _ => True) (okp := fun _ => True) ?hr ?hp (fun _ hk => hk) trivial (Below.refl _ _) (Nat.le_refl _) (by simp) ?_; (case hd => rfl); (case hg => rfl); (case hr => exact ax23); (case hp => exact (Reps.one (show Kd.M (Kd.int .u8) _ _ _ ((wrap64 (97 + a0)) % 256) [.int .u8 ((wrap64 (97 + a0)) % 256)] from rfl) (Reps.none _ _))); intro v240 w2 ho3 hb hg_ hnew_; clear hg_ hnew_; (first | rw [← Ny239.out] at ho3 | (simp only [Int.reduceToNat] at ho3; rw [← Ny239.out] at ho3)); have n0_ := Aside0.mk (Kd.R_lower ho3 (below_size ax25)); have n1_ := Aside0.mk (below_step ax25 hb); clear HB; have HO241 := n0_; have HB := n1_; clear n0_ n1_; clear hb ho3; have hcv4 := own_string (P := Tryz.prog) Tryz.underlying85 Tryz.underlying5 Tryz.underlying9 (Kd.own_of_R HO241.out)))
 go_ret
 exact ⟨by first | rfl | (simp [errW_none, errW_some] <;> rfl) | (simp [*, errW_none, errW_some] <;> rfl), by repeat (first | (with_reducible first | exact HB.out | apply below_alloc | apply pw_below_drewN | apply below_drew1) | exact HB.out)⟩

end Go.Proofs.YtmecniejpoopfaaGreatDoor.X

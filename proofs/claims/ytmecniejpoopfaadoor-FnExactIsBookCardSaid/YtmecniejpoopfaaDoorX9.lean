-- By gen.py (the session's own program over the kit's printer): functions of the program, each with its contract. Lean checks it.
import Derived.Test.YtmecniejpoopfaaDoorX0
import Derived.Test.YtmecniejpoopfaaDoorX6
import Derived.Test.YtmecniejpoopfaaDoorX7
import Derived.Test.YtmecniejpoopfaaDoorX8
namespace Go.Proofs.YtmecniejpoopfaaDoor.X
open Go.RowKit Go.Proofs.YtmecniejpoopfaaDoorW.PrintWords Go.Proofs.YtmecniejpoopfaaDoorW.PrintLast Go.Proofs.YtmecniejpoopfaaDoorW.PrintMore
attribute [local go_sem] max2_int min2_int max_two min_two max_three min_three max_four min_four   -- for this text's walks alone
set_option linter.unusedVariables false
set_option linter.unusedSimpArgs false

/-! ### impl_Book_trie: function 15 -/
def impl_Book_trie.f (k : Nat) (a0_0 : ByteArray) (a0_1 : ByteArray) (a0_2 : Int) : Option ((List (S50)) × Bool) := (impl_Book_wordsOf.f a0_0 a0_1 a0_2).bind fun t280 => (if (t280.length : Int) > 40 then (some (([] : List (S50)), false)) else ((slices_ContainsFunc_string_string.f t280 (fun z_ => impl_Book_trie_1.f z_)).bind fun t283 => (if t283 = true then (some (([] : List (S50)), false)) else ((impl_set.f t280).bind fun t284 => ((slices_Equal_string_string.f k t284 t280).bind fun t287 => (if t287 = true then ((impl_trieOf.f k t280).bind fun t288 => (some (t288, true))) else (some (([] : List (S50)), false))))))))
theorem impl_Book_trie.mono : ∀ a0 a1 a2 k, LeO (impl_Book_trie.f k a0 a1 a2) (impl_Book_trie.f (k + 1) a0 a1 a2) := by
 intro a0 a1 a2 k
 unfold impl_Book_trie.f
 repeat' first
   | (with_reducible exact impl_trieOf.mono _ _)
   | (with_reducible exact slices_Equal_string_string.mono _ _ _)
   | (with_reducible exact LeO.refl _)
   | (with_reducible exact LeO.none _)
   | (with_reducible refine LeO.ite ?_ ?_)
   | (with_reducible refine LeO.bind ?_ (fun _ => ?_))
   | exact impl_trieOf.mono _ _
   | exact slices_Equal_string_string.mono _ _ _
   | exact LeO.none _
   | refine LeO.ite ?_ ?_
   | refine LeO.bind ?_ (fun _ => ?_)
set_option maxHeartbeats 8000000 in
set_option maxRecDepth 100000 in
theorem impl_Book_trie.calls (k : Nat) (a0_0 : ByteArray) (a0_1 : ByteArray) (a0_2 : Int) (r1 : List (S50)) (r2 : Bool) (w : World) (hG : GL w) (h : impl_Book_trie.f k a0_0 a0_1 a0_2 = some (r1, r2)) :
  Calls Tryd.prog 15 #[.agg #[.string a0_0, .string a0_1, .int .i64 a0_2]] w fun e w' => ∃ v0_ : Value, e = .returned (.tuple #[.agg #[v0_], .bool r2]) ∧ Kd.R k50 50 w' w.heap.size (fun _ => True) v0_ r1 ∧ Below w.heap.size w w' := by
 have hu26 := Tryd.underlying26; have hu38 := Tryd.underlying38; have HB := Aside0.mk (Below.refl w.heap.size w); have HG := Aside0.mk hG; clear hG
 have H : ((impl_Book_wordsOf.f a0_0 a0_1 a0_2).bind fun t280 => (if (t280.length : Int) > 40 then (some (([] : List (S50)), false)) else ((slices_ContainsFunc_string_string.f t280 (fun z_ => impl_Book_trie_1.f z_)).bind fun t283 => (if t283 = true then (some (([] : List (S50)), false)) else ((impl_set.f t280).bind fun t284 => ((slices_Equal_string_string.f k t284 t280).bind fun t287 => (if t287 = true then ((impl_trieOf.f k t280).bind fun t288 => (some (t288, true))) else (some (([] : List (S50)), false))))))))) = some (r1, r2) := h
 clear h; replace H := Option.bind_eq_some_iff.mp H
 obtain ⟨t280, A20, H⟩ := H
 replace H : (if (t280.length : Int) > 40 then (some (([] : List (S50)), false)) else ((slices_ContainsFunc_string_string.f t280 (fun z_ => impl_Book_trie_1.f z_)).bind fun t283 => (if t283 = true then (some (([] : List (S50)), false)) else ((impl_set.f t280).bind fun t284 => ((slices_Equal_string_string.f k t284 t280).bind fun t287 => (if t287 = true then ((impl_trieOf.f k t280).bind fun t288 => (some (t288, true))) else (some (([] : List (S50)), false)))))))) = some (r1, r2) := H
 have A2 := Aside0.mk A20; clear A20
 by_cases c3 : (t280.length : Int) > 40
 ·rw [if_pos c3] at H
  have c3b0 : decide (40 < (t280.length : Int)) = true := decide_eq_true c3
  have c3b1 : decide (40 < t280.length) = true := decide_eq_true (by omega)
  clear c3
  simp only [Option.some.injEq, Prod.mk.injEq] at H
  obtain ⟨rfl, rfl⟩ := H
  go_enter Tryd.func15, Tryd.ntmps15
  go_wp2_with (first | ((with_reducible refine gate_dst (N := 1) rfl ?_); refine box_event ?hg (N := 1) ?hd (cs := #[.string a0_0, .string a0_1, .int .i64 a0_2]) (t := 26) ?hr ?_; (case hd => rfl); (case hg => rfl); (case hr => exact ax12); intro gb278 hg w4 hbox hb; have n0_ := Aside0.mk (below_step ax13 hb); have n1_ := Aside0.mk (hbox); have n2_ := Aside0.mk ((ax14 : w.heap.size ≤ gb278)); have n3_ := Aside0.mk ((ax14 : w.heap.size ≤ gb278)); clear HB; have HB := n0_; have BK278 := n1_; have GW278 := n2_; have GE278 := n3_; clear n0_ n1_ n2_ n3_; clear hb hbox hg) | ((with_reducible refine gate_dst (N := 2) rfl ?_); refine box_event ?hg (N := 2) ?hd (cs := #[.slice none 0 0]) (t := 38) ?hr ?_; (case hd => rfl); (case hg => rfl); (case hr => exact ax12); intro gb279 hg w5 hbox hb; have n0_ := Aside0.mk (blk_below (g := gb278) (o := .cells #[.string a0_0, .string a0_1, .int .i64 a0_2] 26 (0, 0)) ax112 hb); have n1_ := Aside0.mk (below_step ax113 hb); have n2_ := Aside0.mk (hbox); have n3_ := Aside0.mk ((ax114 : w.heap.size ≤ gb279)); have n4_ := Aside0.mk ((ax114 : w.heap.size ≤ gb279)); have n5_ := Aside0.mk ((ax115 : gb278 ≠ gb279)); have n6_ := Aside0.mk ((ax116 : gb279 ≠ gb278)); clear BK278; clear HB; have BK278 := n0_; have HB := n1_; have BK279 := n2_; have GW279 := n3_; have GE279 := n4_; have NB278_279 := n5_; have NB279_278 := n6_; clear n0_ n1_ n2_ n3_ n4_ n5_ n6_; clear hb hbox hg; have hnb6 := NB278_279.out; have hnc6 := NB279_278.out; have hcz7_0 : w5.cell? ⟨gb278, 0, none⟩ = some (.string a0_0) := (blk_cell BK278.out 0).trans rfl; have hcz7_1 : w5.cell? ⟨gb278, 1, none⟩ = some (.string a0_1) := (blk_cell BK278.out 1).trans rfl; have hcz7_2 : w5.cell? ⟨gb278, 2, none⟩ = some (.int .i64 a0_2) := (blk_cell BK278.out 2).trans rfl; have hfz7_0 := blk_frozen BK278.out 0; have hfz7_1 := blk_frozen BK278.out 1; have hfz7_2 := blk_frozen BK278.out 2) | ((with_reducible refine gate_callee (f := 26) rfl ?_); refine goesL_ (some 6) rfl rfl Tryd.func26 (by kernel_rfl) rfl #[.agg #[.string a0_0, .string a0_1, .int .i64 a0_2]] rfl ax24 ?_; (with_reducible refine (impl_Book_wordsOf.calls a0_0 a0_1 a0_2 t280 _ ?side1 A2.out).mono ?_); (case side1 => exact ax117); rintro e w8 ⟨v281, rfl, ho0, hb⟩; refine ⟨_, rfl, ?_⟩; have n0_ := Aside0.mk (Kd.R_lower ho0 (below_size ax118)); have n1_ := Aside0.mk (blk_below (g := gb278) (o := .cells #[.string a0_0, .string a0_1, .int .i64 a0_2] 26 (0, 0)) ax112 hb); have n2_ := Aside0.mk (blk_below (g := gb279) (o := .cells #[.slice none 0 0] 38 (0, 0)) ax119 hb); have n3_ := Aside0.mk (below_step ax118 hb); clear BK278; clear BK279; clear HB; have HO282 := n0_; have BK278 := n1_; have BK279 := n2_; have HB := n3_; clear n0_ n1_ n2_ n3_; (try clear hb); (try clear hb2); (try clear hk); (try clear hi); (try clear ho0); obtain ⟨Ao9, co9, eo9⟩ := Kd.R_slice HO282.out; subst eo9; have hcz10_0 : w8.cell? ⟨gb279, 0, none⟩ = some (.slice none 0 0) := (blk_cell BK279.out 0).trans rfl; have hfz10_0 := blk_frozen BK279.out 0))
  refine bodyPost_ret (results_ct rfl _ _ gb279 38 #[.slice none 0 0] (0, 0) _ rfl ax120 Tryd.underlying38 rfl (by kernel_rfl)) rfl ?_
  exact ⟨_, by first | rfl | (simp [errW_none, errW_some] <;> rfl) | (simp [*, errW_none, errW_some] <;> rfl), by first | exact Kd.R_nil _ _ _ _ _ | exact Kd.N_nil _ _ _ _ _ | exact Kd.V_nil _ _ _ _ _ | exact Kd.Q_nil _ _ _ _ _ | exact Kd.S_nil _ _ _ _ _, by repeat (first | (with_reducible first | exact HB.out | apply below_alloc | apply pw_below_drewN | apply below_drew1 | refine below_set ?_ GE278.out | refine below_set ?_ GE279.out) | exact HB.out)⟩
 ·rw [if_neg c3] at H
  have c3b0 : decide (40 < (t280.length : Int)) = false := decide_eq_false c3
  have c3b1 : decide (40 < t280.length) = false := decide_eq_false (by omega)
  clear c3; replace H := Option.bind_eq_some_iff.mp H
  obtain ⟨t283, A110, H⟩ := H
  replace H : (if t283 = true then (some (([] : List (S50)), false)) else ((impl_set.f t280).bind fun t284 => ((slices_Equal_string_string.f k t284 t280).bind fun t287 => (if t287 = true then ((impl_trieOf.f k t280).bind fun t288 => (some (t288, true))) else (some (([] : List (S50)), false)))))) = some (r1, r2) := H
  have A11 := Aside0.mk A110; clear A110
  by_cases c12 : t283 = true
  ·subst c12
   have H1 : (some (([] : List (S50)), false)) = some (r1, r2) := by rw [if_pos rfl] at H; exact H
   clear H; have H := H1; clear H1
   simp only [Option.some.injEq, Prod.mk.injEq] at H
   obtain ⟨rfl, rfl⟩ := H
   go_enter Tryd.func15, Tryd.ntmps15
   go_wp2_with (first | ((with_reducible refine gate_dst (N := 1) rfl ?_); refine box_event ?hg (N := 1) ?hd (cs := #[.string a0_0, .string a0_1, .int .i64 a0_2]) (t := 26) ?hr ?_; (case hd => rfl); (case hg => rfl); (case hr => exact ax12); intro gb278 hg w13 hbox hb; have n0_ := Aside0.mk (below_step ax13 hb); have n1_ := Aside0.mk (hbox); have n2_ := Aside0.mk ((ax14 : w.heap.size ≤ gb278)); have n3_ := Aside0.mk ((ax14 : w.heap.size ≤ gb278)); clear HB; have HB := n0_; have BK278 := n1_; have GW278 := n2_; have GE278 := n3_; clear n0_ n1_ n2_ n3_; clear hb hbox hg) | ((with_reducible refine gate_dst (N := 2) rfl ?_); refine box_event ?hg (N := 2) ?hd (cs := #[.slice none 0 0]) (t := 38) ?hr ?_; (case hd => rfl); (case hg => rfl); (case hr => exact ax12); intro gb279 hg w14 hbox hb; have n0_ := Aside0.mk (blk_below (g := gb278) (o := .cells #[.string a0_0, .string a0_1, .int .i64 a0_2] 26 (0, 0)) ax112 hb); have n1_ := Aside0.mk (below_step ax113 hb); have n2_ := Aside0.mk (hbox); have n3_ := Aside0.mk ((ax114 : w.heap.size ≤ gb279)); have n4_ := Aside0.mk ((ax114 : w.heap.size ≤ gb279)); have n5_ := Aside0.mk ((ax115 : gb278 ≠ gb279)); have n6_ := Aside0.mk ((ax116 : gb279 ≠ gb278)); clear BK278; clear HB; have BK278 := n0_; have HB := n1_; have BK279 := n2_; have GW279 := n3_; have GE279 := n4_; have NB278_279 := n5_; have NB279_278 := n6_; clear n0_ n1_ n2_ n3_ n4_ n5_ n6_; clear hb hbox hg; have hnb15 := NB278_279.out; have hnc15 := NB279_278.out; have hcz16_0 : w14.cell? ⟨gb278, 0, none⟩ = some (.string a0_0) := (blk_cell BK278.out 0).trans rfl; have hcz16_1 : w14.cell? ⟨gb278, 1, none⟩ = some (.string a0_1) := (blk_cell BK278.out 1).trans rfl; have hcz16_2 : w14.cell? ⟨gb278, 2, none⟩ = some (.int .i64 a0_2) := (blk_cell BK278.out 2).trans rfl; have hfz16_0 := blk_frozen BK278.out 0; have hfz16_1 := blk_frozen BK278.out 1; have hfz16_2 := blk_frozen BK278.out 2) | ((with_reducible refine gate_callee (f := 26) rfl ?_); refine goesL_ (some 6) rfl rfl Tryd.func26 (by kernel_rfl) rfl #[.agg #[.string a0_0, .string a0_1, .int .i64 a0_2]] rfl ax24 ?_; (with_reducible refine (impl_Book_wordsOf.calls a0_0 a0_1 a0_2 t280 _ ?side1 A2.out).mono ?_); (case side1 => exact ax117); rintro e w17 ⟨v281, rfl, ho0, hb⟩; refine ⟨_, rfl, ?_⟩; have n0_ := Aside0.mk (Kd.R_lower ho0 (below_size ax118)); have n1_ := Aside0.mk (blk_below (g := gb278) (o := .cells #[.string a0_0, .string a0_1, .int .i64 a0_2] 26 (0, 0)) ax112 hb); have n2_ := Aside0.mk (blk_below (g := gb279) (o := .cells #[.slice none 0 0] 38 (0, 0)) ax119 hb); have n3_ := Aside0.mk (below_step ax118 hb); clear BK278; clear BK279; clear HB; have HO282 := n0_; have BK278 := n1_; have BK279 := n2_; have HB := n3_; clear n0_ n1_ n2_ n3_; (try clear hb); (try clear hb2); (try clear hk); (try clear hi); (try clear ho0); obtain ⟨Ao18, co18, eo18⟩ := Kd.R_slice HO282.out; subst eo18) | (go_at_call 27; (with_reducible refine (slices_ContainsFunc_string_string.calls _ _ t280 (fun z_ => impl_Book_trie_1.f z_) true _ ?side1 ?side2 ?side3 ?side4 A11.out).mono ?_); (case side1 => exact ax121); (case side2 => exact ax122); (case side3 => exact ax123); (case side4 => exact ax124); rintro e w19 ⟨rfl, hb⟩; have n0_ := Aside0.mk (Kd.R_below ax125 hb); have n1_ := Aside0.mk (blk_below (g := gb278) (o := .cells #[.string a0_0, .string a0_1, .int .i64 a0_2] 26 (0, 0)) ax112 hb); have n2_ := Aside0.mk (blk_below (g := gb279) (o := .cells #[.slice none 0 0] 38 (0, 0)) ax119 hb); have n3_ := Aside0.mk (below_step ax118 hb); clear HO282; clear BK278; clear BK279; clear HB; have HO282 := n0_; have BK278 := n1_; have BK279 := n2_; have HB := n3_; clear n0_ n1_ n2_ n3_; (try clear hb); (try clear hb2); (try clear hk); (try clear hi); have hcz20_0 : w19.cell? ⟨gb279, 0, none⟩ = some (.slice none 0 0) := (blk_cell BK279.out 0).trans rfl; have hfz20_0 := blk_frozen BK279.out 0))
   refine bodyPost_ret (results_ct rfl _ _ gb279 38 #[.slice none 0 0] (0, 0) _ rfl ax120 Tryd.underlying38 rfl (by kernel_rfl)) rfl ?_
   exact ⟨_, by first | rfl | (simp [errW_none, errW_some] <;> rfl) | (simp [*, errW_none, errW_some] <;> rfl), by first | exact Kd.R_nil _ _ _ _ _ | exact Kd.N_nil _ _ _ _ _ | exact Kd.V_nil _ _ _ _ _ | exact Kd.Q_nil _ _ _ _ _ | exact Kd.S_nil _ _ _ _ _, by repeat (first | (with_reducible first | exact HB.out | apply below_alloc | apply pw_below_drewN | apply below_drew1 | refine below_set ?_ GE278.out | refine below_set ?_ GE279.out) | exact HB.out)⟩
  ·replace c12 := Bool.eq_false_iff.mpr c12
   subst c12
   have H1 : ((impl_set.f t280).bind fun t284 => ((slices_Equal_string_string.f k t284 t280).bind fun t287 => (if t287 = true then ((impl_trieOf.f k t280).bind fun t288 => (some (t288, true))) else (some (([] : List (S50)), false))))) = some (r1, r2) := by rw [if_neg (show ¬ (false = true) by decide)] at H; exact H
   clear H; have H := H1; clear H1; replace H := Option.bind_eq_some_iff.mp H
   obtain ⟨t284, A210, H⟩ := H
   replace H : ((slices_Equal_string_string.f k t284 t280).bind fun t287 => (if t287 = true then ((impl_trieOf.f k t280).bind fun t288 => (some (t288, true))) else (some (([] : List (S50)), false)))) = some (r1, r2) := H
   have A21 := Aside0.mk A210; clear A210; replace H := Option.bind_eq_some_iff.mp H
   obtain ⟨t287, A220, H⟩ := H
   replace H : (if t287 = true then ((impl_trieOf.f k t280).bind fun t288 => (some (t288, true))) else (some (([] : List (S50)), false))) = some (r1, r2) := H
   have A22 := Aside0.mk A220; clear A220
   by_cases c23 : t287 = true
   ·subst c23
    have H1 : ((impl_trieOf.f k t280).bind fun t288 => (some (t288, true))) = some (r1, r2) := by rw [if_pos rfl] at H; exact H
    clear H; have H := H1; clear H1; replace H := Option.bind_eq_some_iff.mp H
    obtain ⟨t288, A240, H⟩ := H
    replace H : (some (t288, true)) = some (r1, r2) := H
    have A24 := Aside0.mk A240; clear A240
    simp only [Option.some.injEq, Prod.mk.injEq] at H
    obtain ⟨rfl, rfl⟩ := H
    go_enter Tryd.func15, Tryd.ntmps15
    go_wp2_with (first | ((with_reducible refine gate_dst (N := 1) rfl ?_); refine box_event ?hg (N := 1) ?hd (cs := #[.string a0_0, .string a0_1, .int .i64 a0_2]) (t := 26) ?hr ?_; (case hd => rfl); (case hg => rfl); (case hr => exact ax12); intro gb278 hg w25 hbox hb; have n0_ := Aside0.mk (below_step ax13 hb); have n1_ := Aside0.mk (hbox); have n2_ := Aside0.mk ((ax14 : w.heap.size ≤ gb278)); have n3_ := Aside0.mk ((ax14 : w.heap.size ≤ gb278)); clear HB; have HB := n0_; have BK278 := n1_; have GW278 := n2_; have GE278 := n3_; clear n0_ n1_ n2_ n3_; clear hb hbox hg) | ((with_reducible refine gate_dst (N := 2) rfl ?_); refine box_event ?hg (N := 2) ?hd (cs := #[.slice none 0 0]) (t := 38) ?hr ?_; (case hd => rfl); (case hg => rfl); (case hr => exact ax12); intro gb279 hg w26 hbox hb; have n0_ := Aside0.mk (blk_below (g := gb278) (o := .cells #[.string a0_0, .string a0_1, .int .i64 a0_2] 26 (0, 0)) ax112 hb); have n1_ := Aside0.mk (below_step ax113 hb); have n2_ := Aside0.mk (hbox); have n3_ := Aside0.mk ((ax114 : w.heap.size ≤ gb279)); have n4_ := Aside0.mk ((ax114 : w.heap.size ≤ gb279)); have n5_ := Aside0.mk ((ax115 : gb278 ≠ gb279)); have n6_ := Aside0.mk ((ax116 : gb279 ≠ gb278)); clear BK278; clear HB; have BK278 := n0_; have HB := n1_; have BK279 := n2_; have GW279 := n3_; have GE279 := n4_; have NB278_279 := n5_; have NB279_278 := n6_; clear n0_ n1_ n2_ n3_ n4_ n5_ n6_; clear hb hbox hg; have hnb27 := NB278_279.out; have hnc27 := NB279_278.out; have hcz28_0 : w26.cell? ⟨gb278, 0, none⟩ = some (.string a0_0) := (blk_cell BK278.out 0).trans rfl; have hcz28_1 : w26.cell? ⟨gb278, 1, none⟩ = some (.string a0_1) := (blk_cell BK278.out 1).trans rfl; have hcz28_2 : w26.cell? ⟨gb278, 2, none⟩ = some (.int .i64 a0_2) := (blk_cell BK278.out 2).trans rfl; have hfz28_0 := blk_frozen BK278.out 0; have hfz28_1 := blk_frozen BK278.out 1; have hfz28_2 := blk_frozen BK278.out 2) | ((with_reducible refine gate_callee (f := 26) rfl ?_); refine goesL_ (some 6) rfl rfl Tryd.func26 (by kernel_rfl) rfl #[.agg #[.string a0_0, .string a0_1, .int .i64 a0_2]] rfl ax24 ?_; (with_reducible refine (impl_Book_wordsOf.calls a0_0 a0_1 a0_2 t280 _ ?side1 A2.out).mono ?_); (case side1 => exact ax117); rintro e w29 ⟨v281, rfl, ho0, hb⟩; refine ⟨_, rfl, ?_⟩; have n0_ := Aside0.mk (Kd.R_lower ho0 (below_size ax118)); have n1_ := Aside0.mk (blk_below (g := gb278) (o := .cells #[.string a0_0, .string a0_1, .int .i64 a0_2] 26 (0, 0)) ax112 hb); have n2_ := Aside0.mk (blk_below (g := gb279) (o := .cells #[.slice none 0 0] 38 (0, 0)) ax119 hb); have n3_ := Aside0.mk (below_step ax118 hb); clear BK278; clear BK279; clear HB; have HO282 := n0_; have BK278 := n1_; have BK279 := n2_; have HB := n3_; clear n0_ n1_ n2_ n3_; (try clear hb); (try clear hb2); (try clear hk); (try clear hi); (try clear ho0); obtain ⟨Ao30, co30, eo30⟩ := Kd.R_slice HO282.out; subst eo30) | (go_at_call 27; (with_reducible refine (slices_ContainsFunc_string_string.calls _ _ t280 (fun z_ => impl_Book_trie_1.f z_) false _ ?side1 ?side2 ?side3 ?side4 A11.out).mono ?_); (case side1 => exact ax121); (case side2 => exact ax122); (case side3 => exact ax123); (case side4 => exact ax124); rintro e w31 ⟨rfl, hb⟩; have n0_ := Aside0.mk (Kd.R_below ax125 hb); have n1_ := Aside0.mk (blk_below (g := gb278) (o := .cells #[.string a0_0, .string a0_1, .int .i64 a0_2] 26 (0, 0)) ax112 hb); have n2_ := Aside0.mk (blk_below (g := gb279) (o := .cells #[.slice none 0 0] 38 (0, 0)) ax119 hb); have n3_ := Aside0.mk (below_step ax118 hb); clear HO282; clear BK278; clear BK279; clear HB; have HO282 := n0_; have BK278 := n1_; have BK279 := n2_; have HB := n3_; clear n0_ n1_ n2_ n3_; (try clear hb); (try clear hb2); (try clear hk); (try clear hi)) | (go_at_call 31; (with_reducible refine (impl_set.calls _ _ t280 t284 _ ?side1 ?side2 A21.out).mono ?_); (case side1 => exact ax121); (case side2 => exact ax122); rintro e w32 ⟨v285, rfl, ho0, hb⟩; have n0_ := Aside0.mk (Kd.R_elder' ax125 (Kd.R_base ho0) hb); have n1_ := Aside0.mk (Kd.R_lower (Kd.R_new' ho0 (Kd.R_lt ax125)) (below_size ax118)); have n2_ := Aside0.mk (blk_below (g := gb278) (o := .cells #[.string a0_0, .string a0_1, .int .i64 a0_2] 26 (0, 0)) ax112 hb); have n3_ := Aside0.mk (blk_below (g := gb279) (o := .cells #[.slice none 0 0] 38 (0, 0)) ax119 hb); have n4_ := Aside0.mk (below_step ax118 hb); clear HO282; clear BK278; clear BK279; clear HB; have HO282 := n0_; have HO286 := n1_; have BK278 := n2_; have BK279 := n3_; have HB := n4_; clear n0_ n1_ n2_ n3_ n4_; (try clear hb); (try clear hb2); (try clear hk); (try clear hi); (try clear ho0); obtain ⟨Ao33, co33, eo33⟩ := Kd.R_slice HO286.out; subst eo33) | (go_at_call 30; (with_reducible refine (slices_Equal_string_string.calls k _ _ t284 _ _ t280 true _ ?side1 ?side2 ?side3 ?side4 A22.out).mono ?_); (case side1 => exact ax126); (case side2 => exact (Kd.R_reads' HO286.out).2.1); (case side3 => exact ax121); (case side4 => exact ax122); rintro e w' ⟨rfl, ⟨nd, rfl⟩⟩; (try (rw [drewN_self w32]; generalize hq_ : World.drewN w32 _ = w32; have n0_ : Aside0 (Kd.R Kd.string 9 w32 w.heap.size (fun k_ => some k_ ≠ (.slice Ao33 t284.length co33 : Value).ownBlock) (.slice Ao30 t280.length co30) t280) := ⟨by rw [← hq_]; exact ax127⟩; have n1_ : Aside0 (Kd.R Kd.string 9 w32 w.heap.size (fun k_ => some k_ ≠ (.slice Ao30 t280.length co30 : Value).ownBlock) (.slice Ao33 t284.length co33) t284) := ⟨by rw [← hq_]; exact ax128⟩; have n2_ : Aside0 (w32.heap[gb278]? = some (.cells #[.string a0_0, .string a0_1, .int .i64 a0_2] 26 (0, 0))) := ⟨by rw [← hq_]; exact ax112⟩; have n3_ : Aside0 (w32.heap[gb279]? = some (.cells #[.slice none 0 0] 38 (0, 0))) := ⟨by rw [← hq_]; exact ax119⟩; have n4_ : Aside0 (Below w.heap.size w w32) := ⟨by rw [← hq_]; exact ax118⟩; clear HO282 HO286 BK278 BK279 HB hq_; have HO282 := n0_; have HO286 := n1_; have BK278 := n2_; have BK279 := n3_; have HB := n4_; clear n0_ n1_ n2_ n3_ n4_))) | ((with_reducible refine gate_callee (f := 32) rfl ?_); refine goesL_ (some 23) rfl rfl Tryd.func32 (by kernel_rfl) rfl #[.slice Ao30 t280.length co30] rfl ax24 ?_; (with_reducible refine (impl_trieOf.calls k _ _ t280 t288 _ ?side1 ?side2 A24.out).mono ?_); (case side1 => exact ax121); (case side2 => exact ax122); rintro e w34 ⟨v289, rfl, ho0, hb⟩; refine ⟨_, rfl, ?_⟩; have n0_ := Aside0.mk (Kd.R_below ax125 hb); have n1_ := Aside0.mk (Kd.R_below (by (with_reducible repeat (first | apply Kd.R_alloc | apply Kd.R_drewN | apply Kd.R_drew)); exact HO286.out) hb); have n2_ := Aside0.mk (Kd.R_lower ho0 (below_size ax118)); have n3_ := Aside0.mk (blk_below (g := gb278) (o := .cells #[.string a0_0, .string a0_1, .int .i64 a0_2] 26 (0, 0)) ax112 hb); have n4_ := Aside0.mk (blk_below (g := gb279) (o := .cells #[.slice none 0 0] 38 (0, 0)) ax119 hb); have n5_ := Aside0.mk (below_step ax118 hb); clear HO282; clear HO286; clear BK278; clear BK279; clear HB; have HO282 := n0_; have HO286 := n1_; have HO290 := n2_; have BK278 := n3_; have BK279 := n4_; have HB := n5_; clear n0_ n1_ n2_ n3_ n4_ n5_; (try clear hb); (try clear hb2); (try clear hk); (try clear hi); (try clear ho0); obtain ⟨Ao35, co35, eo35⟩ := Kd.R_slice HO290.out; subst eo35; have hcz36_0 : w34.cell? ⟨gb279, 0, none⟩ = some (.slice none 0 0) := (blk_cell BK279.out 0).trans rfl; have hfz36_0 := blk_frozen BK279.out 0))
    refine bodyPost_ret (results_ct rfl _ _ gb279 38 #[.slice Ao35 t288.length co35] (0, 0) _ rfl ax120 Tryd.underlying38 rfl (by kernel_rfl)) rfl ?_
    exact ⟨_, by first | rfl | (simp [errW_none, errW_some] <;> rfl) | (simp [*, errW_none, errW_some] <;> rfl), by (with_reducible repeat (first | apply Kd.R_alloc | apply Kd.R_drewN | apply Kd.R_drew)); exact Kd.R_mono (Kd.R_far (p := ⟨gb279, 0, none⟩) (Kd.R_types HO290.out BK279.out (by decide)) (fun _ hk => hk.2) (.slice Ao35 t288.length co35)) (fun _ hk => trivial), by repeat (first | (with_reducible first | exact HB.out | apply below_alloc | apply pw_below_drewN | apply below_drew1 | refine below_set ?_ GE278.out | refine below_set ?_ GE279.out) | exact HB.out)⟩
   ·replace c23 := Bool.eq_false_iff.mpr c23
    subst c23
    have H1 : (some (([] : List (S50)), false)) = some (r1, r2) := by rw [if_neg (show ¬ (false = true) by decide)] at H; exact H
    clear H; have H := H1; clear H1
    simp only [Option.some.injEq, Prod.mk.injEq] at H
    obtain ⟨rfl, rfl⟩ := H
    go_enter Tryd.func15, Tryd.ntmps15
    go_wp2_with (first | ((with_reducible refine gate_dst (N := 1) rfl ?_); refine box_event ?hg (N := 1) ?hd (cs := #[.string a0_0, .string a0_1, .int .i64 a0_2]) (t := 26) ?hr ?_; (case hd => rfl); (case hg => rfl); (case hr => exact ax12); intro gb278 hg w37 hbox hb; have n0_ := Aside0.mk (below_step ax13 hb); have n1_ := Aside0.mk (hbox); have n2_ := Aside0.mk ((ax14 : w.heap.size ≤ gb278)); have n3_ := Aside0.mk ((ax14 : w.heap.size ≤ gb278)); clear HB; have HB := n0_; have BK278 := n1_; have GW278 := n2_; have GE278 := n3_; clear n0_ n1_ n2_ n3_; clear hb hbox hg) | ((with_reducible refine gate_dst (N := 2) rfl ?_); refine box_event ?hg (N := 2) ?hd (cs := #[.slice none 0 0]) (t := 38) ?hr ?_; (case hd => rfl); (case hg => rfl); (case hr => exact ax12); intro gb279 hg w38 hbox hb; have n0_ := Aside0.mk (blk_below (g := gb278) (o := .cells #[.string a0_0, .string a0_1, .int .i64 a0_2] 26 (0, 0)) ax112 hb); have n1_ := Aside0.mk (below_step ax113 hb); have n2_ := Aside0.mk (hbox); have n3_ := Aside0.mk ((ax114 : w.heap.size ≤ gb279)); have n4_ := Aside0.mk ((ax114 : w.heap.size ≤ gb279)); have n5_ := Aside0.mk ((ax115 : gb278 ≠ gb279)); have n6_ := Aside0.mk ((ax116 : gb279 ≠ gb278)); clear BK278; clear HB; have BK278 := n0_; have HB := n1_; have BK279 := n2_; have GW279 := n3_; have GE279 := n4_; have NB278_279 := n5_; have NB279_278 := n6_; clear n0_ n1_ n2_ n3_ n4_ n5_ n6_; clear hb hbox hg; have hnb39 := NB278_279.out; have hnc39 := NB279_278.out; have hcz40_0 : w38.cell? ⟨gb278, 0, none⟩ = some (.string a0_0) := (blk_cell BK278.out 0).trans rfl; have hcz40_1 : w38.cell? ⟨gb278, 1, none⟩ = some (.string a0_1) := (blk_cell BK278.out 1).trans rfl; have hcz40_2 : w38.cell? ⟨gb278, 2, none⟩ = some (.int .i64 a0_2) := (blk_cell BK278.out 2).trans rfl; have hfz40_0 := blk_frozen BK278.out 0; have hfz40_1 := blk_frozen BK278.out 1; have hfz40_2 := blk_frozen BK278.out 2) | ((with_reducible refine gate_callee (f := 26) rfl ?_); refine goesL_ (some 6) rfl rfl Tryd.func26 (by kernel_rfl) rfl #[.agg #[.string a0_0, .string a0_1, .int .i64 a0_2]] rfl ax24 ?_; (with_reducible refine (impl_Book_wordsOf.calls a0_0 a0_1 a0_2 t280 _ ?side1 A2.out).mono ?_); (case side1 => exact ax117); rintro e w41 ⟨v281, rfl, ho0, hb⟩; refine ⟨_, rfl, ?_⟩; have n0_ := Aside0.mk (Kd.R_lower ho0 (below_size ax118)); have n1_ := Aside0.mk (blk_below (g := gb278) (o := .cells #[.string a0_0, .string a0_1, .int .i64 a0_2] 26 (0, 0)) ax112 hb); have n2_ := Aside0.mk (blk_below (g := gb279) (o := .cells #[.slice none 0 0] 38 (0, 0)) ax119 hb); have n3_ := Aside0.mk (below_step ax118 hb); clear BK278; clear BK279; clear HB; have HO282 := n0_; have BK278 := n1_; have BK279 := n2_; have HB := n3_; clear n0_ n1_ n2_ n3_; (try clear hb); (try clear hb2); (try clear hk); (try clear hi); (try clear ho0); obtain ⟨Ao42, co42, eo42⟩ := Kd.R_slice HO282.out; subst eo42) | (go_at_call 27; (with_reducible refine (slices_ContainsFunc_string_string.calls _ _ t280 (fun z_ => impl_Book_trie_1.f z_) false _ ?side1 ?side2 ?side3 ?side4 A11.out).mono ?_); (case side1 => exact ax121); (case side2 => exact ax122); (case side3 => exact ax123); (case side4 => exact ax124); rintro e w43 ⟨rfl, hb⟩; have n0_ := Aside0.mk (Kd.R_below ax125 hb); have n1_ := Aside0.mk (blk_below (g := gb278) (o := .cells #[.string a0_0, .string a0_1, .int .i64 a0_2] 26 (0, 0)) ax112 hb); have n2_ := Aside0.mk (blk_below (g := gb279) (o := .cells #[.slice none 0 0] 38 (0, 0)) ax119 hb); have n3_ := Aside0.mk (below_step ax118 hb); clear HO282; clear BK278; clear BK279; clear HB; have HO282 := n0_; have BK278 := n1_; have BK279 := n2_; have HB := n3_; clear n0_ n1_ n2_ n3_; (try clear hb); (try clear hb2); (try clear hk); (try clear hi)) | (go_at_call 31; (with_reducible refine (impl_set.calls _ _ t280 t284 _ ?side1 ?side2 A21.out).mono ?_); (case side1 => exact ax121); (case side2 => exact ax122); rintro e w44 ⟨v285, rfl, ho0, hb⟩; have n0_ := Aside0.mk (Kd.R_elder' ax125 (Kd.R_base ho0) hb); have n1_ := Aside0.mk (Kd.R_lower (Kd.R_new' ho0 (Kd.R_lt ax125)) (below_size ax118)); have n2_ := Aside0.mk (blk_below (g := gb278) (o := .cells #[.string a0_0, .string a0_1, .int .i64 a0_2] 26 (0, 0)) ax112 hb); have n3_ := Aside0.mk (blk_below (g := gb279) (o := .cells #[.slice none 0 0] 38 (0, 0)) ax119 hb); have n4_ := Aside0.mk (below_step ax118 hb); clear HO282; clear BK278; clear BK279; clear HB; have HO282 := n0_; have HO286 := n1_; have BK278 := n2_; have BK279 := n3_; have HB := n4_; clear n0_ n1_ n2_ n3_ n4_; (try clear hb); (try clear hb2); (try clear hk); (try clear hi); (try clear ho0); obtain ⟨Ao45, co45, eo45⟩ := Kd.R_slice HO286.out; subst eo45) | (go_at_call 30; (with_reducible refine (slices_Equal_string_string.calls k _ _ t284 _ _ t280 false _ ?side1 ?side2 ?side3 ?side4 A22.out).mono ?_); (case side1 => exact ax126); (case side2 => exact (Kd.R_reads' HO286.out).2.1); (case side3 => exact ax121); (case side4 => exact ax122); rintro e w' ⟨rfl, ⟨nd, rfl⟩⟩; (try (rw [drewN_self w44]; generalize hq_ : World.drewN w44 _ = w44; have n0_ : Aside0 (Kd.R Kd.string 9 w44 w.heap.size (fun k_ => some k_ ≠ (.slice Ao45 t284.length co45 : Value).ownBlock) (.slice Ao42 t280.length co42) t280) := ⟨by rw [← hq_]; exact ax127⟩; have n1_ : Aside0 (Kd.R Kd.string 9 w44 w.heap.size (fun k_ => some k_ ≠ (.slice Ao42 t280.length co42 : Value).ownBlock) (.slice Ao45 t284.length co45) t284) := ⟨by rw [← hq_]; exact ax128⟩; have n2_ : Aside0 (w44.heap[gb278]? = some (.cells #[.string a0_0, .string a0_1, .int .i64 a0_2] 26 (0, 0))) := ⟨by rw [← hq_]; exact ax112⟩; have n3_ : Aside0 (w44.heap[gb279]? = some (.cells #[.slice none 0 0] 38 (0, 0))) := ⟨by rw [← hq_]; exact ax119⟩; have n4_ : Aside0 (Below w.heap.size w w44) := ⟨by rw [← hq_]; exact ax118⟩; clear HO282 HO286 BK278 BK279 HB hq_; have HO282 := n0_; have HO286 := n1_; have BK278 := n2_; have BK279 := n3_; have HB := n4_; clear n0_ n1_ n2_ n3_ n4_)); have hcz46_0 : w44.cell? ⟨gb279, 0, none⟩ = some (.slice none 0 0) := (blk_cell BK279.out 0).trans rfl; have hfz46_0 := blk_frozen BK279.out 0))
    refine bodyPost_ret (results_ct rfl _ _ gb279 38 #[.slice none 0 0] (0, 0) _ rfl ax120 Tryd.underlying38 rfl (by kernel_rfl)) rfl ?_
    exact ⟨_, by first | rfl | (simp [errW_none, errW_some] <;> rfl) | (simp [*, errW_none, errW_some] <;> rfl), by first | exact Kd.R_nil _ _ _ _ _ | exact Kd.N_nil _ _ _ _ _ | exact Kd.V_nil _ _ _ _ _ | exact Kd.Q_nil _ _ _ _ _ | exact Kd.S_nil _ _ _ _ _, by repeat (first | (with_reducible first | exact HB.out | apply below_alloc | apply pw_below_drewN | apply below_drew1 | refine below_set ?_ GE278.out | refine below_set ?_ GE279.out) | exact HB.out)⟩

/-! ### impl_in: function 16 -/
def impl_in.f (a0 : Int) (a1 : Int) (a2 : Int) : Option (Bool) := if a0 ≥ a1 then (some (decide (a0 ≤ a2))) else (some false)
set_option maxHeartbeats 8000000 in
set_option maxRecDepth 100000 in
theorem impl_in.calls (a0 : Int) (a1 : Int) (a2 : Int) (r : Bool) (w : World) (h : impl_in.f a0 a1 a2 = some r) :
  Calls Tryd.prog 16 #[.int .i64 a0, .int .i64 a1, .int .i64 a2] w fun e w' => e = .returned (.bool r) ∧ Drawn0 w w' := by
 have H : (if a0 ≥ a1 then (some (decide (a0 ≤ a2))) else (some false)) = some r := h
 clear h
 by_cases c4 : a0 ≥ a1
 ·rw [if_pos c4] at H
  have c4b0 : decide (a1 ≤ a0) = true := decide_eq_true c4
  clear c4
  obtain rfl := Option.some.inj H
  go_enter Tryd.func16, Tryd.ntmps16
  go_wp2
  go_ret
  exact ⟨by first | rfl | (simp; done) | (simp [*]; done), by repeat (first | exact Drawn0.refl _ | apply Drawn0.step)⟩
 ·rw [if_neg c4] at H
  have c4b0 : decide (a1 ≤ a0) = false := decide_eq_false c4
  clear c4
  obtain rfl := Option.some.inj H
  go_enter Tryd.func16, Tryd.ntmps16
  go_wp2
  go_ret
  exact ⟨by first | rfl | (simp; done) | (simp [*]; done), by repeat (first | exact Drawn0.refl _ | apply Drawn0.step)⟩

/-! ### impl_letter: function 33 -/
def impl_letter.f (a0 : Int) : Option (ByteArray) := some (strOfNums (([(wrap64 (97 + a0)) % 256] : List Int)))
set_option maxHeartbeats 8000000 in
set_option maxRecDepth 100000 in
theorem impl_letter.calls (a0 : Int) (r : ByteArray) (w : World) (h : impl_letter.f a0 = some r) :
  Calls Tryd.prog 33 #[.int .i64 a0] w fun e w' => e = .returned (.string r) ∧ Below w.heap.size w w' := by
 have HB := Aside0.mk (Below.refl w.heap.size w)
 have H : (some (strOfNums (([(wrap64 (97 + a0)) % 256] : List Int)))) = some r := h
 clear h
 obtain ⟨y291, hy291⟩ : ∃ y_ : List Int, y_ = (([(wrap64 (97 + a0)) % 256] : List Int)) := ⟨_, rfl⟩
 replace H : (some (strOfNums y291)) = some r := by first | (rw [hy291]; with_reducible exact H) | (have H2_ := (Option.bind_some _ _).symm.trans H; rw [hy291]; with_reducible exact H2_) | (have H2_ := (Option.bind_some _ _).symm.trans H; with_reducible exact H2_) | with_reducible exact H | (rw [hy291]; exact H) | exact H
 have Ny291 := Aside0.mk hy291; clear hy291
 obtain rfl := Option.some.inj H
 go_enter Tryd.func33, Tryd.ntmps33
 go_wp2_with (first | ((with_reducible refine gate_dst (N := 6) rfl ?_); refine Kd.R_lit (Kd.int .u8) _ 5 ?hg (N := 6) ?hd (xs := ([(wrap64 (97 + a0)) % 256] : List Int)) (inner := [.int .u8 ((wrap64 (97 + a0)) % 256)]) (ok := fun _ => True) (okp := fun _ => True) ?hr ?hp (fun _ hk => hk) trivial (Below.refl _ _) (Nat.le_refl _) (by simp) ?_; (case hd => rfl); (case hg => rfl); (case hr => exact ax12); (case hp => exact (Reps.one (show Kd.M (Kd.int .u8) _ _ _ ((wrap64 (97 + a0)) % 256) [.int .u8 ((wrap64 (97 + a0)) % 256)] from rfl) (Reps.none _ _))); intro v292 w2 ho3 hb hg_ hnew_; clear hg_ hnew_; (first | rw [← Ny291.out] at ho3 | (simp only [Int.reduceToNat] at ho3; rw [← Ny291.out] at ho3)); have n0_ := Aside0.mk (Kd.R_lower ho3 (below_size ax13)); have n1_ := Aside0.mk (below_step ax13 hb); clear HB; have HO293 := n0_; have HB := n1_; clear n0_ n1_; clear hb ho3; have hcv4 := own_string (P := Tryd.prog) Tryd.underlying67 Tryd.underlying5 Tryd.underlying9 (Kd.own_of_R HO293.out)))
 go_ret
 exact ⟨by first | rfl | (simp [errW_none, errW_some] <;> rfl) | (simp [*, errW_none, errW_some] <;> rfl), by repeat (first | (with_reducible first | exact HB.out | apply below_alloc | apply pw_below_drewN | apply below_drew1) | exact HB.out)⟩

/-! ### impl_Trie_prefixes: function 17 -/
def impl_Trie_prefixes.l0 : Nat → List ByteArray → List (S50) → Int → Int → Option (List ByteArray × Bool)
 | 0, _, _, _, _ => none
 | k + 1, x4, x15, x16, x17 => if x17 < x16 then (if 0 ≤ x17 then (if x17 < (x15.length : Int) then ((impl_in.f ((rd_T50 x15 x17).f1) 0 x17).bind fun t305 => (if t305 = true then ((impl_in.f ((rd_T50 x15 x17).f0) 0 25).bind fun t306 => (if t306 = true then (if 0 ≤ ((rd_T50 x15 x17).f1) then (if ((rd_T50 x15 x17).f1) < (x4.length : Int) then ((impl_letter.f ((rd_T50 x15 x17).f0)).bind fun t308 => (if (rdOf ByteArray.empty x4 ((rd_T50 x15 x17).f1)).size + t308.size ≤ 9223372036854775807 then (if x4.length < 8796093022208 then (impl_Trie_prefixes.l0 k (x4 ++ [(rdOf ByteArray.empty x4 ((rd_T50 x15 x17).f1)) ++ t308]) x15 x16 (wrap64 (x17 + 1))) else (none)) else (none))) else (none)) else (none)) else (some (([] : List ByteArray), false)))) else (some (([] : List ByteArray), false)))) else (none)) else (none)) else (some (x4, true))
def impl_Trie_prefixes.f (k : Nat) (l0_0 : List (S50)) : Option (List ByteArray × Bool) := (impl_in.f (l0_0.length : Int) 1 481).bind fun t298 => (if t298 = true then (if 1 ≤ (l0_0.length : Int) then ((some (l0_0.drop 1 : List (S50))).bind fun y299 => (impl_Trie_prefixes.l0 k (([(⟨#[]⟩ : ByteArray)] : List ByteArray)) y299 (y299.length : Int) 0)) else (none)) else (some (([] : List ByteArray), false)))
theorem impl_Trie_prefixes.mono_l : ∀ k, (∀ y0 y1 y2 y3, LeO (impl_Trie_prefixes.l0 k y0 y1 y2 y3) (impl_Trie_prefixes.l0 (k + 1) y0 y1 y2 y3))
 | 0 => fun _ _ _ _ r h => by simp [impl_Trie_prefixes.l0] at h
 | k + 1 => by
  have ih0 := impl_Trie_prefixes.mono_l k
  ·intro y0 y1 y2 y3
   unfold impl_Trie_prefixes.l0
   repeat' first
   | (with_reducible exact ih0 _ _ _ _)
   | (with_reducible exact LeO.refl _)
   | (with_reducible exact LeO.none _)
   | (with_reducible refine LeO.ite ?_ ?_)
   | (with_reducible refine LeO.bind ?_ (fun _ => ?_))
   | exact ih0 _ _ _ _
   | exact LeO.none _
   | refine LeO.ite ?_ ?_
   | refine LeO.bind ?_ (fun _ => ?_)
theorem impl_Trie_prefixes.mono : ∀ a0 k, LeO (impl_Trie_prefixes.f k a0) (impl_Trie_prefixes.f (k + 1) a0) := by
 intro a0 k
 have ih0 := impl_Trie_prefixes.mono_l k
 unfold impl_Trie_prefixes.f
 repeat' first
   | (with_reducible exact ih0 _ _ _ _)
   | (with_reducible exact LeO.refl _)
   | (with_reducible exact LeO.none _)
   | (with_reducible refine LeO.ite ?_ ?_)
   | (with_reducible refine LeO.bind ?_ (fun _ => ?_))
   | exact ih0 _ _ _ _
   | exact LeO.none _
   | refine LeO.ite ?_ ?_
   | refine LeO.bind ?_ (fun _ => ?_)
def impl_Trie_prefixes.T9 : Bool × List (List Nat × List Nat) := (true, [([], []), ([], []), ([], []), ([2], [2]), ([1, 3], [1, 3]), ([4], [4]), ([], []), ([6], [6]), ([7], [7]), ([5, 8], [5, 8]), ([9], [9]), ([0, 10, 8], [0, 10]), ([11, 11, 0, 1, 2, 3, 4, 5, 6, 7, 8, 9, 10, 11], [0, 1, 11])])
def impl_Trie_prefixes.B9 : List Nat := [0, 0, 0, 4, 14, 30, 0, 64, 192, 510, 1022, 2047, 4095]
theorem impl_Trie_prefixes.tab9 : rtab .any (opsOf Tryd.f17 9) = impl_Trie_prefixes.T9 := by kernel_rfl
theorem impl_Trie_prefixes.bits9 : waitsOk impl_Trie_prefixes.T9.2 impl_Trie_prefixes.B9 = true := by kernel_rfl
set_option maxHeartbeats 8000000 in
set_option maxRecDepth 100000 in
theorem impl_Trie_prefixes.calls (k : Nat) (A0_0 : Option Addr) (c0_0 : Nat) (l0_0 : List (S50)) (r1 : List ByteArray) (r2 : Bool) (w : World) (hr0_0 : Kd.C k50 w A0_0 l0_0.length l0_0) (hc0_0 : l0_0.length ≤ c0_0) (h : impl_Trie_prefixes.f k l0_0 = some (r1, r2)) :
  Calls Tryd.prog 17 #[.agg #[.slice A0_0 l0_0.length c0_0]] w fun e w' => ∃ v0_ : Value, e = .returned (.tuple #[v0_, .bool r2]) ∧ Kd.R Kd.string 9 w' w.heap.size (fun _ => True) v0_ r1 ∧ Below w.heap.size w w' := by
 have hu38 := Tryd.underlying38; have hu50 := Tryd.underlying50; have HR0_0 := Aside0.mk hr0_0; have HC0_0 := Aside0.mk hc0_0; clear hr0_0 hc0_0; have HB := Aside0.mk (Below.refl w.heap.size w)
 have H : ((impl_in.f (l0_0.length : Int) 1 481).bind fun t298 => (if t298 = true then (if 1 ≤ (l0_0.length : Int) then ((some (l0_0.drop 1 : List (S50))).bind fun y299 => (impl_Trie_prefixes.l0 k (([(⟨#[]⟩ : ByteArray)] : List ByteArray)) y299 (y299.length : Int) 0)) else (none)) else (some (([] : List ByteArray), false)))) = some (r1, r2) := h
 clear h
 obtain ⟨y295, hy295⟩ : ∃ y_ : List ByteArray, y_ = (([(⟨#[]⟩ : ByteArray)] : List ByteArray)) := ⟨_, rfl⟩
 replace H : ((impl_in.f (l0_0.length : Int) 1 481).bind fun t298 => (if t298 = true then (if 1 ≤ (l0_0.length : Int) then ((some (l0_0.drop 1 : List (S50))).bind fun y299 => (impl_Trie_prefixes.l0 k y295 y299 (y299.length : Int) 0)) else (none)) else (some (([] : List ByteArray), false)))) = some (r1, r2) := by first | (rw [hy295]; with_reducible exact H) | (have H2_ := (Option.bind_some _ _).symm.trans H; rw [hy295]; with_reducible exact H2_) | (have H2_ := (Option.bind_some _ _).symm.trans H; with_reducible exact H2_) | with_reducible exact H | (rw [hy295]; exact H) | exact H
 have Ny295 := Aside0.mk hy295; clear hy295; replace H := Option.bind_eq_some_iff.mp H
 obtain ⟨t298, A20, H⟩ := H
 replace H : (if t298 = true then (if 1 ≤ (l0_0.length : Int) then ((some (l0_0.drop 1 : List (S50))).bind fun y299 => (impl_Trie_prefixes.l0 k y295 y299 (y299.length : Int) 0)) else (none)) else (some (([] : List ByteArray), false))) = some (r1, r2) := H
 have A2 := Aside0.mk A20; clear A20
 by_cases c3 : t298 = true
 ·subst c3
  have H1 : (if 1 ≤ (l0_0.length : Int) then ((some (l0_0.drop 1 : List (S50))).bind fun y299 => (impl_Trie_prefixes.l0 k y295 y299 (y299.length : Int) 0)) else (none)) = some (r1, r2) := by rw [if_pos rfl] at H; exact H
  clear H; have H := H1; clear H1
  by_cases c4 : 1 ≤ (l0_0.length : Int)
  ·rw [if_pos c4] at H
   have c4b0 := eq_true c4
   have c4b1 : decide (1 ≤ (l0_0.length : Int)) = true := decide_eq_true c4
   clear c4
   obtain ⟨y299, hy299⟩ : ∃ y_ : List (S50), y_ = (l0_0.drop 1) := ⟨_, rfl⟩
   replace H : (impl_Trie_prefixes.l0 k y295 y299 (y299.length : Int) 0) = some (r1, r2) := by first | (rw [hy299]; with_reducible exact H) | (have H2_ := (Option.bind_some _ _).symm.trans H; rw [hy299]; with_reducible exact H2_) | (have H2_ := (Option.bind_some _ _).symm.trans H; with_reducible exact H2_) | with_reducible exact H | (rw [hy299]; exact H) | exact H
   have Ny299 := Aside0.mk hy299; clear hy299
   have H' := Aside0.mk H
   clear H
   go_enter Tryd.func17, Tryd.ntmps17
   go_wp2_with (first | ((with_reducible refine gate_dst (N := 1) rfl ?_); refine box_event ?hg (N := 1) ?hd (cs := #[.slice A0_0 l0_0.length c0_0]) (t := 38) ?hr ?_; (case hd => rfl); (case hg => rfl); (case hr => exact ax12); intro gb294 hg w5 hbox hb; have n0_ := Aside0.mk (below_step ax13 hb); have n1_ := Aside0.mk (hbox); have n2_ := Aside0.mk ((ax14 : w.heap.size ≤ gb294)); have n3_ := Aside0.mk ((ax14 : w.heap.size ≤ gb294)); clear HB; have HB := n0_; have BK294 := n1_; have GW294 := n2_; have GE294 := n3_; clear n0_ n1_ n2_ n3_; clear hb hbox hg) | ((with_reducible refine gate_dst (N := 7) rfl ?_); refine Kd.R_lit Kd.string _ 9 ?hg (N := 7) ?hd (xs := ([(⟨#[]⟩ : ByteArray)] : List ByteArray)) (inner := [.string (⟨#[]⟩ : ByteArray)]) (ok := fun _ => True) (okp := fun _ => True) ?hr ?hp (fun _ hk => hk) trivial (Below.refl _ _) (Nat.le_refl _) (by simp) ?_; (case hd => rfl); (case hg => rfl); (case hr => exact ax12); (case hp => exact ax53); intro v296 w6 ho7 hb hg_ hnew_; clear hg_ hnew_; (first | rw [← Ny295.out] at ho7 | (simp only [Int.reduceToNat] at ho7; rw [← Ny295.out] at ho7)); have n0_ := Aside0.mk (Kd.R_lower ho7 (below_size ax129)); have n1_ := Aside0.mk (blk_below (g := gb294) (o := .cells #[.slice A0_0 l0_0.length c0_0] 38 (0, 0)) ax130 hb); have n2_ := Aside0.mk (below_step ax129 hb); clear BK294; clear HB; have HO297 := n0_; have BK294 := n1_; have HB := n2_; clear n0_ n1_ n2_; clear hb ho7; have hcz8_0 : w6.cell? ⟨gb294, 0, none⟩ = some (.slice A0_0 l0_0.length c0_0) := (blk_cell BK294.out 0).trans rfl; have hfz8_0 := blk_frozen BK294.out 0) | ((with_reducible refine gate_callee (f := 16) rfl ?_); refine goesL_ (some 11) rfl rfl Tryd.func16 (by kernel_rfl) rfl #[.int .i64 (l0_0.length : Int), .int .i64 1, .int .i64 481] rfl ax24 ?_; (with_reducible refine (impl_in.calls (l0_0.length : Int) 1 481 true _ A2.out).mono ?_); rintro e w' ⟨rfl, ⟨nd, rfl⟩⟩; refine ⟨_, rfl, ?_⟩; have q9 : (1 : Int) ≤ ((l0_0.length : Int) : Int) := of_decide_eq_true ax16; obtain ⟨i09, hi09, _, hsz9, _⟩ := info_parts info50; have hroom9 : l0_0.length ≤ c0_0 := HC0_0.out; have hC9 : Kd.C k50 _ A0_0 l0_0.length l0_0 := HR0_0.out; have hcut9 := cut_from (P := Tryd.prog) 36 50 .i64 Tryd.underlying36 hi09 3 hsz9 A0_0 l0_0.length c0_0 1 (by omega) q9; have hr9 := Kd.C_drop (m := (1 : Int).toNat) (c := c0_0) hC9 (by omega) hroom9; obtain ⟨A9, hA9⟩ : ∃ A1, A1 = (if c0_0 = (1 : Int).toNat then A0_0 else (A0_0 : Option Addr).map (·.add ((1 : Int).toNat * 3))) := ⟨_, rfl⟩; obtain ⟨c9, hc9⟩ : ∃ c1, c1 = c0_0 - (1 : Int).toNat := ⟨_, rfl⟩; have hy9 : y299.length = l0_0.length - (1 : Int).toNat := (by rw [Ny299.out, List.length_drop] <;> omega); rw [show (l0_0).drop (1 : Int).toNat = y299 from Ny299.out.symm] at hr9; replace hr9 : Kd.C k50 _ A9 y299.length y299 := (by rw [hA9]; exact hr9); rw [← hy9, ← hA9, ← hc9] at hcut9; have HR302 := Aside0.mk hr9; have HC302 := Aside0.mk (show y299.length ≤ c9 from by rw [hy9, hc9]; exact Nat.sub_le_sub_right hroom9 _); clear hr9 hC9 hroom9 hi09 hsz9 hc9; have KY9 := Aside0.mk hy9; have KA9 := Aside0.mk hA9; clear hy9 hA9; replace q9 := eq_true q9))
   go_loopg [4, 17] k (fun kq v4 v17 w' => ∃ (x4_1 : List ByteArray) (x17_1 : Int), v17 = .int .i64 x17_1 ∧ Aside0 (impl_Trie_prefixes.l0 kq x4_1 y299 (y299.length : Int) x17_1 = some (r1, r2)) ∧ Aside0 (kq ≤ k) ∧ Aside0 (Kd.R Kd.string 9 w' w.heap.size (fun _ => True) v4 x4_1) ∧ Aside0 (w'.heap[gb294]? = some (.cells #[(.slice A0_0 l0_0.length c0_0)] 38 (0, 0))) ∧ Aside0 (Below w.heap.size w w'))
   case atStart => exact ⟨(y295), (0), ax15, H', ⟨Nat.le_refl _⟩, ⟨by (with_reducible repeat (first | apply Kd.R_alloc | apply Kd.R_drewN | apply Kd.R_drew)); exact HO297.out⟩, ⟨by (with_reducible repeat (first | refine blk_drewN ?_ _ | refine blk_drew ?_ | refine blk_alloc ?_ _)); exact BK294.out⟩, ⟨by repeat (first | (with_reducible first | exact HB.out | apply below_alloc | apply pw_below_drewN | apply below_drew1 | refine below_set ?_ GE294.out) | exact HB.out)⟩⟩
   case round =>
    clear H'
    try clear c1
    try clear p2
    try clear c3
    try clear c4
    try clear c4b0
    try clear c4b1
    try clear c9
    try clear q9
    try clear hcz8_0
    try clear hfz8_0
    try clear q9
    obtain ⟨x4_1, x17_1, rfl, HA, HK1, HO_4, BK294, HB⟩ := hrel
    cases gk with
    | zero => exact absurd HA.out (by simp [impl_Trie_prefixes.l0])
    | succ k1 =>
     have H := HA.out; clear HA
     simp only [impl_Trie_prefixes.l0] at H
     by_cases c10 : x17_1 < (y299.length : Int)
     ·rw [if_pos c10] at H
      have c10b0 : decide (x17_1 < (y299.length : Int)) = true := decide_eq_true c10
      clear c10
      by_cases c11 : 0 ≤ x17_1
      ·rw [if_pos c11] at H
       have c11b0 : decide (0 ≤ x17_1) = true := decide_eq_true c11
       clear c11
       by_cases c12 : x17_1 < (y299.length : Int)
       ·rw [if_pos c12] at H
        have c12b0 : decide (x17_1 < (y299.length : Int)) = true := decide_eq_true c12
        clear c12; replace H := Option.bind_eq_some_iff.mp H
        obtain ⟨t305, A130, H⟩ := H
        replace H : (if t305 = true then ((impl_in.f ((rd_T50 y299 x17_1).f0) 0 25).bind fun t306 => (if t306 = true then (if 0 ≤ ((rd_T50 y299 x17_1).f1) then (if ((rd_T50 y299 x17_1).f1) < (x4_1.length : Int) then ((impl_letter.f ((rd_T50 y299 x17_1).f0)).bind fun t308 => (if (rdOf ByteArray.empty x4_1 ((rd_T50 y299 x17_1).f1)).size + t308.size ≤ 9223372036854775807 then (if x4_1.length < 8796093022208 then (impl_Trie_prefixes.l0 k1 (x4_1 ++ [(rdOf ByteArray.empty x4_1 ((rd_T50 y299 x17_1).f1)) ++ t308]) y299 (y299.length : Int) (wrap64 (x17_1 + 1))) else (none)) else (none))) else (none)) else (none)) else (some (([] : List ByteArray), false)))) else (some (([] : List ByteArray), false))) = some (r1, r2) := H
        have A13 := Aside0.mk A130; clear A130
        by_cases c14 : t305 = true
        ·subst c14
         have H1 : ((impl_in.f ((rd_T50 y299 x17_1).f0) 0 25).bind fun t306 => (if t306 = true then (if 0 ≤ ((rd_T50 y299 x17_1).f1) then (if ((rd_T50 y299 x17_1).f1) < (x4_1.length : Int) then ((impl_letter.f ((rd_T50 y299 x17_1).f0)).bind fun t308 => (if (rdOf ByteArray.empty x4_1 ((rd_T50 y299 x17_1).f1)).size + t308.size ≤ 9223372036854775807 then (if x4_1.length < 8796093022208 then (impl_Trie_prefixes.l0 k1 (x4_1 ++ [(rdOf ByteArray.empty x4_1 ((rd_T50 y299 x17_1).f1)) ++ t308]) y299 (y299.length : Int) (wrap64 (x17_1 + 1))) else (none)) else (none))) else (none)) else (none)) else (some (([] : List ByteArray), false)))) = some (r1, r2) := by rw [if_pos rfl] at H; exact H
         clear H; have H := H1; clear H1; replace H := Option.bind_eq_some_iff.mp H
         obtain ⟨t306, A150, H⟩ := H
         replace H : (if t306 = true then (if 0 ≤ ((rd_T50 y299 x17_1).f1) then (if ((rd_T50 y299 x17_1).f1) < (x4_1.length : Int) then ((impl_letter.f ((rd_T50 y299 x17_1).f0)).bind fun t308 => (if (rdOf ByteArray.empty x4_1 ((rd_T50 y299 x17_1).f1)).size + t308.size ≤ 9223372036854775807 then (if x4_1.length < 8796093022208 then (impl_Trie_prefixes.l0 k1 (x4_1 ++ [(rdOf ByteArray.empty x4_1 ((rd_T50 y299 x17_1).f1)) ++ t308]) y299 (y299.length : Int) (wrap64 (x17_1 + 1))) else (none)) else (none))) else (none)) else (none)) else (some (([] : List ByteArray), false))) = some (r1, r2) := H
         have A15 := Aside0.mk A150; clear A150
         by_cases c16 : t306 = true
         ·subst c16
          have H1 : (if 0 ≤ ((rd_T50 y299 x17_1).f1) then (if ((rd_T50 y299 x17_1).f1) < (x4_1.length : Int) then ((impl_letter.f ((rd_T50 y299 x17_1).f0)).bind fun t308 => (if (rdOf ByteArray.empty x4_1 ((rd_T50 y299 x17_1).f1)).size + t308.size ≤ 9223372036854775807 then (if x4_1.length < 8796093022208 then (impl_Trie_prefixes.l0 k1 (x4_1 ++ [(rdOf ByteArray.empty x4_1 ((rd_T50 y299 x17_1).f1)) ++ t308]) y299 (y299.length : Int) (wrap64 (x17_1 + 1))) else (none)) else (none))) else (none)) else (none)) = some (r1, r2) := by rw [if_pos rfl] at H; exact H
          clear H; have H := H1; clear H1
          by_cases c17 : 0 ≤ ((rd_T50 y299 x17_1).f1)
          ·rw [if_pos c17] at H
           have c17b0 : decide (0 ≤ ((rd_T50 y299 x17_1).f1)) = true := decide_eq_true c17
           clear c17
           by_cases c18 : ((rd_T50 y299 x17_1).f1) < (x4_1.length : Int)
           ·rw [if_pos c18] at H
            have c18b0 : decide (((rd_T50 y299 x17_1).f1) < (x4_1.length : Int)) = true := decide_eq_true c18
            clear c18; replace H := Option.bind_eq_some_iff.mp H
            obtain ⟨t308, A190, H⟩ := H
            replace H : (if (rdOf ByteArray.empty x4_1 ((rd_T50 y299 x17_1).f1)).size + t308.size ≤ 9223372036854775807 then (if x4_1.length < 8796093022208 then (impl_Trie_prefixes.l0 k1 (x4_1 ++ [(rdOf ByteArray.empty x4_1 ((rd_T50 y299 x17_1).f1)) ++ t308]) y299 (y299.length : Int) (wrap64 (x17_1 + 1))) else (none)) else (none)) = some (r1, r2) := H
            have A19 := Aside0.mk A190; clear A190
            by_cases c20 : (rdOf ByteArray.empty x4_1 ((rd_T50 y299 x17_1).f1)).size + t308.size ≤ 9223372036854775807
            ·rw [if_pos c20] at H
             have c20b0 := eq_true c20
             have c20b1 : decide ((rdOf ByteArray.empty x4_1 ((rd_T50 y299 x17_1).f1)).size + t308.size ≤ 9223372036854775807) = true := decide_eq_true c20
             try have c20b2 : (9223372036854775807 < (rdOf ByteArray.empty x4_1 ((rd_T50 y299 x17_1).f1)).size + t308.size) = False := eq_false (Nat.not_lt.2 c20)
             clear c20
             obtain ⟨js21, hjs21⟩ : ∃ j_ : ByteArray, ((rdOf ByteArray.empty x4_1 ((rd_T50 y299 x17_1).f1)) ++ t308) = j_ := ⟨_, rfl⟩
             replace H : (if x4_1.length < 8796093022208 then (impl_Trie_prefixes.l0 k1 (x4_1 ++ [js21]) y299 (y299.length : Int) (wrap64 (x17_1 + 1))) else (none)) = some (r1, r2) := by first | (rw [hjs21] at H; exact H) | (simp only [hjs21] at H ⊢; exact H)
             by_cases c22 : x4_1.length < 8796093022208
             ·rw [if_pos c22] at H
              have LMc22 := Aside0.mk c22; clear c22
              obtain ⟨y309, hy309⟩ : ∃ y_ : List ByteArray, y_ = (x4_1 ++ [js21]) := ⟨_, rfl⟩
              replace H : (impl_Trie_prefixes.l0 k1 y309 y299 (y299.length : Int) (wrap64 (x17_1 + 1))) = some (r1, r2) := by first | (rw [hy309]; with_reducible exact H) | (have H2_ := (Option.bind_some _ _).symm.trans H; rw [hy309]; with_reducible exact H2_) | (have H2_ := (Option.bind_some _ _).symm.trans H; with_reducible exact H2_) | with_reducible exact H | (rw [hy309]; exact H) | exact H
              have Ny309 := Aside0.mk hy309; clear hy309
              have H' := Aside0.mk H
              clear H
              have p303 : 0 ≤ (x17_1 : Int) := of_decide_eq_true ax16
              have q303 : x17_1 < (y299.length : Int) := of_decide_eq_true ax16
              obtain ⟨ad303, e303, hx303_0, hx303_1, hx303_2⟩ := at_T50 HR302.out x17_1 p303 q303
              cases e303; replace hx303_0 := (HB.out.cell (World.block_lt_of_cell? w _ hx303_0)).trans hx303_0; replace hx303_1 := (HB.out.cell (World.block_lt_of_cell? w _ hx303_1)).trans hx303_1; replace hx303_2 := (HB.out.cell (World.block_lt_of_cell? w _ hx303_2)).trans hx303_2; replace p303 := eq_true p303; replace q303 := eq_true q303
              try go_wp2_with (first | ((with_reducible refine gate_dst (N := 6) rfl ?_); refine box_event ?hg (N := 6) ?hd (cs := #[.int .i64 0, .int .i64 0, .bool false]) (t := 50) ?hr ?_; (case hd => rfl); (case hg => rfl); (case hr => exact ax12); intro gb304 hg w23 hbox hb; have n0_ := Aside0.mk (Kd.R_below ax131 hb); have n1_ := Aside0.mk (blk_below (g := gb294) (o := .cells #[.slice A0_0 l0_0.length c0_0] 38 (0, 0)) ax130 hb); have n2_ := Aside0.mk (below_step ax129 hb); have n3_ := Aside0.mk (hbox); have n4_ := Aside0.mk ((ax132 : w.heap.size ≤ gb304)); have n5_ := Aside0.mk ((ax132 : w.heap.size ≤ gb304)); have n6_ := Aside0.mk ((ax133 : gb294 ≠ gb304)); have n7_ := Aside0.mk ((ax134 : gb304 ≠ gb294)); clear HO_4; clear BK294; clear HB; have HO_4 := n0_; have BK294 := n1_; have HB := n2_; have BK304 := n3_; have GW304 := n4_; have GE304 := n5_; have NB294_304 := n6_; have NB304_294 := n7_; clear n0_ n1_ n2_ n3_ n4_ n5_ n6_ n7_; clear hb hbox hg; have hnb24 := NB304_294.out; have hnc24 := NB294_304.out; have hcz25_0 : w23.cell? ⟨gb304, 0, none⟩ = some (.int .i64 0) := (blk_cell BK304.out 0).trans rfl; have hcz25_1 : w23.cell? ⟨gb304, 1, none⟩ = some (.int .i64 0) := (blk_cell BK304.out 1).trans rfl; have hcz25_2 : w23.cell? ⟨gb304, 2, none⟩ = some (.bool false) := (blk_cell BK304.out 2).trans rfl; have hfz25_0 := blk_frozen BK304.out 0; have hfz25_1 := blk_frozen BK304.out 1; have hfz25_2 := blk_frozen BK304.out 2) | ((with_reducible refine gate_store (t := 50) (p := 6) rfl ?_); refine store_event (t := 50) (p := 6) (v := ?vo_w26) (w1 := (((w23.setCell ⟨gb304, 0, none⟩ (.int .i64 ((rd_T50 y299 x17_1).f0))).setCell ⟨gb304, 1, none⟩ (.int .i64 ((rd_T50 y299 x17_1).f1))).setCell ⟨gb304, 2, none⟩ (.bool ((rd_T50 y299 x17_1).f2)))) ?hg ?ho ?hn ?hr ?_; (case ho => rfl); (case hg => rfl); (case hn => rfl); (case hr => exact ax12); intro w26 hw; have n0_ : Aside0 (Kd.R Kd.string 9 w26 w.heap.size (fun _ => True) u4 x4_1) := ⟨ax135⟩; have n1_ : Aside0 (w26.heap[gb294]? = some (.cells #[.slice A0_0 l0_0.length c0_0] 38 (0, 0))) := ⟨ax136⟩; have n2_ : Aside0 (w26.heap[gb304]? = some (.cells #[.int .i64 ((rd_T50 y299 x17_1).f0), .int .i64 ((rd_T50 y299 x17_1).f1), .bool ((rd_T50 y299 x17_1).f2)] 50 (0, 0))) := ⟨ax137⟩; have n3_ : Aside0 (Below w.heap.size w w26) := ⟨ax138⟩; clear hw; clear HO_4; clear BK294; clear BK304; clear HB; have HO_4 := n0_; have BK294 := n1_; have BK304 := n2_; have HB := n3_; clear n0_ n1_ n2_ n3_; have hcz27_0 : w26.cell? ⟨gb304, 0, none⟩ = some (.int .i64 ((rd_T50 y299 x17_1).f0)) := (blk_cell BK304.out 0).trans rfl; have hcz27_1 : w26.cell? ⟨gb304, 1, none⟩ = some (.int .i64 ((rd_T50 y299 x17_1).f1)) := (blk_cell BK304.out 1).trans rfl; have hcz27_2 : w26.cell? ⟨gb304, 2, none⟩ = some (.bool ((rd_T50 y299 x17_1).f2)) := (blk_cell BK304.out 2).trans rfl; have hfz27_0 := blk_frozen BK304.out 0; have hfz27_1 := blk_frozen BK304.out 1; have hfz27_2 := blk_frozen BK304.out 2) | ((with_reducible refine gate_callee (f := 16) rfl ?_); refine goesL_ (some 25) rfl rfl Tryd.func16 (by kernel_rfl) rfl #[.int .i64 ((rd_T50 y299 x17_1).f1), .int .i64 0, .int .i64 x17_1] rfl ax24 ?_; (with_reducible refine (impl_in.calls ((rd_T50 y299 x17_1).f1) 0 x17_1 true _ A13.out).mono ?_); rintro e w' ⟨rfl, ⟨nd, rfl⟩⟩; refine ⟨_, rfl, ?_⟩) | (go_at_call 16; (with_reducible refine (impl_in.calls ((rd_T50 y299 x17_1).f0) 0 25 true _ A15.out).mono ?_); rintro e w' ⟨rfl, ⟨nd, rfl⟩⟩))
              (try (rw [drewN_self w26]; generalize hq_ : World.drewN w26 _ = w26; have n0_ : Aside0 (Kd.R Kd.string 9 w26 w.heap.size (fun _ => True) u4 x4_1) := ⟨by rw [← hq_]; exact ax131⟩; have n1_ : Aside0 (w26.heap[gb294]? = some (.cells #[.slice A0_0 l0_0.length c0_0] 38 (0, 0))) := ⟨by rw [← hq_]; exact ax130⟩; have n2_ : Aside0 (w26.heap[gb304]? = some (.cells #[.int .i64 ((rd_T50 y299 x17_1).f0), .int .i64 ((rd_T50 y299 x17_1).f1), .bool ((rd_T50 y299 x17_1).f2)] 50 (0, 0))) := ⟨by rw [← hq_]; exact ax139⟩; have n3_ : Aside0 (Below w.heap.size w w26) := ⟨by rw [← hq_]; exact ax140⟩; clear HO_4 BK294 BK304 HB hq_; have HO_4 := n0_; have BK294 := n1_; have BK304 := n2_; have HB := n3_; clear n0_ n1_ n2_ n3_))
              have n0_ := Aside0.mk (Kd.R_drew HO_4.out); have n1_ := Aside0.mk (blk_drew BK294.out); have n2_ := Aside0.mk (blk_drew BK304.out); have n3_ := Aside0.mk (below_drew1 HB.out); clear HO_4; clear BK294; clear BK304; clear HB; have HO_4 := n0_; have BK294 := n1_; have BK304 := n2_; have HB := n3_; clear n0_ n1_ n2_ n3_
              obtain ⟨Ao29, co29, eo29⟩ := Kd.R_slice HO_4.out
              (first | subst eo29 | (injection eo29 with f1_ f2_ f3_; have f4_ := f1_.symm; have f5_ := f3_.symm; clear f1_ f2_ f3_; subst f4_; subst f5_))
              have p307 : 0 ≤ (((rd_T50 y299 x17_1).f1) : Int) := of_decide_eq_true ax16
              have q307 : ((rd_T50 y299 x17_1).f1) < (x4_1.length : Int) := of_decide_eq_true ax16
              obtain ⟨ad307, e307, hx307_0⟩ := Kd.at_string (Kd.R_reads' HO_4.out).2.2 ((rd_T50 y299 x17_1).f1) p307 q307
              cases e307; replace p307 := eq_true p307; replace q307 := eq_true q307
              refine start_ (n := 13) (S := fun w' => w'.cell? ⟨gb304, 0, none⟩ = some (.int .i64 ((rd_T50 y299 x17_1).f0)) ∧ w'.cell? ⟨gb304, 1, none⟩ = some (.int .i64 ((rd_T50 y299 x17_1).f1)) ∧ w'.cell? ⟨gb304, 2, none⟩ = some (.bool ((rd_T50 y299 x17_1).f2)) ∧ w'.cell? (ad307.add (((rd_T50 y299 x17_1).f1)).toNat) = some (.string (rdOf ByteArray.empty x4_1 ((rd_T50 y299 x17_1).f1)))) (ds := [10, 11]) (ob 13 0) (by kernel_rfl) rfl rfl ⟨(blk_cell BK304.out 0).trans rfl, (blk_cell BK304.out 1).trans rfl, (blk_cell BK304.out 2).trans rfl, hx307_0⟩ (fun hHeld => ?_); refine with_tabW impl_Trie_prefixes.tab9 impl_Trie_prefixes.bits9 (fun HT_ HW_ => ?_)
              generalize w26.drew = w28 at HO_4 BK294 BK304 HB hx307_0 hHeld ⊢
              refine pure_ (i := 0) (N := some 33) (v := ?_) (a' := ?_) (ob 13 1) rfl rfl (any_of HT_.out (by kernel_rfl)) (fun _ _ _ h => h) (Or.inl ⟨by rfl, ?_⟩) ?_ ?_; rotate_left; exact ax6; rotate_left; exact ax7
              refine pure_ (i := 1) (N := some 34) (v := ?_) (a' := ?_) (ob 13 3) rfl rfl (any_of HT_.out (by kernel_rfl)) (fun _ _ _ h => h) (Or.inl ⟨by rfl, ?_⟩) ?_ ?_; rotate_left; exact ax6; rotate_left; exact ax7
              refine pure_ (i := 2) (N := some 35) (v := ?_) (a' := ?_) (ob 13 7) rfl rfl (any_of HT_.out (by kernel_rfl)) (fun _ _ _ h => h) (Or.inl ⟨by rfl, ?_⟩) ?_ ?_; rotate_left; exact ax6; rotate_left; exact ax7
              refine pure_ (i := 6) (N := some 39) (v := ?_) (a' := ?_) (ob 13 71) rfl rfl (any_of HT_.out (by kernel_rfl)) (fun _ _ _ h => h) (Or.inl ⟨by rfl, ?_⟩) ?_ ?_; rotate_left; exact ax6; rotate_left; exact ax7
              refine take_ (i := 3) (N := some 36) (v := ?_) (a' := ?_) (ob 13 79) rfl rfl (take_ofW HT_.out HW_.out (by kernel_rfl)) (fun _ _ _ h => h) (Or.inl ⟨by rfl, ?_⟩) hHeld ?_ ?_
              rotate_left
              ·rintro w' ⟨s0, s1, s2, s3⟩
               go_simp
               with_reducible rfl
              rotate_left
              ·exact ax7
              refine pure_ (i := 4) (N := some 37) (v := ?_) (a' := ?_) (ob 13 95) rfl rfl (any_of HT_.out (by kernel_rfl)) (fun _ _ _ h => h) (Or.inl ⟨by rfl, ?_⟩) ?_ ?_; rotate_left; exact ax6; rotate_left; exact ax7
              refine take_ (i := 5) (N := some 38) (v := ?_) (a' := ?_) (ob 13 127) rfl rfl (take_ofW HT_.out HW_.out (by kernel_rfl)) (fun _ _ _ h => h) (Or.inl ⟨by rfl, ?_⟩) hHeld ?_ ?_
              rotate_left
              ·rintro w' ⟨s0, s1, s2, s3⟩
               go_simp
               with_reducible rfl
              rotate_left
              ·exact ax7
              refine take_ (i := 7) (N := some 40) (v := ?_) (a' := ?_) (ob 13 255) rfl rfl (take_ofW HT_.out HW_.out (by kernel_rfl)) (fun _ _ _ h => h) (Or.inl ⟨by rfl, ?_⟩) hHeld ?_ ?_
              rotate_left
              ·rintro w' ⟨s0, s1, s2, s3⟩
               go_simp
               with_reducible rfl
              rotate_left
              ·exact ax7
              refine one_ (i := 8) (N := some 41) (ob 13 511) rfl rfl (one_of HT_.out (by kernel_rfl)) (by decide) (fun K hK => ?_)
              refine goes_ Tryd.func33 (by kernel_rfl) rfl #[.int .i64 ((rd_T50 y299 x17_1).f0)] (by rfl) rfl rfl ax24 ?_
              with_reducible refine (impl_letter.calls ((rd_T50 y299 x17_1).f0) t308 _ A19.out).mono ?_
              rintro e w30 ⟨rfl, hb⟩
              have HS3_ := (hb.cell (World.block_lt_of_cell? _ _ (hHeld.2.2.2))).trans (hHeld.2.2.2)
              refine ⟨_, rfl, ?_⟩
              have n0_ := Aside0.mk (Kd.R_below ax131 hb)
              have n1_ := Aside0.mk (blk_below (g := gb294) (o := .cells #[.slice A0_0 l0_0.length c0_0] 38 (0, 0)) ax130 hb)
              have n2_ := Aside0.mk (blk_below (g := gb304) (o := .cells #[.int .i64 ((rd_T50 y299 x17_1).f0), .int .i64 ((rd_T50 y299 x17_1).f1), .bool ((rd_T50 y299 x17_1).f2)] 50 (0, 0)) ax139 hb)
              have n3_ := Aside0.mk (below_step ax140 hb); clear HO_4; clear BK294; clear BK304; clear HB; have HO_4 := n0_; have BK294 := n1_; have BK304 := n2_; have HB := n3_; clear n0_ n1_ n2_ n3_; (try clear hb); (try clear hb2); (try clear hk); (try clear hi)
              refine hK.out _ _ ⟨(blk_cell BK304.out 0).trans rfl, (blk_cell BK304.out 1).trans rfl, (blk_cell BK304.out 2).trans rfl, HS3_⟩ (fun hHeld => ?_)
              clear hK K
              refine norm_ (a' := ?_) ?_ ?_
              rotate_left
              ·show Act.put _ (some 41) _ = _
               simp only [Act.put, List.setIfInBounds_toArray, List.set_cons_zero, List.set_cons_succ, i64_w, i32_w]
               rfl
              refine pure_ (i := 9) (N := some 42) (v := ?_) (a' := ?_) (ob 13 1023) rfl rfl (any_of HT_.out (by kernel_rfl)) (fun _ _ _ h => h) (Or.inl ⟨by rfl, ?_⟩) ?_ ?_; rotate_left; exact ax6; rotate_left; exact ax7
              refine last_ (i := 10) (N := some 43) (ob 13 2047) rfl rfl (one_of HT_.out (by kernel_rfl)) (by decide) (fun K hK => ?_)
              refine value_ (w1 := ?_) (v := ?_) (by rfl) rfl ?_ ?_
              rotate_left 2
              ·go_simp
               constructor
               ·rfl
               ·rfl
              refine hK.out _ _ ?_
              clear hK K
              refine norm_ (a' := ?_) ?_ ?_
              rotate_left
              ·exact ax10
              refine last_ (i := 11) (N := some 44) (ob 13 4095) rfl rfl (one_of HT_.out (by kernel_rfl)) (by decide) (fun K hK => ?_)
              refine Kd.R_append_step Kd.string (w0 := w) w.heap.size (by rfl) (.tmp 33) (.tmp 43) 32 9 (.string ⟨#[]⟩) 16 rfl Tryd.underlying32 info9 rfl (by decide) (by omega) (.slice (some ad307) x4_1.length co29) x4_1 js21 [.string js21] (fun _ => True) (fun _ => False) rfl rfl ?aP (fun _ hk => hk.elim) ?aF ?aO ?aB ?aS ?aL ?_
              (case aP => exact rfl)
              (case aB => exact ax140)
              (case aF => exact ax19)
              (case aO => exact ax131)
              (case aS => exact (below_size ax140))
              (case aL => have := LMc22.out; omega)
              intro v310 w31 ho hb hg hat
              rw [← Ny309.out] at ho
              have n0_ := Aside0.mk (blk_grown (g := gb294) (o := .cells #[.slice A0_0 l0_0.length c0_0] 38 (0, 0)) ax130 hg (Kd.R_ne HO_4.out BK294.out (by decide)))
              have n1_ := Aside0.mk (blk_grown (g := gb304) (o := .cells #[.int .i64 ((rd_T50 y299 x17_1).f0), .int .i64 ((rd_T50 y299 x17_1).f1), .bool ((rd_T50 y299 x17_1).f2)] 50 (0, 0)) ax139 hg (Kd.R_ne HO_4.out BK304.out (by decide)))
              have n2_ := Aside0.mk (hb); have n3_ := Aside0.mk (ho); clear BK294; clear BK304; clear HB; clear HO_4; have BK294 := n0_; have BK304 := n1_; have HB := n2_; have HO311 := n3_; clear n0_ n1_ n2_ n3_; clear ho hb hg hat
              refine hK.out _ _ ?_
              clear hK K
              refine norm_ (a' := ?_) ?_ ?_
              rotate_left
              ·show Act.put _ (some 44) _ = _
               simp only [Act.put, List.setIfInBounds_toArray, List.set_cons_zero, List.set_cons_succ, i64_w, i32_w]
               rfl
              refine pure_ (i := 12) (N := some 4) (v := ?_) (a' := ?_) (ob 13 8191) rfl rfl (any_of HT_.out (by kernel_rfl)) (fun _ _ _ h => h) (Or.inl ⟨by rfl, ?_⟩) ?_ ?_; rotate_left; exact ax6; rotate_left; exact ax7
              refine done_ (done_of HT_.out (by kernel_rfl)) ?_
              try go_wp2
              go_roundg k1
              case measure => have := HK1.out; omega
              case rel => exact ⟨(y309), (wrap64 (x17_1 + 1)), ax15, H', ⟨by have := HK1.out; omega⟩, ⟨by (with_reducible repeat (first | apply Kd.R_alloc | apply Kd.R_drewN | apply Kd.R_drew)); exact HO311.out⟩, ⟨by (with_reducible repeat (first | refine blk_drewN ?_ _ | refine blk_drew ?_ | refine blk_alloc ?_ _)); exact BK294.out⟩, ⟨by repeat (first | (with_reducible first | exact HB.out | apply below_alloc | apply pw_below_drewN | apply below_drew1 | refine below_set ?_ GE294.out | refine below_set ?_ GE304.out) | exact HB.out)⟩⟩
             ·rw [if_neg c22] at H
              exact absurd H (by simp)
            ·rw [if_neg c20] at H
             exact absurd H (by simp)
           ·rw [if_neg c18] at H
            exact absurd H (by simp)
          ·rw [if_neg c17] at H
           exact absurd H (by simp)
         ·replace c16 := Bool.eq_false_iff.mpr c16
          subst c16
          have H1 : (some (([] : List ByteArray), false)) = some (r1, r2) := by rw [if_neg (show ¬ (false = true) by decide)] at H; exact H
          clear H; have H := H1; clear H1
          simp only [Option.some.injEq, Prod.mk.injEq] at H
          obtain ⟨rfl, rfl⟩ := H
          have p303 : 0 ≤ (x17_1 : Int) := of_decide_eq_true ax16
          have q303 : x17_1 < (y299.length : Int) := of_decide_eq_true ax16
          obtain ⟨ad303, e303, hx303_0, hx303_1, hx303_2⟩ := at_T50 HR302.out x17_1 p303 q303
          cases e303; replace hx303_0 := (HB.out.cell (World.block_lt_of_cell? w _ hx303_0)).trans hx303_0; replace hx303_1 := (HB.out.cell (World.block_lt_of_cell? w _ hx303_1)).trans hx303_1; replace hx303_2 := (HB.out.cell (World.block_lt_of_cell? w _ hx303_2)).trans hx303_2; replace p303 := eq_true p303; replace q303 := eq_true q303
          go_wp2_with (first | ((with_reducible refine gate_dst (N := 6) rfl ?_); refine box_event ?hg (N := 6) ?hd (cs := #[.int .i64 0, .int .i64 0, .bool false]) (t := 50) ?hr ?_; (case hd => rfl); (case hg => rfl); (case hr => exact ax12); intro gb304 hg w32 hbox hb; have n0_ := Aside0.mk (Kd.R_below ax131 hb); have n1_ := Aside0.mk (blk_below (g := gb294) (o := .cells #[.slice A0_0 l0_0.length c0_0] 38 (0, 0)) ax130 hb); have n2_ := Aside0.mk (below_step ax129 hb); have n3_ := Aside0.mk (hbox); have n4_ := Aside0.mk ((ax132 : w.heap.size ≤ gb304)); have n5_ := Aside0.mk ((ax132 : w.heap.size ≤ gb304)); have n6_ := Aside0.mk ((ax133 : gb294 ≠ gb304)); have n7_ := Aside0.mk ((ax134 : gb304 ≠ gb294)); clear HO_4; clear BK294; clear HB; have HO_4 := n0_; have BK294 := n1_; have HB := n2_; have BK304 := n3_; have GW304 := n4_; have GE304 := n5_; have NB294_304 := n6_; have NB304_294 := n7_; clear n0_ n1_ n2_ n3_ n4_ n5_ n6_ n7_; clear hb hbox hg; have hnb33 := NB304_294.out; have hnc33 := NB294_304.out; have hcz34_0 : w32.cell? ⟨gb304, 0, none⟩ = some (.int .i64 0) := (blk_cell BK304.out 0).trans rfl; have hcz34_1 : w32.cell? ⟨gb304, 1, none⟩ = some (.int .i64 0) := (blk_cell BK304.out 1).trans rfl; have hcz34_2 : w32.cell? ⟨gb304, 2, none⟩ = some (.bool false) := (blk_cell BK304.out 2).trans rfl; have hfz34_0 := blk_frozen BK304.out 0; have hfz34_1 := blk_frozen BK304.out 1; have hfz34_2 := blk_frozen BK304.out 2) | ((with_reducible refine gate_store (t := 50) (p := 6) rfl ?_); refine store_event (t := 50) (p := 6) (v := ?vo_w35) (w1 := (((w32.setCell ⟨gb304, 0, none⟩ (.int .i64 ((rd_T50 y299 x17_1).f0))).setCell ⟨gb304, 1, none⟩ (.int .i64 ((rd_T50 y299 x17_1).f1))).setCell ⟨gb304, 2, none⟩ (.bool ((rd_T50 y299 x17_1).f2)))) ?hg ?ho ?hn ?hr ?_; (case ho => rfl); (case hg => rfl); (case hn => rfl); (case hr => exact ax12); intro w35 hw; have n0_ : Aside0 (Kd.R Kd.string 9 w35 w.heap.size (fun _ => True) u4 x4_1) := ⟨ax135⟩; have n1_ : Aside0 (w35.heap[gb294]? = some (.cells #[.slice A0_0 l0_0.length c0_0] 38 (0, 0))) := ⟨ax136⟩; have n2_ : Aside0 (w35.heap[gb304]? = some (.cells #[.int .i64 ((rd_T50 y299 x17_1).f0), .int .i64 ((rd_T50 y299 x17_1).f1), .bool ((rd_T50 y299 x17_1).f2)] 50 (0, 0))) := ⟨ax137⟩; have n3_ : Aside0 (Below w.heap.size w w35) := ⟨ax138⟩; clear hw; clear HO_4; clear BK294; clear BK304; clear HB; have HO_4 := n0_; have BK294 := n1_; have BK304 := n2_; have HB := n3_; clear n0_ n1_ n2_ n3_; have hcz36_0 : w35.cell? ⟨gb304, 0, none⟩ = some (.int .i64 ((rd_T50 y299 x17_1).f0)) := (blk_cell BK304.out 0).trans rfl; have hcz36_1 : w35.cell? ⟨gb304, 1, none⟩ = some (.int .i64 ((rd_T50 y299 x17_1).f1)) := (blk_cell BK304.out 1).trans rfl; have hcz36_2 : w35.cell? ⟨gb304, 2, none⟩ = some (.bool ((rd_T50 y299 x17_1).f2)) := (blk_cell BK304.out 2).trans rfl; have hfz36_0 := blk_frozen BK304.out 0; have hfz36_1 := blk_frozen BK304.out 1; have hfz36_2 := blk_frozen BK304.out 2) | ((with_reducible refine gate_callee (f := 16) rfl ?_); refine goesL_ (some 25) rfl rfl Tryd.func16 (by kernel_rfl) rfl #[.int .i64 ((rd_T50 y299 x17_1).f1), .int .i64 0, .int .i64 x17_1] rfl ax24 ?_; (with_reducible refine (impl_in.calls ((rd_T50 y299 x17_1).f1) 0 x17_1 true _ A13.out).mono ?_); rintro e w' ⟨rfl, ⟨nd, rfl⟩⟩; refine ⟨_, rfl, ?_⟩) | (go_at_call 16; (with_reducible refine (impl_in.calls ((rd_T50 y299 x17_1).f0) 0 25 false _ A15.out).mono ?_); rintro e w' ⟨rfl, ⟨nd, rfl⟩⟩))
          go_ret2
          exact ⟨_, by first | rfl | (simp [errW_none, errW_some] <;> rfl) | (simp [*, errW_none, errW_some] <;> rfl), by first | exact Kd.R_nil _ _ _ _ _ | exact Kd.N_nil _ _ _ _ _ | exact Kd.V_nil _ _ _ _ _ | exact Kd.Q_nil _ _ _ _ _ | exact Kd.S_nil _ _ _ _ _, by repeat (first | (with_reducible first | exact HB.out | apply below_alloc | apply pw_below_drewN | apply below_drew1 | refine below_set ?_ GE294.out | refine below_set ?_ GE304.out) | exact HB.out)⟩
        ·replace c14 := Bool.eq_false_iff.mpr c14
         subst c14
         have H1 : (some (([] : List ByteArray), false)) = some (r1, r2) := by rw [if_neg (show ¬ (false = true) by decide)] at H; exact H
         clear H; have H := H1; clear H1
         simp only [Option.some.injEq, Prod.mk.injEq] at H
         obtain ⟨rfl, rfl⟩ := H
         have p303 : 0 ≤ (x17_1 : Int) := of_decide_eq_true ax16
         have q303 : x17_1 < (y299.length : Int) := of_decide_eq_true ax16
         obtain ⟨ad303, e303, hx303_0, hx303_1, hx303_2⟩ := at_T50 HR302.out x17_1 p303 q303
         cases e303; replace hx303_0 := (HB.out.cell (World.block_lt_of_cell? w _ hx303_0)).trans hx303_0; replace hx303_1 := (HB.out.cell (World.block_lt_of_cell? w _ hx303_1)).trans hx303_1; replace hx303_2 := (HB.out.cell (World.block_lt_of_cell? w _ hx303_2)).trans hx303_2; replace p303 := eq_true p303; replace q303 := eq_true q303
         go_wp2_with (first | ((with_reducible refine gate_dst (N := 6) rfl ?_); refine box_event ?hg (N := 6) ?hd (cs := #[.int .i64 0, .int .i64 0, .bool false]) (t := 50) ?hr ?_; (case hd => rfl); (case hg => rfl); (case hr => exact ax12); intro gb304 hg w37 hbox hb; have n0_ := Aside0.mk (Kd.R_below ax131 hb); have n1_ := Aside0.mk (blk_below (g := gb294) (o := .cells #[.slice A0_0 l0_0.length c0_0] 38 (0, 0)) ax130 hb); have n2_ := Aside0.mk (below_step ax129 hb); have n3_ := Aside0.mk (hbox); have n4_ := Aside0.mk ((ax132 : w.heap.size ≤ gb304)); have n5_ := Aside0.mk ((ax132 : w.heap.size ≤ gb304)); have n6_ := Aside0.mk ((ax133 : gb294 ≠ gb304)); have n7_ := Aside0.mk ((ax134 : gb304 ≠ gb294)); clear HO_4; clear BK294; clear HB; have HO_4 := n0_; have BK294 := n1_; have HB := n2_; have BK304 := n3_; have GW304 := n4_; have GE304 := n5_; have NB294_304 := n6_; have NB304_294 := n7_; clear n0_ n1_ n2_ n3_ n4_ n5_ n6_ n7_; clear hb hbox hg; have hnb38 := NB304_294.out; have hnc38 := NB294_304.out; have hcz39_0 : w37.cell? ⟨gb304, 0, none⟩ = some (.int .i64 0) := (blk_cell BK304.out 0).trans rfl; have hcz39_1 : w37.cell? ⟨gb304, 1, none⟩ = some (.int .i64 0) := (blk_cell BK304.out 1).trans rfl; have hcz39_2 : w37.cell? ⟨gb304, 2, none⟩ = some (.bool false) := (blk_cell BK304.out 2).trans rfl; have hfz39_0 := blk_frozen BK304.out 0; have hfz39_1 := blk_frozen BK304.out 1; have hfz39_2 := blk_frozen BK304.out 2) | ((with_reducible refine gate_store (t := 50) (p := 6) rfl ?_); refine store_event (t := 50) (p := 6) (v := ?vo_w40) (w1 := (((w37.setCell ⟨gb304, 0, none⟩ (.int .i64 ((rd_T50 y299 x17_1).f0))).setCell ⟨gb304, 1, none⟩ (.int .i64 ((rd_T50 y299 x17_1).f1))).setCell ⟨gb304, 2, none⟩ (.bool ((rd_T50 y299 x17_1).f2)))) ?hg ?ho ?hn ?hr ?_; (case ho => rfl); (case hg => rfl); (case hn => rfl); (case hr => exact ax12); intro w40 hw; have n0_ : Aside0 (Kd.R Kd.string 9 w40 w.heap.size (fun _ => True) u4 x4_1) := ⟨ax135⟩; have n1_ : Aside0 (w40.heap[gb294]? = some (.cells #[.slice A0_0 l0_0.length c0_0] 38 (0, 0))) := ⟨ax136⟩; have n2_ : Aside0 (w40.heap[gb304]? = some (.cells #[.int .i64 ((rd_T50 y299 x17_1).f0), .int .i64 ((rd_T50 y299 x17_1).f1), .bool ((rd_T50 y299 x17_1).f2)] 50 (0, 0))) := ⟨ax137⟩; have n3_ : Aside0 (Below w.heap.size w w40) := ⟨ax138⟩; clear hw; clear HO_4; clear BK294; clear BK304; clear HB; have HO_4 := n0_; have BK294 := n1_; have BK304 := n2_; have HB := n3_; clear n0_ n1_ n2_ n3_; have hcz41_0 : w40.cell? ⟨gb304, 0, none⟩ = some (.int .i64 ((rd_T50 y299 x17_1).f0)) := (blk_cell BK304.out 0).trans rfl; have hcz41_1 : w40.cell? ⟨gb304, 1, none⟩ = some (.int .i64 ((rd_T50 y299 x17_1).f1)) := (blk_cell BK304.out 1).trans rfl; have hcz41_2 : w40.cell? ⟨gb304, 2, none⟩ = some (.bool ((rd_T50 y299 x17_1).f2)) := (blk_cell BK304.out 2).trans rfl; have hfz41_0 := blk_frozen BK304.out 0; have hfz41_1 := blk_frozen BK304.out 1; have hfz41_2 := blk_frozen BK304.out 2) | ((with_reducible refine gate_callee (f := 16) rfl ?_); refine goesL_ (some 25) rfl rfl Tryd.func16 (by kernel_rfl) rfl #[.int .i64 ((rd_T50 y299 x17_1).f1), .int .i64 0, .int .i64 x17_1] rfl ax24 ?_; (with_reducible refine (impl_in.calls ((rd_T50 y299 x17_1).f1) 0 x17_1 false _ A13.out).mono ?_); rintro e w' ⟨rfl, ⟨nd, rfl⟩⟩; refine ⟨_, rfl, ?_⟩))
         go_ret2
         exact ⟨_, by first | rfl | (simp [errW_none, errW_some] <;> rfl) | (simp [*, errW_none, errW_some] <;> rfl), by first | exact Kd.R_nil _ _ _ _ _ | exact Kd.N_nil _ _ _ _ _ | exact Kd.V_nil _ _ _ _ _ | exact Kd.Q_nil _ _ _ _ _ | exact Kd.S_nil _ _ _ _ _, by repeat (first | (with_reducible first | exact HB.out | apply below_alloc | apply pw_below_drewN | apply below_drew1 | refine below_set ?_ GE294.out | refine below_set ?_ GE304.out) | exact HB.out)⟩
       ·rw [if_neg c12] at H
        exact absurd H (by simp)
      ·exact ax3
     ·rw [if_neg c10] at H
      have c10b0 : decide (x17_1 < (y299.length : Int)) = false := decide_eq_false c10
      clear c10
      simp only [Option.some.injEq, Prod.mk.injEq] at H
      obtain ⟨rfl, rfl⟩ := H
      go_wp2
      go_ret2
      exact ⟨_, by first | rfl | (simp [errW_none, errW_some] <;> rfl) | (simp [*, errW_none, errW_some] <;> rfl), by (with_reducible repeat (first | apply Kd.R_alloc | apply Kd.R_drewN | apply Kd.R_drew)); exact HO_4.out, by repeat (first | (with_reducible first | exact HB.out | apply below_alloc | apply pw_below_drewN | apply below_drew1 | refine below_set ?_ GE294.out) | exact HB.out)⟩
  ·exact ax11
 ·replace c3 := Bool.eq_false_iff.mpr c3
  subst c3
  have H1 : (some (([] : List ByteArray), false)) = some (r1, r2) := by rw [if_neg (show ¬ (false = true) by decide)] at H; exact H
  clear H; have H := H1; clear H1
  simp only [Option.some.injEq, Prod.mk.injEq] at H
  obtain ⟨rfl, rfl⟩ := H
  go_enter Tryd.func17, Tryd.ntmps17
  go_wp2_with (first | ((with_reducible refine gate_dst (N := 1) rfl ?_); refine box_event ?hg (N := 1) ?hd (cs := #[.slice A0_0 l0_0.length c0_0]) (t := 38) ?hr ?_; (case hd => rfl); (case hg => rfl); (case hr => exact ax12); intro gb294 hg w42 hbox hb; have n0_ := Aside0.mk (below_step ax13 hb); have n1_ := Aside0.mk (hbox); have n2_ := Aside0.mk ((ax14 : w.heap.size ≤ gb294)); have n3_ := Aside0.mk ((ax14 : w.heap.size ≤ gb294)); clear HB; have HB := n0_; have BK294 := n1_; have GW294 := n2_; have GE294 := n3_; clear n0_ n1_ n2_ n3_; clear hb hbox hg) | ((with_reducible refine gate_dst (N := 7) rfl ?_); refine Kd.R_lit Kd.string _ 9 ?hg (N := 7) ?hd (xs := ([(⟨#[]⟩ : ByteArray)] : List ByteArray)) (inner := [.string (⟨#[]⟩ : ByteArray)]) (ok := fun _ => True) (okp := fun _ => True) ?hr ?hp (fun _ hk => hk) trivial (Below.refl _ _) (Nat.le_refl _) (by simp) ?_; (case hd => rfl); (case hg => rfl); (case hr => exact ax12); (case hp => exact ax53); intro v296 w43 ho44 hb hg_ hnew_; clear hg_ hnew_; (first | rw [← Ny295.out] at ho44 | (simp only [Int.reduceToNat] at ho44; rw [← Ny295.out] at ho44)); have n0_ := Aside0.mk (Kd.R_lower ho44 (below_size ax129)); have n1_ := Aside0.mk (blk_below (g := gb294) (o := .cells #[.slice A0_0 l0_0.length c0_0] 38 (0, 0)) ax130 hb); have n2_ := Aside0.mk (below_step ax129 hb); clear BK294; clear HB; have HO297 := n0_; have BK294 := n1_; have HB := n2_; clear n0_ n1_ n2_; clear hb ho44; have hcz45_0 : w43.cell? ⟨gb294, 0, none⟩ = some (.slice A0_0 l0_0.length c0_0) := (blk_cell BK294.out 0).trans rfl; have hfz45_0 := blk_frozen BK294.out 0) | ((with_reducible refine gate_callee (f := 16) rfl ?_); refine goesL_ (some 11) rfl rfl Tryd.func16 (by kernel_rfl) rfl #[.int .i64 (l0_0.length : Int), .int .i64 1, .int .i64 481] rfl ax24 ?_; (with_reducible refine (impl_in.calls (l0_0.length : Int) 1 481 false _ A2.out).mono ?_); rintro e w' ⟨rfl, ⟨nd, rfl⟩⟩; refine ⟨_, rfl, ?_⟩))
  go_ret2
  exact ⟨_, by first | rfl | (simp [errW_none, errW_some] <;> rfl) | (simp [*, errW_none, errW_some] <;> rfl), by first | exact Kd.R_nil _ _ _ _ _ | exact Kd.N_nil _ _ _ _ _ | exact Kd.V_nil _ _ _ _ _ | exact Kd.Q_nil _ _ _ _ _ | exact Kd.S_nil _ _ _ _ _, by repeat (first | (with_reducible first | exact HB.out | apply below_alloc | apply pw_below_drewN | apply below_drew1 | refine below_set ?_ GE294.out) | exact HB.out)⟩

/-! ### slices_Index_string_string: function 34 -/
def slices_Index_string_string.l0 : Nat → List ByteArray → ByteArray → Int → Int → Option (Int)
 | 0, _, _, _, _ => none
 | k + 1, x0, x1, x7, x8 => if x8 < x7 then (if 0 ≤ x8 then (if x8 < (x0.length : Int) then (if x1.toList = (rdOf ByteArray.empty x0 x8).toList then (some x8) else (slices_Index_string_string.l0 k x0 x1 x7 (wrap64 (x8 + 1)))) else (none)) else (none)) else (some (-1))
def slices_Index_string_string.f (k : Nat) (l0 : List ByteArray) (a1 : ByteArray) : Option (Int) := slices_Index_string_string.l0 k l0 a1 (l0.length : Int) 0
theorem slices_Index_string_string.mono_l : ∀ k, (∀ y0 y1 y2 y3, LeO (slices_Index_string_string.l0 k y0 y1 y2 y3) (slices_Index_string_string.l0 (k + 1) y0 y1 y2 y3))
 | 0 => fun _ _ _ _ r h => by simp [slices_Index_string_string.l0] at h
 | k + 1 => by
  have ih0 := slices_Index_string_string.mono_l k
  ·intro y0 y1 y2 y3
   unfold slices_Index_string_string.l0
   repeat' first
   | (with_reducible exact ih0 _ _ _ _)
   | (with_reducible exact LeO.refl _)
   | (with_reducible exact LeO.none _)
   | (with_reducible refine LeO.ite ?_ ?_)
   | (with_reducible refine LeO.bind ?_ (fun _ => ?_))
   | exact ih0 _ _ _ _
   | exact LeO.none _
   | refine LeO.ite ?_ ?_
   | refine LeO.bind ?_ (fun _ => ?_)
theorem slices_Index_string_string.mono : ∀ a0 a1 k, LeO (slices_Index_string_string.f k a0 a1) (slices_Index_string_string.f (k + 1) a0 a1) := by
 intro a0 a1 k
 have ih0 := slices_Index_string_string.mono_l k
 unfold slices_Index_string_string.f
 repeat' first
   | (with_reducible exact ih0 _ _ _ _)
   | (with_reducible exact LeO.refl _)
   | (with_reducible exact LeO.none _)
   | (with_reducible refine LeO.ite ?_ ?_)
   | (with_reducible refine LeO.bind ?_ (fun _ => ?_))
   | exact ih0 _ _ _ _
   | exact LeO.none _
   | refine LeO.ite ?_ ?_
   | refine LeO.bind ?_ (fun _ => ?_)
set_option maxHeartbeats 8000000 in
set_option maxRecDepth 100000 in
theorem slices_Index_string_string.calls (k : Nat) (A0 : Option Addr) (c0 : Nat) (l0 : List ByteArray) (a1 : ByteArray) (r : Int) (w : World) (hr0 : Kd.C Kd.string w A0 l0.length l0) (hc0 : l0.length ≤ c0) (h : slices_Index_string_string.f k l0 a1 = some r) :
  Calls Tryd.prog 34 #[.slice A0 l0.length c0, .string a1] w fun e w' => e = .returned (.int .i64 r) ∧ Drawn0 w w' := by
 have HR0 := Aside0.mk hr0; have HC0 := Aside0.mk hc0; clear hr0 hc0
 have H : (slices_Index_string_string.l0 k l0 a1 (l0.length : Int) 0) = some r := h
 clear h
 have H' := Aside0.mk H
 clear H
 go_enter Tryd.func34, Tryd.ntmps34
 go_wp2
 go_loopg [8] k (fun kq v8 w' => ∃ (x8_1 : Int), v8 = .int .i64 x8_1 ∧ Aside0 (slices_Index_string_string.l0 kq l0 a1 (l0.length : Int) x8_1 = some r) ∧ Aside0 (kq ≤ k) ∧ Drawn0 w w')
 case atStart => exact ⟨(0), ax15, H', ⟨Nat.le_refl _⟩, by repeat (first | exact Drawn0.refl _ | apply Drawn0.step)⟩
 case round =>
  clear H'
  try clear p2
  obtain ⟨x8_1, rfl, HA, HK1, ⟨m1, rfl⟩⟩ := hrel
  cases gk with
  | zero => exact absurd HA.out (by simp [slices_Index_string_string.l0])
  | succ k1 =>
   have H := HA.out; clear HA
   simp only [slices_Index_string_string.l0] at H
   by_cases c3 : x8_1 < (l0.length : Int)
   ·rw [if_pos c3] at H
    have c3b0 : decide (x8_1 < (l0.length : Int)) = true := decide_eq_true c3
    clear c3
    by_cases c4 : 0 ≤ x8_1
    ·rw [if_pos c4] at H
     have c4b0 : decide (0 ≤ x8_1) = true := decide_eq_true c4
     clear c4
     by_cases c5 : x8_1 < (l0.length : Int)
     ·rw [if_pos c5] at H
      have c5b0 : decide (x8_1 < (l0.length : Int)) = true := decide_eq_true c5
      clear c5
      by_cases c6 : a1.toList = (rdOf ByteArray.empty l0 x8_1).toList
      ·rw [if_pos c6] at H
       have c6b0 : (a1.toList == (rdOf ByteArray.empty l0 x8_1).toList) = true := beq_iff_eq.mpr c6
       have c6b1 : (a1.toList != (rdOf ByteArray.empty l0 x8_1).toList) = false := bne_eq_false_iff_eq.mpr c6
       clear c6
       obtain rfl := Option.some.inj H
       have p312 : 0 ≤ (x8_1 : Int) := of_decide_eq_true ax16
       have q312 : x8_1 < (l0.length : Int) := of_decide_eq_true ax16
       obtain ⟨ad312, e312, hx312_0⟩ := Kd.at_string HR0.out x8_1 p312 q312
       cases e312; replace p312 := eq_true p312; replace q312 := eq_true q312
       go_wp2
       go_ret
       exact ⟨by first | rfl | (simp; done) | (simp [*]; done), by repeat (first | exact Drawn0.refl _ | apply Drawn0.step)⟩
      ·rw [if_neg c6] at H
       have c6b0 : (a1.toList == (rdOf ByteArray.empty l0 x8_1).toList) = false := beq_eq_false_iff_ne.mpr c6
       have c6b1 : (a1.toList != (rdOf ByteArray.empty l0 x8_1).toList) = true := bne_iff_ne.mpr c6
       have H' := Aside0.mk H
       clear H
       have p312 : 0 ≤ (x8_1 : Int) := of_decide_eq_true ax16
       have q312 : x8_1 < (l0.length : Int) := of_decide_eq_true ax16
       obtain ⟨ad312, e312, hx312_0⟩ := Kd.at_string HR0.out x8_1 p312 q312
       cases e312; replace p312 := eq_true p312; replace q312 := eq_true q312
       go_wp2
       go_roundg k1
       case measure => have := HK1.out; omega
       case rel => exact ⟨(wrap64 (x8_1 + 1)), ax15, H', ⟨by have := HK1.out; omega⟩, by repeat (first | exact Drawn0.refl _ | apply Drawn0.step)⟩
     ·exact ax2
    ·exact ax11
   ·rw [if_neg c3] at H
    have c3b0 : decide (x8_1 < (l0.length : Int)) = false := decide_eq_false c3
    clear c3
    obtain rfl := Option.some.inj H
    go_wp2
    go_ret
    exact ⟨by first | rfl | (simp; done) | (simp [*]; done), by repeat (first | exact Drawn0.refl _ | apply Drawn0.step)⟩

end Go.Proofs.YtmecniejpoopfaaDoor.X

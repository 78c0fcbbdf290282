-- By gen.py (the session's own program over the kit's printer): functions of the program, each with its contract. Lean checks it.
import Derived.Test.YtmecniejpoopfaaGreatDoorX0
import Derived.Test.YtmecniejpoopfaaGreatDoorX9
import Derived.Test.YtmecniejpoopfaaGreatDoorX12
import Derived.Test.YtmecniejpoopfaaGreatDoorX16
import Derived.Test.YtmecniejpoopfaaGreatDoorX17
namespace Go.Proofs.YtmecniejpoopfaaGreatDoor.X
open Go.RowKit Go.Proofs.YtmecniejpoopfaaGreatDoorW.PrintWords Go.Proofs.YtmecniejpoopfaaGreatDoorW.PrintLast Go.Proofs.YtmecniejpoopfaaGreatDoorW.PrintMore
attribute [local go_sem] max2_int min2_int max_two min_two max_three min_three max_four min_four   -- for this text's walks alone
set_option linter.unusedVariables false
set_option linter.unusedSimpArgs false

/-! ### laws_FnExactTrieOfBook: function 5 -/
mutual
def laws_FnExactTrieOfBook.j0 : Nat → Bool → Bool → ByteArray → ByteArray → Int → List (S105) → List (S105) → Option (Bool)
 | 0, _, _, _, _, _, _, _ => none
 | k + 1, x5, x37, x451000, x451001, x451002, x460000, x468000 => if x37 = true then (some false) else ((laws_markTrie.f k x468000 1).bind fun bt469 => ((laws_heldTrie.f k bt469.2 1).bind fun t471 => (if t471 < 0 then (some false) else (if t471 = bt469.1 then ((laws_toBook.f x451000 x451001 x451002).bind fun bt472 => ((impl_TrieOfBook.f k bt472.1 bt472.2.1 bt472.2.2).bind fun bt475 => ((laws_eqTrie.f k bt475.1 x460000).bind fun t480 => (if t480 = true then (laws_FnExactTrieOfBook.j1 k bt469.1 (bt475.2 != x5) bt469.2) else (laws_FnExactTrieOfBook.j1 k bt469.1 true bt469.2))))) else (some false)))))
def laws_FnExactTrieOfBook.j1 : Nat → Int → Bool → List (S105) → Option (Bool)
 | 0, _, _, _ => none
 | k + 1, x8, x63, x468000 => if x63 = true then (some false) else ((laws_heldTrie.f k x468000 1).bind fun t481 => (if t481 < 0 then (some false) else (if t481 = x8 then (some true) else (some false))))
end
def laws_FnExactTrieOfBook.f (k : Nat) (a0_0 : ByteArray) (a0_1 : ByteArray) (a0_2 : Int) : Option (Bool) := (laws_szBook.f a0_0 a0_1 a0_2 1048576).bind fun t451 => (if t451 < 0 then (some true) else ((laws_toBook.f a0_0 a0_1 a0_2).bind fun bt452 => ((spec_TrieOfBook.f k bt452.1 bt452.2.1 bt452.2.2).bind fun bt455 => ((laws_toBook.f a0_0 a0_1 a0_2).bind fun bt460 => ((impl_TrieOfBook.f k bt460.1 bt460.2.1 bt460.2.2).bind fun bt463 => ((laws_eqTrie.f k bt463.1 bt455.1).bind fun t468 => (if t468 = true then (laws_FnExactTrieOfBook.j0 k bt455.2 (bt463.2 != bt455.2) a0_0 a0_1 a0_2 bt455.1 bt463.1) else (laws_FnExactTrieOfBook.j0 k bt455.2 true a0_0 a0_1 a0_2 bt455.1 bt463.1))))))))
theorem laws_FnExactTrieOfBook.mono_l : ∀ k, (∀ y0 y1 y2 y3 y4 y5 y6, LeO (laws_FnExactTrieOfBook.j0 k y0 y1 y2 y3 y4 y5 y6) (laws_FnExactTrieOfBook.j0 (k + 1) y0 y1 y2 y3 y4 y5 y6)) ∧ (∀ y0 y1 y2, LeO (laws_FnExactTrieOfBook.j1 k y0 y1 y2) (laws_FnExactTrieOfBook.j1 (k + 1) y0 y1 y2))
 | 0 => ⟨fun _ _ _ _ _ _ _ r h => by simp [laws_FnExactTrieOfBook.j0] at h, fun _ _ _ r h => by simp [laws_FnExactTrieOfBook.j1] at h⟩
 | k + 1 => by
  obtain ⟨ih0, ih1⟩ := laws_FnExactTrieOfBook.mono_l k
  refine ⟨?_, ?_⟩
  ·intro y0 y1 y2 y3 y4 y5 y6
   unfold laws_FnExactTrieOfBook.j0
   repeat' first
   | (with_reducible exact ih0 _ _ _ _ _ _ _)
   | (with_reducible exact ih1 _ _ _)
   | (with_reducible exact impl_TrieOfBook.mono _ _ _ _)
   | (with_reducible exact laws_eqTrie.mono _ _ _)
   | (with_reducible exact laws_heldTrie.mono _ _ _)
   | (with_reducible exact laws_markTrie.mono _ _ _)
   | (with_reducible exact spec_TrieOfBook.mono _ _ _ _)
   | (with_reducible exact LeO.refl _)
   | (with_reducible exact LeO.none _)
   | (with_reducible refine LeO.ite ?_ ?_)
   | (with_reducible refine LeO.bind ?_ (fun _ => ?_))
   | exact ih0 _ _ _ _ _ _ _
   | exact ih1 _ _ _
   | exact impl_TrieOfBook.mono _ _ _ _
   | exact laws_eqTrie.mono _ _ _
   | exact laws_heldTrie.mono _ _ _
   | exact laws_markTrie.mono _ _ _
   | exact spec_TrieOfBook.mono _ _ _ _
   | exact LeO.none _
   | refine LeO.ite ?_ ?_
   | refine LeO.bind ?_ (fun _ => ?_)
  ·intro y0 y1 y2
   unfold laws_FnExactTrieOfBook.j1
   repeat' first
   | (with_reducible exact ih0 _ _ _ _ _ _ _)
   | (with_reducible exact ih1 _ _ _)
   | (with_reducible exact impl_TrieOfBook.mono _ _ _ _)
   | (with_reducible exact laws_eqTrie.mono _ _ _)
   | (with_reducible exact laws_heldTrie.mono _ _ _)
   | (with_reducible exact laws_markTrie.mono _ _ _)
   | (with_reducible exact spec_TrieOfBook.mono _ _ _ _)
   | (with_reducible exact LeO.refl _)
   | (with_reducible exact LeO.none _)
   | (with_reducible refine LeO.ite ?_ ?_)
   | (with_reducible refine LeO.bind ?_ (fun _ => ?_))
   | exact ih0 _ _ _ _ _ _ _
   | exact ih1 _ _ _
   | exact impl_TrieOfBook.mono _ _ _ _
   | exact laws_eqTrie.mono _ _ _
   | exact laws_heldTrie.mono _ _ _
   | exact laws_markTrie.mono _ _ _
   | exact spec_TrieOfBook.mono _ _ _ _
   | exact LeO.none _
   | refine LeO.ite ?_ ?_
   | refine LeO.bind ?_ (fun _ => ?_)
theorem laws_FnExactTrieOfBook.mono : ∀ a0 a1 a2 k, LeO (laws_FnExactTrieOfBook.f k a0 a1 a2) (laws_FnExactTrieOfBook.f (k + 1) a0 a1 a2) := by
 intro a0 a1 a2 k
 obtain ⟨ih0, ih1⟩ := laws_FnExactTrieOfBook.mono_l k
 unfold laws_FnExactTrieOfBook.f
 repeat' first
   | (with_reducible exact ih0 _ _ _ _ _ _ _)
   | (with_reducible exact ih1 _ _ _)
   | (with_reducible exact impl_TrieOfBook.mono _ _ _ _)
   | (with_reducible exact laws_eqTrie.mono _ _ _)
   | (with_reducible exact laws_heldTrie.mono _ _ _)
   | (with_reducible exact laws_markTrie.mono _ _ _)
   | (with_reducible exact spec_TrieOfBook.mono _ _ _ _)
   | (with_reducible exact LeO.refl _)
   | (with_reducible exact LeO.none _)
   | (with_reducible refine LeO.ite ?_ ?_)
   | (with_reducible refine LeO.bind ?_ (fun _ => ?_))
   | exact ih0 _ _ _ _ _ _ _
   | exact ih1 _ _ _
   | exact impl_TrieOfBook.mono _ _ _ _
   | exact laws_eqTrie.mono _ _ _
   | exact laws_heldTrie.mono _ _ _
   | exact laws_markTrie.mono _ _ _
   | exact spec_TrieOfBook.mono _ _ _ _
   | exact LeO.none _
   | refine LeO.ite ?_ ?_
   | refine LeO.bind ?_ (fun _ => ?_)
set_option maxHeartbeats 8000000 in
set_option maxRecDepth 100000 in
theorem laws_FnExactTrieOfBook.calls (k : Nat) (a0_0 : ByteArray) (a0_1 : ByteArray) (a0_2 : Int) (r : Bool) (w : World) (hG : GL w) (h : laws_FnExactTrieOfBook.f k a0_0 a0_1 a0_2 = some r) (hr_ : r = true) :
  Calls Tryz.prog 5 #[.agg #[.string a0_0, .string a0_1, .int .i64 a0_2]] w fun e w' => e = .returned (.bool r) ∧ Below w.heap.size w w' := by
 have hu32 := Tryz.underlying32; have hu45 := Tryz.underlying45; have HB := Aside0.mk (Below.refl w.heap.size w); have HG := Aside0.mk hG; clear hG; have HRT := Aside0.mk hr_; clear hr_
 have H : ((laws_szBook.f a0_0 a0_1 a0_2 1048576).bind fun t451 => (if t451 < 0 then (some true) else ((laws_toBook.f a0_0 a0_1 a0_2).bind fun bt452 => ((spec_TrieOfBook.f k bt452.1 bt452.2.1 bt452.2.2).bind fun bt455 => ((laws_toBook.f a0_0 a0_1 a0_2).bind fun bt460 => ((impl_TrieOfBook.f k bt460.1 bt460.2.1 bt460.2.2).bind fun bt463 => ((laws_eqTrie.f k bt463.1 bt455.1).bind fun t468 => (if t468 = true then (laws_FnExactTrieOfBook.j0 k bt455.2 (bt463.2 != bt455.2) a0_0 a0_1 a0_2 bt455.1 bt463.1) else (laws_FnExactTrieOfBook.j0 k bt455.2 true a0_0 a0_1 a0_2 bt455.1 bt463.1))))))))) = some r := h
 clear h; replace H := Option.bind_eq_some_iff.mp H
 obtain ⟨t451, A20, H⟩ := H
 replace H : (if t451 < 0 then (some true) else ((laws_toBook.f a0_0 a0_1 a0_2).bind fun bt452 => ((spec_TrieOfBook.f k bt452.1 bt452.2.1 bt452.2.2).bind fun bt455 => ((laws_toBook.f a0_0 a0_1 a0_2).bind fun bt460 => ((impl_TrieOfBook.f k bt460.1 bt460.2.1 bt460.2.2).bind fun bt463 => ((laws_eqTrie.f k bt463.1 bt455.1).bind fun t468 => (if t468 = true then (laws_FnExactTrieOfBook.j0 k bt455.2 (bt463.2 != bt455.2) a0_0 a0_1 a0_2 bt455.1 bt463.1) else (laws_FnExactTrieOfBook.j0 k bt455.2 true a0_0 a0_1 a0_2 bt455.1 bt463.1)))))))) = some r := H
 have A2 := Aside0.mk A20; clear A20
 by_cases c3 : t451 < 0
 ·rw [if_pos c3] at H
  have c3b0 : decide (t451 < 0) = true := decide_eq_true c3
  clear c3
  obtain rfl := Option.some.inj H
  go_enter Tryz.func5, Tryz.ntmps5
  go_wp2_with (first | ((with_reducible refine gate_dst (N := 1) rfl ?_); refine box_event ?hg (N := 1) ?hd (cs := #[.string a0_0, .string a0_1, .int .i64 a0_2]) (t := 32) ?hr ?_; (case hd => rfl); (case hg => rfl); (case hr => exact ax23); intro gb450 hg w4 hbox hb; have n0_ := Aside0.mk (below_step ax25 hb); have n1_ := Aside0.mk (hbox); have n2_ := Aside0.mk ((ax54 : w.heap.size ≤ gb450)); have n3_ := Aside0.mk ((ax54 : w.heap.size ≤ gb450)); clear HB; have HB := n0_; have BK450 := n1_; have GW450 := n2_; have GE450 := n3_; clear n0_ n1_ n2_ n3_; clear hb hbox hg; have hcz5_0 : w4.cell? ⟨gb450, 0, none⟩ = some (.string a0_0) := (blk_cell BK450.out 0).trans rfl; have hcz5_1 : w4.cell? ⟨gb450, 1, none⟩ = some (.string a0_1) := (blk_cell BK450.out 1).trans rfl; have hcz5_2 : w4.cell? ⟨gb450, 2, none⟩ = some (.int .i64 a0_2) := (blk_cell BK450.out 2).trans rfl; have hfz5_0 := blk_frozen BK450.out 0; have hfz5_1 := blk_frozen BK450.out 1; have hfz5_2 := blk_frozen BK450.out 2) | ((with_reducible refine gate_callee (f := 14) rfl ?_); refine goesL_ (some 14) rfl rfl Tryz.func14 (by kernel_rfl) rfl #[.agg #[.string a0_0, .string a0_1, .int .i64 a0_2], .int .i64 1048576] rfl ax31 ?_; (with_reducible refine (laws_szBook.calls a0_0 a0_1 a0_2 1048576 t451 _ A2.out).mono ?_); rintro e w6 ⟨rfl, hb⟩; refine ⟨_, rfl, ?_⟩; have n0_ := Aside0.mk (blk_below (g := gb450) (o := .cells #[.string a0_0, .string a0_1, .int .i64 a0_2] 32 (0, 0)) ax269 hb); have n1_ := Aside0.mk (below_step ax270 hb); clear BK450; clear HB; have BK450 := n0_; have HB := n1_; clear n0_ n1_; (try clear hb); (try clear hb2); (try clear hk); (try clear hi)))
  go_ret
  exact ⟨by first | rfl | (simp [errW_none, errW_some] <;> rfl) | (simp [*, errW_none, errW_some] <;> rfl), by repeat (first | (with_reducible first | exact HB.out | apply below_alloc | apply pw_below_drewN | apply below_drew1 | refine below_set ?_ GE450.out) | exact HB.out)⟩
 ·rw [if_neg c3] at H
  have c3b0 : decide (t451 < 0) = false := decide_eq_false c3
  clear c3; replace H := Option.bind_eq_some_iff.mp H
  obtain ⟨⟨t452, t453, t454⟩, A70, H⟩ := H
  replace H : ((spec_TrieOfBook.f k t452 t453 t454).bind fun bt455 => ((laws_toBook.f a0_0 a0_1 a0_2).bind fun bt460 => ((impl_TrieOfBook.f k bt460.1 bt460.2.1 bt460.2.2).bind fun bt463 => ((laws_eqTrie.f k bt463.1 bt455.1).bind fun t468 => (if t468 = true then (laws_FnExactTrieOfBook.j0 k bt455.2 (bt463.2 != bt455.2) a0_0 a0_1 a0_2 bt455.1 bt463.1) else (laws_FnExactTrieOfBook.j0 k bt455.2 true a0_0 a0_1 a0_2 bt455.1 bt463.1)))))) = some r := H
  have A7 := Aside0.mk A70; clear A70; replace H := Option.bind_eq_some_iff.mp H
  obtain ⟨⟨t455, t458⟩, A80, H⟩ := H
  replace H : ((laws_toBook.f a0_0 a0_1 a0_2).bind fun bt460 => ((impl_TrieOfBook.f k bt460.1 bt460.2.1 bt460.2.2).bind fun bt463 => ((laws_eqTrie.f k bt463.1 t455).bind fun t468 => (if t468 = true then (laws_FnExactTrieOfBook.j0 k t458 (bt463.2 != t458) a0_0 a0_1 a0_2 t455 bt463.1) else (laws_FnExactTrieOfBook.j0 k t458 true a0_0 a0_1 a0_2 t455 bt463.1))))) = some r := H
  have A8 := Aside0.mk A80; clear A80; replace H := Option.bind_eq_some_iff.mp H
  obtain ⟨⟨t460, t461, t462⟩, A90, H⟩ := H
  replace H : ((impl_TrieOfBook.f k t460 t461 t462).bind fun bt463 => ((laws_eqTrie.f k bt463.1 t455).bind fun t468 => (if t468 = true then (laws_FnExactTrieOfBook.j0 k t458 (bt463.2 != t458) a0_0 a0_1 a0_2 t455 bt463.1) else (laws_FnExactTrieOfBook.j0 k t458 true a0_0 a0_1 a0_2 t455 bt463.1)))) = some r := H
  have A9 := Aside0.mk A90; clear A90; replace H := Option.bind_eq_some_iff.mp H
  obtain ⟨⟨t463, t466⟩, A100, H⟩ := H
  replace H : ((laws_eqTrie.f k t463 t455).bind fun t468 => (if t468 = true then (laws_FnExactTrieOfBook.j0 k t458 (t466 != t458) a0_0 a0_1 a0_2 t455 t463) else (laws_FnExactTrieOfBook.j0 k t458 true a0_0 a0_1 a0_2 t455 t463))) = some r := H
  have A10 := Aside0.mk A100; clear A100; have HC11 := Aside0.mk H; clear H
  go_enter Tryz.func5, Tryz.ntmps5
  go_upto_region 7 with (first | ((with_reducible refine gate_dst (N := 1) rfl ?_); refine box_event ?hg (N := 1) ?hd (cs := #[.string a0_0, .string a0_1, .int .i64 a0_2]) (t := 32) ?hr ?_; (case hd => rfl); (case hg => rfl); (case hr => exact ax23); intro gb450 hg w12 hbox hb; have n0_ := Aside0.mk (below_step ax25 hb); have n1_ := Aside0.mk (hbox); have n2_ := Aside0.mk ((ax54 : w.heap.size ≤ gb450)); have n3_ := Aside0.mk ((ax54 : w.heap.size ≤ gb450)); clear HB; have HB := n0_; have BK450 := n1_; have GW450 := n2_; have GE450 := n3_; clear n0_ n1_ n2_ n3_; clear hb hbox hg; have hcz13_0 : w12.cell? ⟨gb450, 0, none⟩ = some (.string a0_0) := (blk_cell BK450.out 0).trans rfl; have hcz13_1 : w12.cell? ⟨gb450, 1, none⟩ = some (.string a0_1) := (blk_cell BK450.out 1).trans rfl; have hcz13_2 : w12.cell? ⟨gb450, 2, none⟩ = some (.int .i64 a0_2) := (blk_cell BK450.out 2).trans rfl; have hfz13_0 := blk_frozen BK450.out 0; have hfz13_1 := blk_frozen BK450.out 1; have hfz13_2 := blk_frozen BK450.out 2) | ((with_reducible refine gate_callee (f := 14) rfl ?_); refine goesL_ (some 14) rfl rfl Tryz.func14 (by kernel_rfl) rfl #[.agg #[.string a0_0, .string a0_1, .int .i64 a0_2], .int .i64 1048576] rfl ax31 ?_; (with_reducible refine (laws_szBook.calls a0_0 a0_1 a0_2 1048576 t451 _ A2.out).mono ?_); rintro e w14 ⟨rfl, hb⟩; refine ⟨_, rfl, ?_⟩; have n0_ := Aside0.mk (blk_below (g := gb450) (o := .cells #[.string a0_0, .string a0_1, .int .i64 a0_2] 32 (0, 0)) ax269 hb); have n1_ := Aside0.mk (below_step ax270 hb); clear BK450; clear HB; have BK450 := n0_; have HB := n1_; clear n0_ n1_; (try clear hb); (try clear hb2); (try clear hk); (try clear hi); have hcz15_0 : w14.cell? ⟨gb450, 0, none⟩ = some (.string a0_0) := (blk_cell BK450.out 0).trans rfl; have hcz15_1 : w14.cell? ⟨gb450, 1, none⟩ = some (.string a0_1) := (blk_cell BK450.out 1).trans rfl; have hcz15_2 : w14.cell? ⟨gb450, 2, none⟩ = some (.int .i64 a0_2) := (blk_cell BK450.out 2).trans rfl; have hfz15_0 := blk_frozen BK450.out 0; have hfz15_1 := blk_frozen BK450.out 1; have hfz15_2 := blk_frozen BK450.out 2) | ((with_reducible refine gate_callee (f := 16) rfl ?_); refine goesL_ (some 19) rfl rfl Tryz.func16 (by kernel_rfl) rfl #[.agg #[.string a0_0, .string a0_1, .int .i64 a0_2]] rfl ax31 ?_; (with_reducible refine (laws_toBook.calls a0_0 a0_1 a0_2 t452 t453 t454 _ A7.out).mono ?_); rintro e w16 ⟨rfl, hb⟩; refine ⟨_, rfl, ?_⟩; have n0_ := Aside0.mk (blk_below (g := gb450) (o := .cells #[.string a0_0, .string a0_1, .int .i64 a0_2] 32 (0, 0)) ax269 hb); have n1_ := Aside0.mk (below_step ax270 hb); clear BK450; clear HB; have BK450 := n0_; have HB := n1_; clear n0_ n1_; (try clear hb); (try clear hb2); (try clear hk); (try clear hi)) | ((with_reducible refine gate_callee (f := 19) rfl ?_); refine goesL_ (some 20) rfl rfl Tryz.func19 (by kernel_rfl) rfl #[.agg #[.string t452, .string t453, .int .i64 t454]] rfl ax31 ?_; (with_reducible refine (spec_TrieOfBook.calls k t452 t453 t454 t455 t458 _ A8.out).mono ?_); rintro e w17 ⟨v456, rfl, ho0, hb⟩; refine ⟨_, rfl, ?_⟩; have n0_ := Aside0.mk (Kd.R_lower ho0 (below_size ax270)); have n1_ := Aside0.mk (blk_below (g := gb450) (o := .cells #[.string a0_0, .string a0_1, .int .i64 a0_2] 32 (0, 0)) ax269 hb); have n2_ := Aside0.mk (below_step ax270 hb); clear BK450; clear HB; have HO457 := n0_; have BK450 := n1_; have HB := n2_; clear n0_ n1_ n2_; (try clear hb); (try clear hb2); (try clear hk); (try clear hi); (try clear ho0)) | ((with_reducible refine gate_dst (N := 4) rfl ?_); refine box_event ?hg (N := 4) ?hd (cs := #[.slice none 0 0]) (t := 45) ?hr ?_; (case hd => rfl); (case hg => rfl); (case hr => exact ax23); intro gb459 hg w18 hbox hb; have n0_ := Aside0.mk (Kd.R_below ax271 hb); have n1_ := Aside0.mk (blk_below (g := gb450) (o := .cells #[.string a0_0, .string a0_1, .int .i64 a0_2] 32 (0, 0)) ax269 hb); have n2_ := Aside0.mk (below_step ax270 hb); have n3_ := Aside0.mk (hbox); have n4_ := Aside0.mk ((ax272 : w.heap.size ≤ gb459)); have n5_ := Aside0.mk ((ax272 : w.heap.size ≤ gb459)); have n6_ := Aside0.mk ((ax273 : gb450 ≠ gb459)); have n7_ := Aside0.mk ((ax274 : gb459 ≠ gb450)); clear HO457; clear BK450; clear HB; have HO457 := n0_; have BK450 := n1_; have HB := n2_; have BK459 := n3_; have GW459 := n4_; have GE459 := n5_; have NB450_459 := n6_; have NB459_450 := n7_; clear n0_ n1_ n2_ n3_ n4_ n5_ n6_ n7_; clear hb hbox hg; obtain ⟨Ao19, co19, eo19⟩ := Kd.R_slice HO457.out; subst eo19; have hnb20 := NB459_450.out; have hnc20 := NB450_459.out; have hcz21_0 : w18.cell? ⟨gb459, 0, none⟩ = some (.slice none 0 0) := (blk_cell BK459.out 0).trans rfl; have hfz21_0 := blk_frozen BK459.out 0; have hcz22_0 : w18.cell? ⟨gb450, 0, none⟩ = some (.string a0_0) := (blk_cell BK450.out 0).trans rfl; have hcz22_1 : w18.cell? ⟨gb450, 1, none⟩ = some (.string a0_1) := (blk_cell BK450.out 1).trans rfl; have hcz22_2 : w18.cell? ⟨gb450, 2, none⟩ = some (.int .i64 a0_2) := (blk_cell BK450.out 2).trans rfl; have hfz22_0 := blk_frozen BK450.out 0; have hfz22_1 := blk_frozen BK450.out 1; have hfz22_2 := blk_frozen BK450.out 2) | ((with_reducible refine gate_callee (f := 16) rfl ?_); refine goesL_ (some 25) rfl rfl Tryz.func16 (by kernel_rfl) rfl #[.agg #[.string a0_0, .string a0_1, .int .i64 a0_2]] rfl ax31 ?_; (with_reducible refine (laws_toBook.calls a0_0 a0_1 a0_2 t460 t461 t462 _ A9.out).mono ?_); rintro e w23 ⟨rfl, hb⟩; refine ⟨_, rfl, ?_⟩; have n0_ := Aside0.mk (Kd.R_below (by (with_reducible repeat (first | apply Kd.R_alloc | apply Kd.R_drewN | apply Kd.R_drew)); exact (Kd.R_mono (Kd.R_far (p := ⟨gb459, 0, none⟩) (Kd.R_types HO457.out BK459.out (by decide)) (fun _ hk => hk.2) (.slice Ao19 t455.length co19)) (fun _ h_ => h_.1))) hb); have n1_ := Aside0.mk (blk_below (g := gb450) (o := .cells #[.string a0_0, .string a0_1, .int .i64 a0_2] 32 (0, 0)) (by (with_reducible repeat (first | refine blk_drewN ?_ _ | refine blk_drew ?_ | refine blk_alloc ?_ _)); refine blk_far ?_ NB450_459.out _; (with_reducible repeat (first | refine blk_drewN ?_ _ | refine blk_drew ?_ | refine blk_alloc ?_ _)); exact BK450.out) hb); have n2_ := Aside0.mk (blk_below (g := gb459) (o := .cells #[.slice Ao19 t455.length co19] 45 (0, 0)) (by (with_reducible repeat (first | refine blk_drewN ?_ _ | refine blk_drew ?_ | refine blk_alloc ?_ _)); refine blk_put (cs := #[.slice none 0 0]) ?_ 0 _ rfl; (with_reducible repeat (first | refine blk_drewN ?_ _ | refine blk_drew ?_ | refine blk_alloc ?_ _)); exact BK459.out) hb); have n3_ := Aside0.mk (below_step ax275 hb); clear HO457; clear BK450; clear BK459; clear HB; have HO457 := n0_; have BK450 := n1_; have BK459 := n2_; have HB := n3_; clear n0_ n1_ n2_ n3_; (try clear hb); (try clear hb2); (try clear hk); (try clear hi)) | ((with_reducible refine gate_callee (f := 20) rfl ?_); refine goesL_ (some 26) rfl rfl Tryz.func20 (by kernel_rfl) rfl #[.agg #[.string t460, .string t461, .int .i64 t462]] rfl ax31 ?_; (with_reducible refine (impl_TrieOfBook.calls k t460 t461 t462 t463 t466 _ ?side1 A10.out).mono ?_); (case side1 => exact GL.below HG.out ax275); rintro e w24 ⟨v464, rfl, ho0, hb⟩; refine ⟨_, rfl, ?_⟩; have n0_ := Aside0.mk (Kd.R_elder' ax271 (Kd.R_base ho0) hb); have n1_ := Aside0.mk (Kd.R_lower (Kd.R_new' ho0 (Kd.R_lt ax271)) (below_size ax275)); have n2_ := Aside0.mk (blk_below (g := gb450) (o := .cells #[.string a0_0, .string a0_1, .int .i64 a0_2] 32 (0, 0)) ax269 hb); have n3_ := Aside0.mk (blk_below (g := gb459) (o := .cells #[.slice Ao19 t455.length co19] 45 (0, 0)) ax276 hb); have n4_ := Aside0.mk (below_step ax275 hb); clear HO457; clear BK450; clear BK459; clear HB; have HO457 := n0_; have HO465 := n1_; have BK450 := n2_; have BK459 := n3_; have HB := n4_; clear n0_ n1_ n2_ n3_ n4_; (try clear hb); (try clear hb2); (try clear hk); (try clear hi); (try clear ho0)) | ((with_reducible refine gate_dst (N := 6) rfl ?_); refine box_event ?hg (N := 6) ?hd (cs := #[.slice none 0 0]) (t := 45) ?hr ?_; (case hd => rfl); (case hg => rfl); (case hr => exact ax23); intro gb467 hg w25 hbox hb; have n0_ := Aside0.mk (Kd.R_below ax271 hb); have n1_ := Aside0.mk (Kd.R_below (by (with_reducible repeat (first | apply Kd.R_alloc | apply Kd.R_drewN | apply Kd.R_drew)); exact HO465.out) hb); have n2_ := Aside0.mk (blk_below (g := gb450) (o := .cells #[.string a0_0, .string a0_1, .int .i64 a0_2] 32 (0, 0)) ax269 hb); have n3_ := Aside0.mk (blk_below (g := gb459) (o := .cells #[.slice Ao19 t455.length co19] 45 (0, 0)) ax276 hb); have n4_ := Aside0.mk (below_step ax275 hb); have n5_ := Aside0.mk (hbox); have n6_ := Aside0.mk ((ax277 : w.heap.size ≤ gb467)); have n7_ := Aside0.mk ((ax277 : w.heap.size ≤ gb467)); have n8_ := Aside0.mk ((ax273 : gb450 ≠ gb467)); have n9_ := Aside0.mk ((ax274 : gb467 ≠ gb450)); have n10_ := Aside0.mk ((ax278 : gb459 ≠ gb467)); have n11_ := Aside0.mk ((ax279 : gb467 ≠ gb459)); clear HO457; clear HO465; clear BK450; clear BK459; clear HB; have HO457 := n0_; have HO465 := n1_; have BK450 := n2_; have BK459 := n3_; have HB := n4_; have BK467 := n5_; have GW467 := n6_; have GE467 := n7_; have NB450_467 := n8_; have NB467_450 := n9_; have NB459_467 := n10_; have NB467_459 := n11_; clear n0_ n1_ n2_ n3_ n4_ n5_ n6_ n7_ n8_ n9_ n10_ n11_; clear hb hbox hg; obtain ⟨Ao26, co26, eo26⟩ := Kd.R_slice HO465.out; subst eo26; have hnb27 := NB467_450.out; have hnc27 := NB450_467.out; have hnb28 := NB467_459.out; have hnc28 := NB459_467.out; have hcz29_0 : w25.cell? ⟨gb467, 0, none⟩ = some (.slice none 0 0) := (blk_cell BK467.out 0).trans rfl; have hfz29_0 := blk_frozen BK467.out 0))
  (try simp only [Act.put, List.setIfInBounds_toArray, List.set_cons_zero, List.set_cons_succ])
  go_cut [37] (fun v37 wc => ∃ (kq : Nat) (x37_10 : Bool), v37 = .bool x37_10 ∧ Aside0 (laws_FnExactTrieOfBook.j0 kq t458 x37_10 a0_0 a0_1 a0_2 t455 t463 = some r) ∧ Aside0 (kq ≤ k) ∧ Aside0 (Kd.R k105 105 wc w.heap.size (fun k_ => some k_ ≠ ((.slice Ao26 t463.length co26) : Value).ownBlock) (.slice Ao19 t455.length co19) t455) ∧ Aside0 (Kd.R k105 105 wc w.heap.size (fun k_ => some k_ ≠ ((.slice Ao19 t455.length co19) : Value).ownBlock) (.slice Ao26 t463.length co26) t463) ∧ Aside0 (wc.heap[gb450]? = some (.cells #[.string a0_0, .string a0_1, .int .i64 a0_2] 32 (0, 0))) ∧ Aside0 (wc.heap[gb459]? = some (.cells #[(.slice Ao19 t455.length co19)] 45 (0, 0))) ∧ Aside0 (wc.heap[gb467]? = some (.cells #[(.slice Ao26 t463.length co26)] 45 (0, 0))) ∧ Aside0 (Below w.heap.size w wc))
  case first =>
   have H := HC11.out; clear HC11; replace H := Option.bind_eq_some_iff.mp H
   obtain ⟨t468, A300, H⟩ := H
   replace H : (if t468 = true then (laws_FnExactTrieOfBook.j0 k t458 (t466 != t458) a0_0 a0_1 a0_2 t455 t463) else (laws_FnExactTrieOfBook.j0 k t458 true a0_0 a0_1 a0_2 t455 t463)) = some r := H
   have A30 := Aside0.mk A300; clear A300
   by_cases c31 : t468 = true
   ·subst c31
    have H1 : (laws_FnExactTrieOfBook.j0 k t458 (t466 != t458) a0_0 a0_1 a0_2 t455 t463) = some r := by rw [if_pos rfl] at H; exact H
    clear H; have H := H1; clear H1
    have H' := Aside0.mk H
    clear H; have hnb32 := NB467_450.out; have hnc32 := NB450_467.out; have hnb33 := NB467_459.out; have hnc33 := NB459_467.out
    have hcz34_0 : w25.cell? ⟨gb467, 0, none⟩ = some (.slice none 0 0) := (blk_cell BK467.out 0).trans rfl
    have hfz34_0 := blk_frozen BK467.out 0; have hnb35 := NB459_450.out; have hnc35 := NB450_459.out
    have hcz36_0 : w25.cell? ⟨gb459, 0, none⟩ = some (.slice Ao19 t455.length co19) := (blk_cell BK459.out 0).trans rfl
    have hfz36_0 := blk_frozen BK459.out 0
    go_wp2_with (first | ((with_reducible refine gate_callee (f := 21) rfl ?_); refine goesL_ (some 31) rfl rfl Tryz.func21 (by kernel_rfl) rfl #[.agg #[.slice Ao26 t463.length co26], .agg #[.slice Ao19 t455.length co19]] rfl ax31 ?_; (with_reducible refine (laws_eqTrie.calls k _ _ t463 _ _ t455 true _ ?side1 ?side2 ?side3 ?side4 A30.out).mono ?_); (case side1 => exact ax280); (case side2 => exact (Kd.R_reads' HO465.out).2.1); (case side3 => exact ax281); (case side4 => exact (Kd.R_reads' HO457.out).2.1); rintro e w37 ⟨rfl, hb⟩; refine ⟨_, rfl, ?_⟩; have n0_ := Aside0.mk (Kd.R_below ax282 hb); have n1_ := Aside0.mk (Kd.R_below ax283 hb); have n2_ := Aside0.mk (blk_below (g := gb450) (o := .cells #[.string a0_0, .string a0_1, .int .i64 a0_2] 32 (0, 0)) ax284 hb); have n3_ := Aside0.mk (blk_below (g := gb459) (o := .cells #[.slice Ao19 t455.length co19] 45 (0, 0)) ax285 hb); have n4_ := Aside0.mk (blk_below (g := gb467) (o := .cells #[.slice Ao26 t463.length co26] 45 (0, 0)) ax286 hb); have n5_ := Aside0.mk (below_step ax287 hb); clear HO457; clear HO465; clear BK450; clear BK459; clear BK467; clear HB; have HO457 := n0_; have HO465 := n1_; have BK450 := n2_; have BK459 := n3_; have BK467 := n4_; have HB := n5_; clear n0_ n1_ n2_ n3_ n4_ n5_; (try clear hb); (try clear hb2); (try clear hk); (try clear hi)))
    go_meet
    case rel => exact ⟨_, ((t466 != t458)), ax21, H', ⟨by first | omega | exact Nat.le_refl _⟩, ⟨by (with_reducible repeat (first | apply Kd.R_alloc | apply Kd.R_drewN | apply Kd.R_drew)); exact Kd.R_mono HO457.out (fun _ hk => hk.2)⟩, ⟨by (with_reducible repeat (first | apply Kd.R_alloc | apply Kd.R_drewN | apply Kd.R_drew)); exact Kd.R_mono HO465.out (fun _ hk => hk.2)⟩, ⟨by (with_reducible repeat (first | refine blk_drewN ?_ _ | refine blk_drew ?_ | refine blk_alloc ?_ _)); exact BK450.out⟩, ⟨by (with_reducible repeat (first | refine blk_drewN ?_ _ | refine blk_drew ?_ | refine blk_alloc ?_ _)); exact BK459.out⟩, ⟨by (with_reducible repeat (first | refine blk_drewN ?_ _ | refine blk_drew ?_ | refine blk_alloc ?_ _)); exact BK467.out⟩, ⟨by repeat (first | (with_reducible first | exact HB.out | apply below_alloc | apply pw_below_drewN | apply below_drew1 | refine below_set ?_ GE450.out | refine below_set ?_ GE459.out | refine below_set ?_ GE467.out) | exact HB.out)⟩⟩
   ·replace c31 := Bool.eq_false_iff.mpr c31
    subst c31
    have H1 : (laws_FnExactTrieOfBook.j0 k t458 true a0_0 a0_1 a0_2 t455 t463) = some r := by rw [if_neg (show ¬ (false = true) by decide)] at H; exact H
    clear H; have H := H1; clear H1
    have H' := Aside0.mk H
    clear H; have hnb38 := NB467_450.out; have hnc38 := NB450_467.out; have hnb39 := NB467_459.out; have hnc39 := NB459_467.out
    have hcz40_0 : w25.cell? ⟨gb467, 0, none⟩ = some (.slice none 0 0) := (blk_cell BK467.out 0).trans rfl
    have hfz40_0 := blk_frozen BK467.out 0; have hnb41 := NB459_450.out; have hnc41 := NB450_459.out
    have hcz42_0 : w25.cell? ⟨gb459, 0, none⟩ = some (.slice Ao19 t455.length co19) := (blk_cell BK459.out 0).trans rfl
    have hfz42_0 := blk_frozen BK459.out 0
    go_wp2_with (first | ((with_reducible refine gate_callee (f := 21) rfl ?_); refine goesL_ (some 31) rfl rfl Tryz.func21 (by kernel_rfl) rfl #[.agg #[.slice Ao26 t463.length co26], .agg #[.slice Ao19 t455.length co19]] rfl ax31 ?_; (with_reducible refine (laws_eqTrie.calls k _ _ t463 _ _ t455 false _ ?side1 ?side2 ?side3 ?side4 A30.out).mono ?_); (case side1 => exact ax280); (case side2 => exact (Kd.R_reads' HO465.out).2.1); (case side3 => exact ax281); (case side4 => exact (Kd.R_reads' HO457.out).2.1); rintro e w43 ⟨rfl, hb⟩; refine ⟨_, rfl, ?_⟩; have n0_ := Aside0.mk (Kd.R_below ax282 hb); have n1_ := Aside0.mk (Kd.R_below ax283 hb); have n2_ := Aside0.mk (blk_below (g := gb450) (o := .cells #[.string a0_0, .string a0_1, .int .i64 a0_2] 32 (0, 0)) ax284 hb); have n3_ := Aside0.mk (blk_below (g := gb459) (o := .cells #[.slice Ao19 t455.length co19] 45 (0, 0)) ax285 hb); have n4_ := Aside0.mk (blk_below (g := gb467) (o := .cells #[.slice Ao26 t463.length co26] 45 (0, 0)) ax286 hb); have n5_ := Aside0.mk (below_step ax287 hb); clear HO457; clear HO465; clear BK450; clear BK459; clear BK467; clear HB; have HO457 := n0_; have HO465 := n1_; have BK450 := n2_; have BK459 := n3_; have BK467 := n4_; have HB := n5_; clear n0_ n1_ n2_ n3_ n4_ n5_; (try clear hb); (try clear hb2); (try clear hk); (try clear hi)))
    go_meet
    case rel => exact ⟨_, (true), ax21, H', ⟨by first | omega | exact Nat.le_refl _⟩, ⟨by (with_reducible repeat (first | apply Kd.R_alloc | apply Kd.R_drewN | apply Kd.R_drew)); exact Kd.R_mono HO457.out (fun _ hk => hk.2)⟩, ⟨by (with_reducible repeat (first | apply Kd.R_alloc | apply Kd.R_drewN | apply Kd.R_drew)); exact Kd.R_mono HO465.out (fun _ hk => hk.2)⟩, ⟨by (with_reducible repeat (first | refine blk_drewN ?_ _ | refine blk_drew ?_ | refine blk_alloc ?_ _)); exact BK450.out⟩, ⟨by (with_reducible repeat (first | refine blk_drewN ?_ _ | refine blk_drew ?_ | refine blk_alloc ?_ _)); exact BK459.out⟩, ⟨by (with_reducible repeat (first | refine blk_drewN ?_ _ | refine blk_drew ?_ | refine blk_alloc ?_ _)); exact BK467.out⟩, ⟨by repeat (first | (with_reducible first | exact HB.out | apply below_alloc | apply pw_below_drewN | apply below_drew1 | refine below_set ?_ GE450.out | refine below_set ?_ GE459.out | refine below_set ?_ GE467.out) | exact HB.out)⟩⟩
  case rest =>
   clear HC11
   try clear c1
   try clear c2
   try clear p2
   try clear c3
   try clear c3b0
   try clear c4
   try clear c5
   try clear c14
   try clear c16
   try clear c19
   try clear c20
   try clear c21
   try clear c27
   try clear c28
   try clear c31
   try clear c32
   try clear c33
   try clear c35
   try clear c38
   try clear c39
   try clear c41
   try clear hcz13_0
   try clear hcz13_1
   try clear hcz13_2
   try clear hcz15_0
   try clear hcz15_1
   try clear hcz15_2
   try clear hcz21_0
   try clear hcz22_0
   try clear hcz22_1
   try clear hcz22_2
   try clear hcz29_0
   try clear hcz34_0
   try clear hcz36_0
   try clear hcz40_0
   try clear hcz42_0
   try clear hcz5_0
   try clear hcz5_1
   try clear hcz5_2
   try clear hfz13_0
   try clear hfz13_1
   try clear hfz13_2
   try clear hfz15_0
   try clear hfz15_1
   try clear hfz15_2
   try clear hfz21_0
   try clear hfz22_0
   try clear hfz22_1
   try clear hfz22_2
   try clear hfz29_0
   try clear hfz34_0
   try clear hfz36_0
   try clear hfz40_0
   try clear hfz42_0
   try clear hfz5_0
   try clear hfz5_1
   try clear hfz5_2
   obtain ⟨kq, x37_10, rfl, HA, HJ10, HO_460000, HO_468000, BK450, BK459, BK467, HB⟩ := hcut
   cases kq with
   | zero => exact absurd HA.out (by simp [laws_FnExactTrieOfBook.j0])
   | succ kj10 =>
    have H := HA.out; clear HA
    simp only [laws_FnExactTrieOfBook.j0] at H
    by_cases c44 : x37_10 = true
    ·subst c44
     have H1 : (some false) = some r := by rw [if_pos rfl] at H; exact H
     clear H; have H := H1; clear H1
     exact absurd ((Option.some.inj H).trans HRT.out) (by decide)
    ·replace c44 := Bool.eq_false_iff.mpr c44
     subst c44
     have H1 : ((laws_markTrie.f kj10 t463 1).bind fun bt469 => ((laws_heldTrie.f kj10 bt469.2 1).bind fun t471 => (if t471 < 0 then (some false) else (if t471 = bt469.1 then ((laws_toBook.f a0_0 a0_1 a0_2).bind fun bt472 => ((impl_TrieOfBook.f kj10 bt472.1 bt472.2.1 bt472.2.2).bind fun bt475 => ((laws_eqTrie.f kj10 bt475.1 t455).bind fun t480 => (if t480 = true then (laws_FnExactTrieOfBook.j1 kj10 bt469.1 (bt475.2 != t458) bt469.2) else (laws_FnExactTrieOfBook.j1 kj10 bt469.1 true bt469.2))))) else (some false))))) = some r := by rw [if_neg (show ¬ (false = true) by decide)] at H; exact H
     clear H; have H := H1; clear H1; replace H := Option.bind_eq_some_iff.mp H
     obtain ⟨⟨t469, t470⟩, A450, H⟩ := H
     replace H : ((laws_heldTrie.f kj10 t470 1).bind fun t471 => (if t471 < 0 then (some false) else (if t471 = t469 then ((laws_toBook.f a0_0 a0_1 a0_2).bind fun bt472 => ((impl_TrieOfBook.f kj10 bt472.1 bt472.2.1 bt472.2.2).bind fun bt475 => ((laws_eqTrie.f kj10 bt475.1 t455).bind fun t480 => (if t480 = true then (laws_FnExactTrieOfBook.j1 kj10 t469 (bt475.2 != t458) t470) else (laws_FnExactTrieOfBook.j1 kj10 t469 true t470))))) else (some false)))) = some r := H
     have A45 := Aside0.mk A450; clear A450; replace H := Option.bind_eq_some_iff.mp H
     obtain ⟨t471, A460, H⟩ := H
     replace H : (if t471 < 0 then (some false) else (if t471 = t469 then ((laws_toBook.f a0_0 a0_1 a0_2).bind fun bt472 => ((impl_TrieOfBook.f kj10 bt472.1 bt472.2.1 bt472.2.2).bind fun bt475 => ((laws_eqTrie.f kj10 bt475.1 t455).bind fun t480 => (if t480 = true then (laws_FnExactTrieOfBook.j1 kj10 t469 (bt475.2 != t458) t470) else (laws_FnExactTrieOfBook.j1 kj10 t469 true t470))))) else (some false))) = some r := H
     have A46 := Aside0.mk A460; clear A460
     by_cases c47 : t471 < 0
     ·rw [if_pos c47] at H
      have c47b0 : decide (t471 < 0) = true := decide_eq_true c47
      clear c47
      exact absurd ((Option.some.inj H).trans HRT.out) (by decide)
     ·rw [if_neg c47] at H
      have c47b0 : decide (t471 < 0) = false := decide_eq_false c47
      clear c47
      by_cases c48 : t471 = t469
      ·rw [if_pos c48] at H
       have c48b0 : (t471 == t469) = true := beq_iff_eq.mpr c48
       have c48b1 : (t471 != t469) = false := bne_eq_false_iff_eq.mpr c48
       clear c48; replace H := Option.bind_eq_some_iff.mp H
       obtain ⟨⟨t472, t473, t474⟩, A490, H⟩ := H
       replace H : ((impl_TrieOfBook.f kj10 t472 t473 t474).bind fun bt475 => ((laws_eqTrie.f kj10 bt475.1 t455).bind fun t480 => (if t480 = true then (laws_FnExactTrieOfBook.j1 kj10 t469 (bt475.2 != t458) t470) else (laws_FnExactTrieOfBook.j1 kj10 t469 true t470)))) = some r := H
       have A49 := Aside0.mk A490; clear A490; replace H := Option.bind_eq_some_iff.mp H
       obtain ⟨⟨t475, t478⟩, A500, H⟩ := H
       replace H : ((laws_eqTrie.f kj10 t475 t455).bind fun t480 => (if t480 = true then (laws_FnExactTrieOfBook.j1 kj10 t469 (t478 != t458) t470) else (laws_FnExactTrieOfBook.j1 kj10 t469 true t470))) = some r := H
       have A50 := Aside0.mk A500; clear A500; have HC51 := Aside0.mk H; clear H; have hnb52 := NB467_450.out; have hnc52 := NB450_467.out; have hnb53 := NB467_459.out; have hnc53 := NB459_467.out
       have hcz54_0 : wc.cell? ⟨gb467, 0, none⟩ = some (.slice Ao26 t463.length co26) := (blk_cell BK467.out 0).trans rfl
       have hfz54_0 := blk_frozen BK467.out 0
       go_upto_region 18 with (first | ((with_reducible refine gate_callee (f := 22) rfl ?_); refine goesL_ (some 40) rfl rfl Tryz.func22 (by kernel_rfl) rfl #[.agg #[.slice Ao26 t463.length co26], .int .i64 1] rfl ax31 ?_; (with_reducible refine (laws_markTrie.calls kj10 (fun k_ => some k_ = (.slice Ao26 t463.length co26 : Value).ownBlock) (.slice Ao26 t463.length co26) t463 1 t469 t470 w _ ?side1 ?side2 A45.out).mono ?_); (case side1 => exact ax287); (case side2 => exact Kd.R_tight rfl HO_468000.out); rintro e w55 ⟨rfl, hy0, hb, hkp⟩; refine ⟨_, rfl, ?_⟩; have n0_ := Aside0.mk (Kd.R_mono (ok' := fun k_ => some k_ ≠ (.slice Ao26 t463.length co26 : Value).ownBlock) (Kd.R_keptB (HO_460000.out) hkp (fun k_ hk_ hs_ => (hk_) hs_)) (fun k_ hk_ => hk_.1)); have n1_ := Aside0.mk (Kd.R_reok rfl hy0 (fun k_ e_ => HO_468000.out.1 k_ e_)); have n2_ := Aside0.mk (blk_kept ax269 hkp (fun hs_ => (fun e_ => (Kd.R_ne HO_468000.out BK450.out (by decide)) e_) hs_)); have n3_ := Aside0.mk (blk_kept ax276 hkp (fun hs_ => (fun e_ => (Kd.R_ne HO_468000.out BK459.out (by decide)) e_) hs_)); have n4_ := Aside0.mk (blk_kept ax288 hkp (fun hs_ => (fun e_ => (Kd.R_ne HO_468000.out BK467.out (by decide)) e_) hs_)); have n5_ := Aside0.mk (hb); clear HO_460000; clear HO_468000; clear BK450; clear BK459; clear BK467; clear HB; have HO_460000 := n0_; have HO_468000 := n1_; have BK450 := n2_; have BK459 := n3_; have BK467 := n4_; have HB := n5_; clear n0_ n1_ n2_ n3_ n4_ n5_; (try clear hb); (try clear hkp); (try clear hy0); have hcz56_0 : w55.cell? ⟨gb467, 0, none⟩ = some (.slice Ao26 t463.length co26) := (blk_cell BK467.out 0).trans rfl; have hfz56_0 := blk_frozen BK467.out 0) | ((with_reducible refine gate_callee (f := 23) rfl ?_); refine goesL_ (some 43) rfl rfl Tryz.func23 (by kernel_rfl) rfl #[.agg #[.slice Ao26 t470.length co26], .int .i64 1] rfl (by (try simp only [List.map_toArray, List.map_cons, List.map_nil]); first | done | (rw [show t470.length = t463.length from (Kd.R_reads' HO_468000.out).1.symm] <;> rfl) | rfl | (simp only [List.length_drop, List.length_take]; rfl)) ?_; (with_reducible refine (laws_heldTrie.calls kj10 _ _ t470 1 t471 _ ?side1 ?side2 A46.out).mono ?_); (case side1 => exact ax289); (case side2 => rw [show t470.length = t463.length from (Kd.R_reads' HO_468000.out).1.symm]; exact (Kd.R_reads' HO_468000.out).2.1); rintro e w57 ⟨rfl, hb⟩; refine ⟨_, rfl, ?_⟩; have n0_ := Aside0.mk (Kd.R_below ax290 hb); have n1_ := Aside0.mk (Kd.R_below ax291 hb); have n2_ := Aside0.mk (blk_below (g := gb450) (o := .cells #[.string a0_0, .string a0_1, .int .i64 a0_2] 32 (0, 0)) ax269 hb); have n3_ := Aside0.mk (blk_below (g := gb459) (o := .cells #[.slice Ao19 t455.length co19] 45 (0, 0)) ax276 hb); have n4_ := Aside0.mk (blk_below (g := gb467) (o := .cells #[.slice Ao26 t463.length co26] 45 (0, 0)) ax288 hb); have n5_ := Aside0.mk (below_step ax287 hb); clear HO_460000; clear HO_468000; clear BK450; clear BK459; clear BK467; clear HB; have HO_460000 := n0_; have HO_468000 := n1_; have BK450 := n2_; have BK459 := n3_; have BK467 := n4_; have HB := n5_; clear n0_ n1_ n2_ n3_ n4_ n5_; (try clear hb); (try clear hb2); (try clear hk); (try clear hi); have hnb58 := NB450_459.out; have hnc58 := NB459_450.out; have hcz59_0 : w57.cell? ⟨gb450, 0, none⟩ = some (.string a0_0) := (blk_cell BK450.out 0).trans rfl; have hcz59_1 : w57.cell? ⟨gb450, 1, none⟩ = some (.string a0_1) := (blk_cell BK450.out 1).trans rfl; have hcz59_2 : w57.cell? ⟨gb450, 2, none⟩ = some (.int .i64 a0_2) := (blk_cell BK450.out 2).trans rfl; have hfz59_0 := blk_frozen BK450.out 0; have hfz59_1 := blk_frozen BK450.out 1; have hfz59_2 := blk_frozen BK450.out 2) | ((with_reducible refine gate_callee (f := 16) rfl ?_); refine goesL_ (some 51) rfl rfl Tryz.func16 (by kernel_rfl) rfl #[.agg #[.string a0_0, .string a0_1, .int .i64 a0_2]] rfl ax31 ?_; (with_reducible refine (laws_toBook.calls a0_0 a0_1 a0_2 t472 t473 t474 _ A49.out).mono ?_); rintro e w60 ⟨rfl, hb⟩; refine ⟨_, rfl, ?_⟩; have n0_ := Aside0.mk (Kd.R_below ax290 hb); have n1_ := Aside0.mk (Kd.R_below ax291 hb); have n2_ := Aside0.mk (blk_below (g := gb450) (o := .cells #[.string a0_0, .string a0_1, .int .i64 a0_2] 32 (0, 0)) ax269 hb); have n3_ := Aside0.mk (blk_below (g := gb459) (o := .cells #[.slice Ao19 t455.length co19] 45 (0, 0)) ax276 hb); have n4_ := Aside0.mk (blk_below (g := gb467) (o := .cells #[.slice Ao26 t463.length co26] 45 (0, 0)) ax288 hb); have n5_ := Aside0.mk (below_step ax287 hb); clear HO_460000; clear HO_468000; clear BK450; clear BK459; clear BK467; clear HB; have HO_460000 := n0_; have HO_468000 := n1_; have BK450 := n2_; have BK459 := n3_; have BK467 := n4_; have HB := n5_; clear n0_ n1_ n2_ n3_ n4_ n5_; (try clear hb); (try clear hb2); (try clear hk); (try clear hi)) | ((with_reducible refine gate_callee (f := 20) rfl ?_); refine goesL_ (some 52) rfl rfl Tryz.func20 (by kernel_rfl) rfl #[.agg #[.string t472, .string t473, .int .i64 t474]] rfl ax31 ?_; (with_reducible refine (impl_TrieOfBook.calls kj10 t472 t473 t474 t475 t478 _ ?side1 A50.out).mono ?_); (case side1 => exact GL.below HG.out ax287); rintro e w61 ⟨v476, rfl, ho0, hb⟩; refine ⟨_, rfl, ?_⟩; have n0_ := Aside0.mk (Kd.R_elder' ax290 (Kd.R_base ho0) hb); have n1_ := Aside0.mk (Kd.R_elder' ax291 (Kd.R_base ho0) hb); have n2_ := Aside0.mk (Kd.R_lower (Kd.R_new' (Kd.R_new' ho0 (Kd.R_lt ax290)) (Kd.R_lt ax291)) (below_size ax287)); have n3_ := Aside0.mk (blk_below (g := gb450) (o := .cells #[.string a0_0, .string a0_1, .int .i64 a0_2] 32 (0, 0)) ax269 hb); have n4_ := Aside0.mk (blk_below (g := gb459) (o := .cells #[.slice Ao19 t455.length co19] 45 (0, 0)) ax276 hb); have n5_ := Aside0.mk (blk_below (g := gb467) (o := .cells #[.slice Ao26 t463.length co26] 45 (0, 0)) ax288 hb); have n6_ := Aside0.mk (below_step ax287 hb); clear HO_460000; clear HO_468000; clear BK450; clear BK459; clear BK467; clear HB; have HO_460000 := n0_; have HO_468000 := n1_; have HO477 := n2_; have BK450 := n3_; have BK459 := n4_; have BK467 := n5_; have HB := n6_; clear n0_ n1_ n2_ n3_ n4_ n5_ n6_; (try clear hb); (try clear hb2); (try clear hk); (try clear hi); (try clear ho0)) | ((with_reducible refine gate_dst (N := 10) rfl ?_); refine box_event ?hg (N := 10) ?hd (cs := #[.slice none 0 0]) (t := 45) ?hr ?_; (case hd => rfl); (case hg => rfl); (case hr => exact ax23); intro gb479 hg w62 hbox hb; have n0_ := Aside0.mk (Kd.R_below ax290 hb); have n1_ := Aside0.mk (Kd.R_below ax291 hb); have n2_ := Aside0.mk (Kd.R_below (by (with_reducible repeat (first | apply Kd.R_alloc | apply Kd.R_drewN | apply Kd.R_drew)); exact HO477.out) hb); have n3_ := Aside0.mk (blk_below (g := gb450) (o := .cells #[.string a0_0, .string a0_1, .int .i64 a0_2] 32 (0, 0)) ax269 hb); have n4_ := Aside0.mk (blk_below (g := gb459) (o := .cells #[.slice Ao19 t455.length co19] 45 (0, 0)) ax276 hb); have n5_ := Aside0.mk (blk_below (g := gb467) (o := .cells #[.slice Ao26 t463.length co26] 45 (0, 0)) ax288 hb); have n6_ := Aside0.mk (below_step ax287 hb); have n7_ := Aside0.mk (hbox); have n8_ := Aside0.mk ((ax292 : w.heap.size ≤ gb479)); have n9_ := Aside0.mk ((ax292 : w.heap.size ≤ gb479)); have n10_ := Aside0.mk ((ax273 : gb450 ≠ gb479)); have n11_ := Aside0.mk ((ax274 : gb479 ≠ gb450)); have n12_ := Aside0.mk ((ax278 : gb459 ≠ gb479)); have n13_ := Aside0.mk ((ax279 : gb479 ≠ gb459)); have n14_ := Aside0.mk ((by rw [hg]; exact Nat.ne_of_lt (blk_lt (g := gb467) (o := .cells #[.slice Ao26 t463.length co26] 45 (0, 0)) ax288) : gb467 ≠ gb479)); have n15_ := Aside0.mk ((by rw [hg]; exact Nat.ne_of_gt (blk_lt (g := gb467) (o := .cells #[.slice Ao26 t463.length co26] 45 (0, 0)) ax288) : gb479 ≠ gb467)); clear HO_460000; clear HO_468000; clear HO477; clear BK450; clear BK459; clear BK467; clear HB; have HO_460000 := n0_; have HO_468000 := n1_; have HO477 := n2_; have BK450 := n3_; have BK459 := n4_; have BK467 := n5_; have HB := n6_; have BK479 := n7_; have GW479 := n8_; have GE479 := n9_; have NB450_479 := n10_; have NB479_450 := n11_; have NB459_479 := n12_; have NB479_459 := n13_; have NB467_479 := n14_; have NB479_467 := n15_; clear n0_ n1_ n2_ n3_ n4_ n5_ n6_ n7_ n8_ n9_ n10_ n11_ n12_ n13_ n14_ n15_; clear hb hbox hg; obtain ⟨Ao63, co63, eo63⟩ := Kd.R_slice HO477.out; subst eo63; have hnb64 := NB479_450.out; have hnc64 := NB450_479.out; have hnb65 := NB479_459.out; have hnc65 := NB459_479.out; have hnb66 := NB479_467.out; have hnc66 := NB467_479.out; have hcz67_0 : w62.cell? ⟨gb479, 0, none⟩ = some (.slice none 0 0) := (blk_cell BK479.out 0).trans rfl; have hfz67_0 := blk_frozen BK479.out 0))
       (try simp only [Act.put, List.setIfInBounds_toArray, List.set_cons_zero, List.set_cons_succ])
       go_cut [63] (fun v63 wc => ∃ (kq : Nat) (x63_50 : Bool), v63 = .bool x63_50 ∧ Aside0 (laws_FnExactTrieOfBook.j1 kq t469 x63_50 t470 = some r) ∧ Aside0 (kq ≤ kj10) ∧ Aside0 (Kd.R k105 105 wc w.heap.size (fun k_ => some k_ ≠ ((.slice Ao26 t463.length co26) : Value).ownBlock ∧ some k_ ≠ ((.slice Ao63 t475.length co63) : Value).ownBlock) (.slice Ao19 t455.length co19) t455) ∧ Aside0 (Kd.R k105 105 wc w.heap.size (fun k_ => some k_ ≠ ((.slice Ao19 t455.length co19) : Value).ownBlock ∧ some k_ ≠ ((.slice Ao63 t475.length co63) : Value).ownBlock) (.slice Ao26 t463.length co26) t470) ∧ Aside0 (Kd.R k105 105 wc w.heap.size (fun k_ => some k_ ≠ ((.slice Ao19 t455.length co19) : Value).ownBlock ∧ some k_ ≠ ((.slice Ao26 t463.length co26) : Value).ownBlock) (.slice Ao63 t475.length co63) t475) ∧ Aside0 (wc.heap[gb450]? = some (.cells #[.string a0_0, .string a0_1, .int .i64 a0_2] 32 (0, 0))) ∧ Aside0 (wc.heap[gb459]? = some (.cells #[(.slice Ao19 t455.length co19)] 45 (0, 0))) ∧ Aside0 (wc.heap[gb467]? = some (.cells #[(.slice Ao26 t463.length co26)] 45 (0, 0))) ∧ Aside0 (wc.heap[gb479]? = some (.cells #[(.slice Ao63 t475.length co63)] 45 (0, 0))) ∧ Aside0 (Below w.heap.size w wc))
       case first =>
        have H := HC51.out; clear HC51; replace H := Option.bind_eq_some_iff.mp H
        obtain ⟨t480, A680, H⟩ := H
        replace H : (if t480 = true then (laws_FnExactTrieOfBook.j1 kj10 t469 (t478 != t458) t470) else (laws_FnExactTrieOfBook.j1 kj10 t469 true t470)) = some r := H
        have A68 := Aside0.mk A680; clear A680
        by_cases c69 : t480 = true
        ·subst c69
         have H1 : (laws_FnExactTrieOfBook.j1 kj10 t469 (t478 != t458) t470) = some r := by rw [if_pos rfl] at H; exact H
         clear H; have H := H1; clear H1
         have H' := Aside0.mk H
         clear H; have hnb70 := NB479_450.out; have hnc70 := NB450_479.out; have hnb71 := NB479_459.out; have hnc71 := NB459_479.out; have hnb72 := NB479_467.out; have hnc72 := NB467_479.out
         have hcz73_0 : w62.cell? ⟨gb479, 0, none⟩ = some (.slice none 0 0) := (blk_cell BK479.out 0).trans rfl
         have hfz73_0 := blk_frozen BK479.out 0; have hnb74 := NB459_450.out; have hnc74 := NB450_459.out; have hnb75 := NB459_467.out; have hnc75 := NB467_459.out
         have hcz76_0 : w62.cell? ⟨gb459, 0, none⟩ = some (.slice Ao19 t455.length co19) := (blk_cell BK459.out 0).trans rfl
         have hfz76_0 := blk_frozen BK459.out 0
         go_wp2_with (first | ((with_reducible refine gate_callee (f := 21) rfl ?_); refine goesL_ (some 57) rfl rfl Tryz.func21 (by kernel_rfl) rfl #[.agg #[.slice Ao63 t475.length co63], .agg #[.slice Ao19 t455.length co19]] rfl ax31 ?_; (with_reducible refine (laws_eqTrie.calls kj10 _ _ t475 _ _ t455 true _ ?side1 ?side2 ?side3 ?side4 A68.out).mono ?_); (case side1 => exact ax293); (case side2 => exact (Kd.R_reads' HO477.out).2.1); (case side3 => exact ax294); (case side4 => exact (Kd.R_reads' HO_460000.out).2.1); rintro e w77 ⟨rfl, hb⟩; refine ⟨_, rfl, ?_⟩; have n0_ := Aside0.mk (Kd.R_below ax295 hb); have n1_ := Aside0.mk (Kd.R_below ax296 hb); have n2_ := Aside0.mk (Kd.R_below ax297 hb); have n3_ := Aside0.mk (blk_below (g := gb450) (o := .cells #[.string a0_0, .string a0_1, .int .i64 a0_2] 32 (0, 0)) ax298 hb); have n4_ := Aside0.mk (blk_below (g := gb459) (o := .cells #[.slice Ao19 t455.length co19] 45 (0, 0)) ax299 hb); have n5_ := Aside0.mk (blk_below (g := gb467) (o := .cells #[.slice Ao26 t463.length co26] 45 (0, 0)) ax300 hb); have n6_ := Aside0.mk (blk_below (g := gb479) (o := .cells #[.slice Ao63 t475.length co63] 45 (0, 0)) ax301 hb); have n7_ := Aside0.mk (below_step ax302 hb); clear HO_460000; clear HO_468000; clear HO477; clear BK450; clear BK459; clear BK467; clear BK479; clear HB; have HO_460000 := n0_; have HO_468000 := n1_; have HO477 := n2_; have BK450 := n3_; have BK459 := n4_; have BK467 := n5_; have BK479 := n6_; have HB := n7_; clear n0_ n1_ n2_ n3_ n4_ n5_ n6_ n7_; (try clear hb); (try clear hb2); (try clear hk); (try clear hi)))
         go_meet
         case rel => exact ⟨_, ((t478 != t458)), ax21, H', ⟨by have := HJ10.out; first | omega | exact Nat.le_refl _⟩, ⟨by (with_reducible repeat (first | apply Kd.R_alloc | apply Kd.R_drewN | apply Kd.R_drew)); exact HO_460000.out⟩, ⟨by (with_reducible repeat (first | apply Kd.R_alloc | apply Kd.R_drewN | apply Kd.R_drew)); exact HO_468000.out⟩, ⟨by (with_reducible repeat (first | apply Kd.R_alloc | apply Kd.R_drewN | apply Kd.R_drew)); exact Kd.R_mono HO477.out (fun _ hk => ⟨hk.1.2, hk.2⟩)⟩, ⟨by (with_reducible repeat (first | refine blk_drewN ?_ _ | refine blk_drew ?_ | refine blk_alloc ?_ _)); exact BK450.out⟩, ⟨by (with_reducible repeat (first | refine blk_drewN ?_ _ | refine blk_drew ?_ | refine blk_alloc ?_ _)); exact BK459.out⟩, ⟨by (with_reducible repeat (first | refine blk_drewN ?_ _ | refine blk_drew ?_ | refine blk_alloc ?_ _)); exact BK467.out⟩, ⟨by (with_reducible repeat (first | refine blk_drewN ?_ _ | refine blk_drew ?_ | refine blk_alloc ?_ _)); exact BK479.out⟩, ⟨by repeat (first | (with_reducible first | exact HB.out | apply below_alloc | apply pw_below_drewN | apply below_drew1 | refine below_set ?_ GE450.out | refine below_set ?_ GE459.out | refine below_set ?_ GE467.out | refine below_set ?_ GE479.out) | exact HB.out)⟩⟩
        ·replace c69 := Bool.eq_false_iff.mpr c69
         subst c69
         have H1 : (laws_FnExactTrieOfBook.j1 kj10 t469 true t470) = some r := by rw [if_neg (show ¬ (false = true) by decide)] at H; exact H
         clear H; have H := H1; clear H1
         have H' := Aside0.mk H
         clear H; have hnb78 := NB479_450.out; have hnc78 := NB450_479.out; have hnb79 := NB479_459.out; have hnc79 := NB459_479.out; have hnb80 := NB479_467.out; have hnc80 := NB467_479.out
         have hcz81_0 : w62.cell? ⟨gb479, 0, none⟩ = some (.slice none 0 0) := (blk_cell BK479.out 0).trans rfl
         have hfz81_0 := blk_frozen BK479.out 0; have hnb82 := NB459_450.out; have hnc82 := NB450_459.out; have hnb83 := NB459_467.out; have hnc83 := NB467_459.out
         have hcz84_0 : w62.cell? ⟨gb459, 0, none⟩ = some (.slice Ao19 t455.length co19) := (blk_cell BK459.out 0).trans rfl
         have hfz84_0 := blk_frozen BK459.out 0
         go_wp2_with (first | ((with_reducible refine gate_callee (f := 21) rfl ?_); refine goesL_ (some 57) rfl rfl Tryz.func21 (by kernel_rfl) rfl #[.agg #[.slice Ao63 t475.length co63], .agg #[.slice Ao19 t455.length co19]] rfl ax31 ?_; (with_reducible refine (laws_eqTrie.calls kj10 _ _ t475 _ _ t455 false _ ?side1 ?side2 ?side3 ?side4 A68.out).mono ?_); (case side1 => exact ax293); (case side2 => exact (Kd.R_reads' HO477.out).2.1); (case side3 => exact ax294); (case side4 => exact (Kd.R_reads' HO_460000.out).2.1); rintro e w85 ⟨rfl, hb⟩; refine ⟨_, rfl, ?_⟩; have n0_ := Aside0.mk (Kd.R_below ax295 hb); have n1_ := Aside0.mk (Kd.R_below ax296 hb); have n2_ := Aside0.mk (Kd.R_below ax297 hb); have n3_ := Aside0.mk (blk_below (g := gb450) (o := .cells #[.string a0_0, .string a0_1, .int .i64 a0_2] 32 (0, 0)) ax298 hb); have n4_ := Aside0.mk (blk_below (g := gb459) (o := .cells #[.slice Ao19 t455.length co19] 45 (0, 0)) ax299 hb); have n5_ := Aside0.mk (blk_below (g := gb467) (o := .cells #[.slice Ao26 t463.length co26] 45 (0, 0)) ax300 hb); have n6_ := Aside0.mk (blk_below (g := gb479) (o := .cells #[.slice Ao63 t475.length co63] 45 (0, 0)) ax301 hb); have n7_ := Aside0.mk (below_step ax302 hb); clear HO_460000; clear HO_468000; clear HO477; clear BK450; clear BK459; clear BK467; clear BK479; clear HB; have HO_460000 := n0_; have HO_468000 := n1_; have HO477 := n2_; have BK450 := n3_; have BK459 := n4_; have BK467 := n5_; have BK479 := n6_; have HB := n7_; clear n0_ n1_ n2_ n3_ n4_ n5_ n6_ n7_; (try clear hb); (try clear hb2); (try clear hk); (try clear hi)))
         go_meet
         case rel => exact ⟨_, (true), ax21, H', ⟨by have := HJ10.out; first | omega | exact Nat.le_refl _⟩, ⟨by (with_reducible repeat (first | apply Kd.R_alloc | apply Kd.R_drewN | apply Kd.R_drew)); exact HO_460000.out⟩, ⟨by (with_reducible repeat (first | apply Kd.R_alloc | apply Kd.R_drewN | apply Kd.R_drew)); exact HO_468000.out⟩, ⟨by (with_reducible repeat (first | apply Kd.R_alloc | apply Kd.R_drewN | apply Kd.R_drew)); exact Kd.R_mono HO477.out (fun _ hk => ⟨hk.1.2, hk.2⟩)⟩, ⟨by (with_reducible repeat (first | refine blk_drewN ?_ _ | refine blk_drew ?_ | refine blk_alloc ?_ _)); exact BK450.out⟩, ⟨by (with_reducible repeat (first | refine blk_drewN ?_ _ | refine blk_drew ?_ | refine blk_alloc ?_ _)); exact BK459.out⟩, ⟨by (with_reducible repeat (first | refine blk_drewN ?_ _ | refine blk_drew ?_ | refine blk_alloc ?_ _)); exact BK467.out⟩, ⟨by (with_reducible repeat (first | refine blk_drewN ?_ _ | refine blk_drew ?_ | refine blk_alloc ?_ _)); exact BK479.out⟩, ⟨by repeat (first | (with_reducible first | exact HB.out | apply below_alloc | apply pw_below_drewN | apply below_drew1 | refine below_set ?_ GE450.out | refine below_set ?_ GE459.out | refine below_set ?_ GE467.out | refine below_set ?_ GE479.out) | exact HB.out)⟩⟩
       case rest =>
        clear HC51
        try clear c1
        try clear c2
        try clear p2
        try clear c3
        try clear c3b0
        try clear c4
        try clear c5
        try clear c6
        try clear c7
        try clear c8
        try clear c14
        try clear c16
        try clear c19
        try clear c20
        try clear c21
        try clear c22
        try clear c23
        try clear c27
        try clear c28
        try clear c31
        try clear c32
        try clear c33
        try clear c35
        try clear c38
        try clear c39
        try clear c41
        try clear c44
        try clear c47
        try clear c47b0
        try clear c48
        try clear c48b0
        try clear c48b1
        try clear c52
        try clear c53
        try clear c58
        try clear c64
        try clear c65
        try clear c66
        try clear c69
        try clear c70
        try clear c71
        try clear c72
        try clear c74
        try clear c75
        try clear c78
        try clear c79
        try clear c80
        try clear c82
        try clear c83
        try clear hcz13_0
        try clear hcz13_1
        try clear hcz13_2
        try clear hcz15_0
        try clear hcz15_1
        try clear hcz15_2
        try clear hcz21_0
        try clear hcz22_0
        try clear hcz22_1
        try clear hcz22_2
        try clear hcz29_0
        try clear hcz34_0
        try clear hcz36_0
        try clear hcz40_0
        try clear hcz42_0
        try clear hcz54_0
        try clear hcz56_0
        try clear hcz59_0
        try clear hcz59_1
        try clear hcz59_2
        try clear hcz5_0
        try clear hcz5_1
        try clear hcz5_2
        try clear hcz67_0
        try clear hcz73_0
        try clear hcz76_0
        try clear hcz81_0
        try clear hcz84_0
        try clear hfz13_0
        try clear hfz13_1
        try clear hfz13_2
        try clear hfz15_0
        try clear hfz15_1
        try clear hfz15_2
        try clear hfz21_0
        try clear hfz22_0
        try clear hfz22_1
        try clear hfz22_2
        try clear hfz29_0
        try clear hfz34_0
        try clear hfz36_0
        try clear hfz40_0
        try clear hfz42_0
        try clear hfz54_0
        try clear hfz56_0
        try clear hfz59_0
        try clear hfz59_1
        try clear hfz59_2
        try clear hfz5_0
        try clear hfz5_1
        try clear hfz5_2
        try clear hfz67_0
        try clear hfz73_0
        try clear hfz76_0
        try clear hfz81_0
        try clear hfz84_0
        try clear p2
        obtain ⟨kq, x63_50, rfl, HA, HJ50, HO_460000, HO_468000, HO_480000, BK450, BK459, BK467, BK479, HB⟩ := hcut
        have hl468000_50 := (Kd.R_reads' HO_468000.out).1
        rw [hl468000_50] at HO_468000
        (try simp only [hl468000_50])
        (try simp only [hl468000_50] at BK450)
        (try simp only [hl468000_50] at BK459)
        (try simp only [hl468000_50] at BK467)
        (try simp only [hl468000_50] at BK479)
        (try simp only [hl468000_50] at HO_460000)
        (try simp only [hl468000_50] at HO_480000)
        cases kq with
        | zero => exact absurd HA.out (by simp [laws_FnExactTrieOfBook.j1])
        | succ kj50 =>
         have H := HA.out; clear HA
         simp only [laws_FnExactTrieOfBook.j1] at H
         by_cases c86 : x63_50 = true
         ·subst c86
          have H1 : (some false) = some r := by rw [if_pos rfl] at H; exact H
          clear H; have H := H1; clear H1
          exact absurd ((Option.some.inj H).trans HRT.out) (by decide)
         ·replace c86 := Bool.eq_false_iff.mpr c86
          subst c86
          have H1 : ((laws_heldTrie.f kj50 t470 1).bind fun t481 => (if t481 < 0 then (some false) else (if t481 = t469 then (some true) else (some false)))) = some r := by rw [if_neg (show ¬ (false = true) by decide)] at H; exact H
          clear H; have H := H1; clear H1; replace H := Option.bind_eq_some_iff.mp H
          obtain ⟨t481, A870, H⟩ := H
          replace H : (if t481 < 0 then (some false) else (if t481 = t469 then (some true) else (some false))) = some r := H
          have A87 := Aside0.mk A870; clear A870
          by_cases c88 : t481 < 0
          ·rw [if_pos c88] at H
           have c88b0 : decide (t481 < 0) = true := decide_eq_true c88
           clear c88
           exact absurd ((Option.some.inj H).trans HRT.out) (by decide)
          ·rw [if_neg c88] at H
           have c88b0 : decide (t481 < 0) = false := decide_eq_false c88
           clear c88
           by_cases c89 : t481 = t469
           ·rw [if_pos c89] at H
            have c89b0 : (t481 == t469) = true := beq_iff_eq.mpr c89
            have c89b1 : (t481 != t469) = false := bne_eq_false_iff_eq.mpr c89
            clear c89
            obtain rfl := Option.some.inj H
            have hnb90 := NB467_450.out; have hnc90 := NB450_467.out; have hnb91 := NB467_459.out; have hnc91 := NB459_467.out; have hnb92 := NB467_479.out; have hnc92 := NB479_467.out
            have hcz93_0 : wc.cell? ⟨gb467, 0, none⟩ = some (.slice Ao26 t470.length co26) := (blk_cell BK467.out 0).trans rfl
            have hfz93_0 := blk_frozen BK467.out 0
            go_wp2_with (first | ((with_reducible refine gate_callee (f := 23) rfl ?_); refine goesL_ (some 66) rfl rfl Tryz.func23 (by kernel_rfl) rfl #[.agg #[.slice Ao26 t470.length co26], .int .i64 1] rfl ax31 ?_; (with_reducible refine (laws_heldTrie.calls kj50 _ _ t470 1 t481 _ ?side1 ?side2 A87.out).mono ?_); (case side1 => exact ax289); (case side2 => exact (Kd.R_reads' HO_468000.out).2.1); rintro e w94 ⟨rfl, hb⟩; refine ⟨_, rfl, ?_⟩; have n0_ := Aside0.mk (Kd.R_below ax290 hb); have n1_ := Aside0.mk (Kd.R_below ax291 hb); have n2_ := Aside0.mk (Kd.R_below (by (with_reducible repeat (first | apply Kd.R_alloc | apply Kd.R_drewN | apply Kd.R_drew)); exact HO_480000.out) hb); have n3_ := Aside0.mk (blk_below (g := gb450) (o := .cells #[.string a0_0, .string a0_1, .int .i64 a0_2] 32 (0, 0)) ax269 hb); have n4_ := Aside0.mk (blk_below (g := gb459) (o := .cells #[.slice Ao19 t455.length co19] 45 (0, 0)) ax276 hb); have n5_ := Aside0.mk (blk_below (g := gb467) (o := .cells #[.slice Ao26 t470.length co26] 45 (0, 0)) ax288 hb); have n6_ := Aside0.mk (blk_below (g := gb479) (o := .cells #[.slice Ao63 t475.length co63] 45 (0, 0)) (by (with_reducible repeat (first | refine blk_drewN ?_ _ | refine blk_drew ?_ | refine blk_alloc ?_ _)); exact BK479.out) hb); have n7_ := Aside0.mk (below_step ax302 hb); clear HO_460000; clear HO_468000; clear HO_480000; clear BK450; clear BK459; clear BK467; clear BK479; clear HB; have HO_460000 := n0_; have HO_468000 := n1_; have HO_480000 := n2_; have BK450 := n3_; have BK459 := n4_; have BK467 := n5_; have BK479 := n6_; have HB := n7_; clear n0_ n1_ n2_ n3_ n4_ n5_ n6_ n7_; (try clear hb); (try clear hb2); (try clear hk); (try clear hi)))
            go_ret
            exact ⟨by first | rfl | (simp [errW_none, errW_some] <;> rfl) | (simp [*, errW_none, errW_some] <;> rfl), by repeat (first | (with_reducible first | exact HB.out | apply below_alloc | apply pw_below_drewN | apply below_drew1 | refine below_set ?_ GE450.out | refine below_set ?_ GE459.out | refine below_set ?_ GE467.out | refine below_set ?_ GE479.out) | exact HB.out)⟩
           ·rw [if_neg c89] at H
            have c89b0 : (t481 == t469) = false := beq_eq_false_iff_ne.mpr c89
            have c89b1 : (t481 != t469) = true := bne_iff_ne.mpr c89
            exact absurd ((Option.some.inj H).trans HRT.out) (by decide)
      ·rw [if_neg c48] at H
       have c48b0 : (t471 == t469) = false := beq_eq_false_iff_ne.mpr c48
       have c48b1 : (t471 != t469) = true := bne_iff_ne.mpr c48
       exact absurd ((Option.some.inj H).trans HRT.out) (by decide)

end Go.Proofs.YtmecniejpoopfaaGreatDoor.X

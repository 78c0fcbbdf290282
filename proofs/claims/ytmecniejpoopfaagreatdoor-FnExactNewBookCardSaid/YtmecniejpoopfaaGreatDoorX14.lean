-- By gen.py (the session's own program over the kit's printer): functions of the program, each with its contract. Lean checks it.
import Derived.Test.YtmecniejpoopfaaGreatDoorX0
import Derived.Test.YtmecniejpoopfaaGreatDoorX8
import Derived.Test.YtmecniejpoopfaaGreatDoorX13
namespace Go.Proofs.YtmecniejpoopfaaGreatDoor.X
open Go.RowKit Go.Proofs.YtmecniejpoopfaaGreatDoorW.PrintWords Go.Proofs.YtmecniejpoopfaaGreatDoorW.PrintLast Go.Proofs.YtmecniejpoopfaaGreatDoorW.PrintMore
attribute [local go_sem] max2_int min2_int max_two min_two max_three min_three max_four min_four   -- for this text's walks alone
set_option linter.unusedVariables false
set_option linter.unusedSimpArgs false

/-! ### laws_FnExactNewBook: function 3 -/
def laws_FnExactNewBook.j0 : Nat → List ByteArray → List ByteArray → Bool → Option (Bool)
 | 0, _, _, _ => none
 | k + 1, x0, x6, x35 => if x35 = true then (some false) else ((laws_toStringS.f k x0).bind fun t302 => ((laws_eqStringS.f k x6 t302).bind fun t305 => (if t305 = true then (some true) else (some false))))
def laws_FnExactNewBook.f (k : Nat) (l0 : List ByteArray) : Option (Bool) := (laws_szStringS.f k l0 1048576).bind fun t284 => (if t284 < 0 then (some true) else ((laws_toStringS.f k l0).bind fun t285 => ((spec_NewBook.f k t285).bind fun bt288 => ((laws_toStringS.f k l0).bind fun t293 => ((impl_NewBook.f k t293).bind fun bt296 => ((laws_eqBook.f bt296.1 bt296.2.1 bt296.2.2.1 bt288.1 bt288.2.1 bt288.2.2.1).bind fun t301 => (if t301 = true then (laws_FnExactNewBook.j0 k l0 t293 (bt296.2.2.2 != bt288.2.2.2)) else (laws_FnExactNewBook.j0 k l0 t293 true))))))))
theorem laws_FnExactNewBook.mono_l : ∀ k, (∀ y0 y1 y2, LeO (laws_FnExactNewBook.j0 k y0 y1 y2) (laws_FnExactNewBook.j0 (k + 1) y0 y1 y2))
 | 0 => fun _ _ _ r h => by simp [laws_FnExactNewBook.j0] at h
 | k + 1 => by
  have ih0 := laws_FnExactNewBook.mono_l k
  ·intro y0 y1 y2
   unfold laws_FnExactNewBook.j0
   repeat' first
   | (with_reducible exact ih0 _ _ _)
   | (with_reducible exact impl_NewBook.mono _ _)
   | (with_reducible exact laws_eqStringS.mono _ _ _)
   | (with_reducible exact laws_szStringS.mono _ _ _)
   | (with_reducible exact laws_toStringS.mono _ _)
   | (with_reducible exact spec_NewBook.mono _ _)
   | (with_reducible exact LeO.refl _)
   | (with_reducible exact LeO.none _)
   | (with_reducible refine LeO.ite ?_ ?_)
   | (with_reducible refine LeO.bind ?_ (fun _ => ?_))
   | exact ih0 _ _ _
   | exact impl_NewBook.mono _ _
   | exact laws_eqStringS.mono _ _ _
   | exact laws_szStringS.mono _ _ _
   | exact laws_toStringS.mono _ _
   | exact spec_NewBook.mono _ _
   | exact LeO.none _
   | refine LeO.ite ?_ ?_
   | refine LeO.bind ?_ (fun _ => ?_)
theorem laws_FnExactNewBook.mono : ∀ a0 k, LeO (laws_FnExactNewBook.f k a0) (laws_FnExactNewBook.f (k + 1) a0) := by
 intro a0 k
 have ih0 := laws_FnExactNewBook.mono_l k
 unfold laws_FnExactNewBook.f
 repeat' first
   | (with_reducible exact ih0 _ _ _)
   | (with_reducible exact impl_NewBook.mono _ _)
   | (with_reducible exact laws_eqStringS.mono _ _ _)
   | (with_reducible exact laws_szStringS.mono _ _ _)
   | (with_reducible exact laws_toStringS.mono _ _)
   | (with_reducible exact spec_NewBook.mono _ _)
   | (with_reducible exact LeO.refl _)
   | (with_reducible exact LeO.none _)
   | (with_reducible refine LeO.ite ?_ ?_)
   | (with_reducible refine LeO.bind ?_ (fun _ => ?_))
   | exact ih0 _ _ _
   | exact impl_NewBook.mono _ _
   | exact laws_eqStringS.mono _ _ _
   | exact laws_szStringS.mono _ _ _
   | exact laws_toStringS.mono _ _
   | exact spec_NewBook.mono _ _
   | exact LeO.none _
   | refine LeO.ite ?_ ?_
   | refine LeO.bind ?_ (fun _ => ?_)
set_option maxHeartbeats 8000000 in
set_option maxRecDepth 100000 in
theorem laws_FnExactNewBook.calls (k : Nat) (A0 : Option Addr) (c0 : Nat) (l0 : List ByteArray) (r : Bool) (w : World) (hr0 : Kd.C Kd.string w A0 l0.length l0) (hc0 : l0.length ≤ c0) (hG : GL w) (h : laws_FnExactNewBook.f k l0 = some r) (hr_ : r = true) :
  Calls Tryz.prog 3 #[.slice A0 l0.length c0] w fun e w' => e = .returned (.bool r) ∧ Below w.heap.size w w' := by
 have hu25 := Tryz.underlying25; have HR0 := Aside0.mk hr0; have HC0 := Aside0.mk hc0; clear hr0 hc0; have HB := Aside0.mk (Below.refl w.heap.size w); have HG := Aside0.mk hG; clear hG; have HRT := Aside0.mk hr_; clear hr_
 have H : ((laws_szStringS.f k l0 1048576).bind fun t284 => (if t284 < 0 then (some true) else ((laws_toStringS.f k l0).bind fun t285 => ((spec_NewBook.f k t285).bind fun bt288 => ((laws_toStringS.f k l0).bind fun t293 => ((impl_NewBook.f k t293).bind fun bt296 => ((laws_eqBook.f bt296.1 bt296.2.1 bt296.2.2.1 bt288.1 bt288.2.1 bt288.2.2.1).bind fun t301 => (if t301 = true then (laws_FnExactNewBook.j0 k l0 t293 (bt296.2.2.2 != bt288.2.2.2)) else (laws_FnExactNewBook.j0 k l0 t293 true))))))))) = some r := h
 clear h; replace H := Option.bind_eq_some_iff.mp H
 obtain ⟨t284, A20, H⟩ := H
 replace H : (if t284 < 0 then (some true) else ((laws_toStringS.f k l0).bind fun t285 => ((spec_NewBook.f k t285).bind fun bt288 => ((laws_toStringS.f k l0).bind fun t293 => ((impl_NewBook.f k t293).bind fun bt296 => ((laws_eqBook.f bt296.1 bt296.2.1 bt296.2.2.1 bt288.1 bt288.2.1 bt288.2.2.1).bind fun t301 => (if t301 = true then (laws_FnExactNewBook.j0 k l0 t293 (bt296.2.2.2 != bt288.2.2.2)) else (laws_FnExactNewBook.j0 k l0 t293 true)))))))) = some r := H
 have A2 := Aside0.mk A20; clear A20
 by_cases c3 : t284 < 0
 ·rw [if_pos c3] at H
  have c3b0 : decide (t284 < 0) = true := decide_eq_true c3
  clear c3
  obtain rfl := Option.some.inj H
  go_enter Tryz.func3, Tryz.ntmps3
  go_wp2_with (first | ((with_reducible refine gate_callee (f := 8) rfl ?_); refine goesL_ (some 11) rfl rfl Tryz.func8 (by kernel_rfl) rfl #[.slice A0 l0.length c0, .int .i64 1048576] rfl ax31 ?_; (with_reducible refine (laws_szStringS.calls k _ _ l0 1048576 t284 _ ?side1 ?side2 A2.out).mono ?_); (case side1 => exact ax97); (case side2 => exact HC0.out); rintro e w' ⟨rfl, ⟨nd, rfl⟩⟩; refine ⟨_, rfl, ?_⟩))
  go_ret
  exact ⟨by first | rfl | (simp [errW_none, errW_some] <;> rfl) | (simp [*, errW_none, errW_some] <;> rfl), by repeat (first | (with_reducible first | exact HB.out | apply below_alloc | apply pw_below_drewN | apply below_drew1) | exact HB.out)⟩
 ·rw [if_neg c3] at H
  have c3b0 : decide (t284 < 0) = false := decide_eq_false c3
  clear c3; replace H := Option.bind_eq_some_iff.mp H
  obtain ⟨t285, A40, H⟩ := H
  replace H : ((spec_NewBook.f k t285).bind fun bt288 => ((laws_toStringS.f k l0).bind fun t293 => ((impl_NewBook.f k t293).bind fun bt296 => ((laws_eqBook.f bt296.1 bt296.2.1 bt296.2.2.1 bt288.1 bt288.2.1 bt288.2.2.1).bind fun t301 => (if t301 = true then (laws_FnExactNewBook.j0 k l0 t293 (bt296.2.2.2 != bt288.2.2.2)) else (laws_FnExactNewBook.j0 k l0 t293 true)))))) = some r := H
  have A4 := Aside0.mk A40; clear A40; replace H := Option.bind_eq_some_iff.mp H
  obtain ⟨⟨t288, t289, t290, t291⟩, A50, H⟩ := H
  replace H : ((laws_toStringS.f k l0).bind fun t293 => ((impl_NewBook.f k t293).bind fun bt296 => ((laws_eqBook.f bt296.1 bt296.2.1 bt296.2.2.1 t288 t289 t290).bind fun t301 => (if t301 = true then (laws_FnExactNewBook.j0 k l0 t293 (bt296.2.2.2 != t291)) else (laws_FnExactNewBook.j0 k l0 t293 true))))) = some r := H
  have A5 := Aside0.mk A50; clear A50; replace H := Option.bind_eq_some_iff.mp H
  obtain ⟨t293, A60, H⟩ := H
  replace H : ((impl_NewBook.f k t293).bind fun bt296 => ((laws_eqBook.f bt296.1 bt296.2.1 bt296.2.2.1 t288 t289 t290).bind fun t301 => (if t301 = true then (laws_FnExactNewBook.j0 k l0 t293 (bt296.2.2.2 != t291)) else (laws_FnExactNewBook.j0 k l0 t293 true)))) = some r := H
  have A6 := Aside0.mk A60; clear A60; replace H := Option.bind_eq_some_iff.mp H
  obtain ⟨⟨t296, t297, t298, t299⟩, A70, H⟩ := H
  replace H : ((laws_eqBook.f t296 t297 t298 t288 t289 t290).bind fun t301 => (if t301 = true then (laws_FnExactNewBook.j0 k l0 t293 (t299 != t291)) else (laws_FnExactNewBook.j0 k l0 t293 true))) = some r := H
  have A7 := Aside0.mk A70; clear A70; have HC8 := Aside0.mk H; clear H
  go_enter Tryz.func3, Tryz.ntmps3
  go_upto_region 8 with (first | ((with_reducible refine gate_callee (f := 8) rfl ?_); refine goesL_ (some 11) rfl rfl Tryz.func8 (by kernel_rfl) rfl #[.slice A0 l0.length c0, .int .i64 1048576] rfl ax31 ?_; (with_reducible refine (laws_szStringS.calls k _ _ l0 1048576 t284 _ ?side1 ?side2 A2.out).mono ?_); (case side1 => exact ax97); (case side2 => exact HC0.out); rintro e w' ⟨rfl, ⟨nd, rfl⟩⟩; refine ⟨_, rfl, ?_⟩) | ((with_reducible refine gate_callee (f := 10) rfl ?_); refine goesL_ (some 16) rfl rfl Tryz.func10 (by kernel_rfl) rfl #[.slice A0 l0.length c0] rfl ax31 ?_; (with_reducible refine (laws_toStringS.calls k _ _ l0 t285 _ ?side1 ?side2 A4.out).mono ?_); (case side1 => exact ax97); (case side2 => exact HC0.out); rintro e w9 ⟨v286, rfl, ho0, hb⟩; refine ⟨_, rfl, ?_⟩; have n0_ := Aside0.mk (Kd.R_lower ho0 (below_size ax25)); have n1_ := Aside0.mk (below_step ax25 hb); clear HB; have HO287 := n0_; have HB := n1_; clear n0_ n1_; (try clear hb); (try clear hb2); (try clear hk); (try clear hi); (try clear ho0); obtain ⟨Ao10, co10, eo10⟩ := Kd.R_slice HO287.out; subst eo10) | ((with_reducible refine gate_callee (f := 9) rfl ?_); refine goesL_ (some 17) rfl rfl Tryz.func9 (by kernel_rfl) rfl #[.slice Ao10 t285.length co10] rfl ax31 ?_; (with_reducible refine (spec_NewBook.calls k _ _ t285 t288 t289 t290 t291 _ ?side1 ?side2 A5.out).mono ?_); (case side1 => repeat (first | exact (Kd.R_reads' HO287.out).2.2 | (with_reducible refine Kd.C_alloc ?_ _) | (with_reducible refine Kd.C_drewN ?_ _) | (with_reducible refine Kd.C_drew ?_))); (case side2 => exact (Kd.R_reads' HO287.out).2.1); rintro e w11 ⟨rfl, hb⟩; refine ⟨_, rfl, ?_⟩; have n0_ := Aside0.mk (Kd.R_below ax183 hb); have n1_ := Aside0.mk (below_step ax25 hb); clear HO287; clear HB; have HO287 := n0_; have HB := n1_; clear n0_ n1_; (try clear hb); (try clear hb2); (try clear hk); (try clear hi)) | ((with_reducible refine gate_dst (N := 4) rfl ?_); refine box_event ?hg (N := 4) ?hd (cs := #[.string (⟨#[]⟩ : ByteArray), .string (⟨#[]⟩ : ByteArray), .int .i64 0]) (t := 25) ?hr ?_; (case hd => rfl); (case hg => rfl); (case hr => exact ax23); intro gb292 hg w12 hbox hb; have n0_ := Aside0.mk (Kd.R_below ax183 hb); have n1_ := Aside0.mk (below_step ax25 hb); have n2_ := Aside0.mk (hbox); have n3_ := Aside0.mk ((ax54 : w.heap.size ≤ gb292)); have n4_ := Aside0.mk ((ax54 : w.heap.size ≤ gb292)); clear HO287; clear HB; have HO287 := n0_; have HB := n1_; have BK292 := n2_; have GW292 := n3_; have GE292 := n4_; clear n0_ n1_ n2_ n3_ n4_; clear hb hbox hg; have hcz13_0 : w12.cell? ⟨gb292, 0, none⟩ = some (.string (⟨#[]⟩ : ByteArray)) := (blk_cell BK292.out 0).trans rfl; have hcz13_1 : w12.cell? ⟨gb292, 1, none⟩ = some (.string (⟨#[]⟩ : ByteArray)) := (blk_cell BK292.out 1).trans rfl; have hcz13_2 : w12.cell? ⟨gb292, 2, none⟩ = some (.int .i64 0) := (blk_cell BK292.out 2).trans rfl; have hfz13_0 := blk_frozen BK292.out 0; have hfz13_1 := blk_frozen BK292.out 1; have hfz13_2 := blk_frozen BK292.out 2) | ((with_reducible refine gate_callee (f := 10) rfl ?_); refine goesL_ (some 21) rfl rfl Tryz.func10 (by kernel_rfl) rfl #[.slice A0 l0.length c0] rfl ax31 ?_; (with_reducible refine (laws_toStringS.calls k _ _ l0 t293 _ ?side1 ?side2 A6.out).mono ?_); (case side1 => exact Kd.C_below HR0.out ax184); (case side2 => exact HC0.out); rintro e w14 ⟨v294, rfl, ho0, hb⟩; refine ⟨_, rfl, ?_⟩; have n0_ := Aside0.mk (Kd.R_elder' ax185 (Kd.R_base ho0) hb); have n1_ := Aside0.mk (Kd.R_lower (Kd.R_new' ho0 (Kd.R_lt ax185)) (below_size ax184)); have n2_ := Aside0.mk (blk_below (g := gb292) (o := .cells #[.string t288, .string t289, .int .i64 t290] 25 (0, 0)) (by (with_reducible repeat (first | refine blk_drewN ?_ _ | refine blk_drew ?_ | refine blk_alloc ?_ _)); refine blk_put (cs := #[.string t288, .string t289, .int .i64 0]) ?_ 2 _ rfl; (with_reducible repeat (first | refine blk_drewN ?_ _ | refine blk_drew ?_ | refine blk_alloc ?_ _)); refine blk_put (cs := #[.string t288, .string (⟨#[]⟩ : ByteArray), .int .i64 0]) ?_ 1 _ rfl; (with_reducible repeat (first | refine blk_drewN ?_ _ | refine blk_drew ?_ | refine blk_alloc ?_ _)); refine blk_put (cs := #[.string (⟨#[]⟩ : ByteArray), .string (⟨#[]⟩ : ByteArray), .int .i64 0]) ?_ 0 _ rfl; (with_reducible repeat (first | refine blk_drewN ?_ _ | refine blk_drew ?_ | refine blk_alloc ?_ _)); exact BK292.out) hb); have n3_ := Aside0.mk (below_step ax184 hb); clear HO287; clear BK292; clear HB; have HO287 := n0_; have HO295 := n1_; have BK292 := n2_; have HB := n3_; clear n0_ n1_ n2_ n3_; (try clear hb); (try clear hb2); (try clear hk); (try clear hi); (try clear ho0); obtain ⟨Ao15, co15, eo15⟩ := Kd.R_slice HO295.out; subst eo15) | ((with_reducible refine gate_callee (f := 11) rfl ?_); refine goesL_ (some 24) rfl rfl Tryz.func11 (by kernel_rfl) rfl #[.slice Ao15 t293.length co15] rfl ax31 ?_; (with_reducible refine (impl_NewBook.calls k _ _ t293 t296 t297 t298 t299 _ ?side1 ?side2 ?side3 A7.out).mono ?_); (case side1 => repeat (first | exact (Kd.R_reads' HO295.out).2.2 | (with_reducible refine Kd.C_alloc ?_ _) | (with_reducible refine Kd.C_drewN ?_ _) | (with_reducible refine Kd.C_drew ?_))); (case side2 => exact (Kd.R_reads' HO295.out).2.1); (case side3 => exact GL.below HG.out ax184); rintro e w16 ⟨rfl, hb⟩; refine ⟨_, rfl, ?_⟩; have n0_ := Aside0.mk (Kd.R_below ax183 hb); have n1_ := Aside0.mk (Kd.R_below ax186 hb); have n2_ := Aside0.mk (blk_below (g := gb292) (o := .cells #[.string t288, .string t289, .int .i64 t290] 25 (0, 0)) ax187 hb); have n3_ := Aside0.mk (below_step ax184 hb); clear HO287; clear HO295; clear BK292; clear HB; have HO287 := n0_; have HO295 := n1_; have BK292 := n2_; have HB := n3_; clear n0_ n1_ n2_ n3_; (try clear hb); (try clear hb2); (try clear hk); (try clear hi)) | ((with_reducible refine gate_dst (N := 7) rfl ?_); refine box_event ?hg (N := 7) ?hd (cs := #[.string (⟨#[]⟩ : ByteArray), .string (⟨#[]⟩ : ByteArray), .int .i64 0]) (t := 25) ?hr ?_; (case hd => rfl); (case hg => rfl); (case hr => exact ax23); intro gb300 hg w17 hbox hb; have n0_ := Aside0.mk (Kd.R_below ax183 hb); have n1_ := Aside0.mk (Kd.R_below ax186 hb); have n2_ := Aside0.mk (blk_below (g := gb292) (o := .cells #[.string t288, .string t289, .int .i64 t290] 25 (0, 0)) ax187 hb); have n3_ := Aside0.mk (below_step ax184 hb); have n4_ := Aside0.mk (hbox); have n5_ := Aside0.mk ((ax188 : w.heap.size ≤ gb300)); have n6_ := Aside0.mk ((ax188 : w.heap.size ≤ gb300)); have n7_ := Aside0.mk ((by rw [hg]; exact Nat.ne_of_lt (blk_lt (g := gb292) (o := .cells #[.string t288, .string t289, .int .i64 t290] 25 (0, 0)) ax187) : gb292 ≠ gb300)); have n8_ := Aside0.mk ((by rw [hg]; exact Nat.ne_of_gt (blk_lt (g := gb292) (o := .cells #[.string t288, .string t289, .int .i64 t290] 25 (0, 0)) ax187) : gb300 ≠ gb292)); clear HO287; clear HO295; clear BK292; clear HB; have HO287 := n0_; have HO295 := n1_; have BK292 := n2_; have HB := n3_; have BK300 := n4_; have GW300 := n5_; have GE300 := n6_; have NB292_300 := n7_; have NB300_292 := n8_; clear n0_ n1_ n2_ n3_ n4_ n5_ n6_ n7_ n8_; clear hb hbox hg; have hnb18 := NB300_292.out; have hnc18 := NB292_300.out; have hcz19_0 : w17.cell? ⟨gb300, 0, none⟩ = some (.string (⟨#[]⟩ : ByteArray)) := (blk_cell BK300.out 0).trans rfl; have hcz19_1 : w17.cell? ⟨gb300, 1, none⟩ = some (.string (⟨#[]⟩ : ByteArray)) := (blk_cell BK300.out 1).trans rfl; have hcz19_2 : w17.cell? ⟨gb300, 2, none⟩ = some (.int .i64 0) := (blk_cell BK300.out 2).trans rfl; have hfz19_0 := blk_frozen BK300.out 0; have hfz19_1 := blk_frozen BK300.out 1; have hfz19_2 := blk_frozen BK300.out 2))
  (try simp only [Act.put, List.setIfInBounds_toArray, List.set_cons_zero, List.set_cons_succ])
  go_cut [35] (fun v35 wc => ∃ (kq : Nat) (x35_7 : Bool), v35 = .bool x35_7 ∧ Aside0 (laws_FnExactNewBook.j0 kq l0 t293 x35_7 = some r) ∧ Aside0 (kq ≤ k) ∧ Aside0 (Kd.R Kd.string 9 wc w.heap.size (fun _ => True) (.slice Ao15 t293.length co15) t293) ∧ Aside0 (wc.heap[gb292]? = some (.cells #[.string t288, .string t289, .int .i64 t290] 25 (0, 0))) ∧ Aside0 (wc.heap[gb300]? = some (.cells #[.string t296, .string t297, .int .i64 t298] 25 (0, 0))) ∧ Aside0 (Below w.heap.size w wc))
  case first =>
   have H := HC8.out; clear HC8; replace H := Option.bind_eq_some_iff.mp H
   obtain ⟨t301, A200, H⟩ := H
   replace H : (if t301 = true then (laws_FnExactNewBook.j0 k l0 t293 (t299 != t291)) else (laws_FnExactNewBook.j0 k l0 t293 true)) = some r := H
   have A20 := Aside0.mk A200; clear A200
   by_cases c21 : t301 = true
   ·subst c21
    have H1 : (laws_FnExactNewBook.j0 k l0 t293 (t299 != t291)) = some r := by rw [if_pos rfl] at H; exact H
    clear H; have H := H1; clear H1
    have H' := Aside0.mk H
    clear H; have hnb22 := NB300_292.out; have hnc22 := NB292_300.out
    have hcz23_0 : w17.cell? ⟨gb300, 0, none⟩ = some (.string (⟨#[]⟩ : ByteArray)) := (blk_cell BK300.out 0).trans rfl
    have hcz23_1 : w17.cell? ⟨gb300, 1, none⟩ = some (.string (⟨#[]⟩ : ByteArray)) := (blk_cell BK300.out 1).trans rfl
    have hcz23_2 : w17.cell? ⟨gb300, 2, none⟩ = some (.int .i64 0) := (blk_cell BK300.out 2).trans rfl
    have hfz23_0 := blk_frozen BK300.out 0; have hfz23_1 := blk_frozen BK300.out 1; have hfz23_2 := blk_frozen BK300.out 2
    have hcz24_0 : w17.cell? ⟨gb292, 0, none⟩ = some (.string t288) := (blk_cell BK292.out 0).trans rfl
    have hcz24_1 : w17.cell? ⟨gb292, 1, none⟩ = some (.string t289) := (blk_cell BK292.out 1).trans rfl
    have hcz24_2 : w17.cell? ⟨gb292, 2, none⟩ = some (.int .i64 t290) := (blk_cell BK292.out 2).trans rfl
    have hfz24_0 := blk_frozen BK292.out 0; have hfz24_1 := blk_frozen BK292.out 1; have hfz24_2 := blk_frozen BK292.out 2
    go_wp2_with (first | ((with_reducible refine gate_callee (f := 12) rfl ?_); refine goesL_ (some 29) rfl rfl Tryz.func12 (by kernel_rfl) rfl #[.agg #[.string t296, .string t297, .int .i64 t298], .agg #[.string t288, .string t289, .int .i64 t290]] rfl ax31 ?_; (with_reducible refine (laws_eqBook.calls t296 t297 t298 t288 t289 t290 true _ A20.out).mono ?_); rintro e w25 ⟨rfl, hb⟩; refine ⟨_, rfl, ?_⟩; have n0_ := Aside0.mk (Kd.R_below ax189 hb); have n1_ := Aside0.mk (Kd.R_below ax190 hb); have n2_ := Aside0.mk (blk_below (g := gb292) (o := .cells #[.string t288, .string t289, .int .i64 t290] 25 (0, 0)) ax191 hb); have n3_ := Aside0.mk (blk_below (g := gb300) (o := .cells #[.string t296, .string t297, .int .i64 t298] 25 (0, 0)) ax192 hb); have n4_ := Aside0.mk (below_step ax193 hb); clear HO287; clear HO295; clear BK292; clear BK300; clear HB; have HO287 := n0_; have HO295 := n1_; have BK292 := n2_; have BK300 := n3_; have HB := n4_; clear n0_ n1_ n2_ n3_ n4_; (try clear hb); (try clear hb2); (try clear hk); (try clear hi)))
    go_meet
    case rel => exact ⟨_, ((t299 != t291)), ax21, H', ⟨by first | omega | exact Nat.le_refl _⟩, ⟨by (with_reducible repeat (first | apply Kd.R_alloc | apply Kd.R_drewN | apply Kd.R_drew)); exact Kd.R_mono HO295.out (fun _ hk => trivial)⟩, ⟨by (with_reducible repeat (first | refine blk_drewN ?_ _ | refine blk_drew ?_ | refine blk_alloc ?_ _)); exact BK292.out⟩, ⟨by (with_reducible repeat (first | refine blk_drewN ?_ _ | refine blk_drew ?_ | refine blk_alloc ?_ _)); exact BK300.out⟩, ⟨by repeat (first | (with_reducible first | exact HB.out | apply below_alloc | apply pw_below_drewN | apply below_drew1 | refine below_set ?_ GE292.out | refine below_set ?_ GE300.out) | exact HB.out)⟩⟩
   ·replace c21 := Bool.eq_false_iff.mpr c21
    subst c21
    have H1 : (laws_FnExactNewBook.j0 k l0 t293 true) = some r := by rw [if_neg (show ¬ (false = true) by decide)] at H; exact H
    clear H; have H := H1; clear H1
    have H' := Aside0.mk H
    clear H; have hnb26 := NB300_292.out; have hnc26 := NB292_300.out
    have hcz27_0 : w17.cell? ⟨gb300, 0, none⟩ = some (.string (⟨#[]⟩ : ByteArray)) := (blk_cell BK300.out 0).trans rfl
    have hcz27_1 : w17.cell? ⟨gb300, 1, none⟩ = some (.string (⟨#[]⟩ : ByteArray)) := (blk_cell BK300.out 1).trans rfl
    have hcz27_2 : w17.cell? ⟨gb300, 2, none⟩ = some (.int .i64 0) := (blk_cell BK300.out 2).trans rfl
    have hfz27_0 := blk_frozen BK300.out 0; have hfz27_1 := blk_frozen BK300.out 1; have hfz27_2 := blk_frozen BK300.out 2
    have hcz28_0 : w17.cell? ⟨gb292, 0, none⟩ = some (.string t288) := (blk_cell BK292.out 0).trans rfl
    have hcz28_1 : w17.cell? ⟨gb292, 1, none⟩ = some (.string t289) := (blk_cell BK292.out 1).trans rfl
    have hcz28_2 : w17.cell? ⟨gb292, 2, none⟩ = some (.int .i64 t290) := (blk_cell BK292.out 2).trans rfl
    have hfz28_0 := blk_frozen BK292.out 0; have hfz28_1 := blk_frozen BK292.out 1; have hfz28_2 := blk_frozen BK292.out 2
    go_wp2_with (first | ((with_reducible refine gate_callee (f := 12) rfl ?_); refine goesL_ (some 29) rfl rfl Tryz.func12 (by kernel_rfl) rfl #[.agg #[.string t296, .string t297, .int .i64 t298], .agg #[.string t288, .string t289, .int .i64 t290]] rfl ax31 ?_; (with_reducible refine (laws_eqBook.calls t296 t297 t298 t288 t289 t290 false _ A20.out).mono ?_); rintro e w29 ⟨rfl, hb⟩; refine ⟨_, rfl, ?_⟩; have n0_ := Aside0.mk (Kd.R_below ax189 hb); have n1_ := Aside0.mk (Kd.R_below ax190 hb); have n2_ := Aside0.mk (blk_below (g := gb292) (o := .cells #[.string t288, .string t289, .int .i64 t290] 25 (0, 0)) ax191 hb); have n3_ := Aside0.mk (blk_below (g := gb300) (o := .cells #[.string t296, .string t297, .int .i64 t298] 25 (0, 0)) ax192 hb); have n4_ := Aside0.mk (below_step ax193 hb); clear HO287; clear HO295; clear BK292; clear BK300; clear HB; have HO287 := n0_; have HO295 := n1_; have BK292 := n2_; have BK300 := n3_; have HB := n4_; clear n0_ n1_ n2_ n3_ n4_; (try clear hb); (try clear hb2); (try clear hk); (try clear hi)))
    go_meet
    case rel => exact ⟨_, (true), ax21, H', ⟨by first | omega | exact Nat.le_refl _⟩, ⟨by (with_reducible repeat (first | apply Kd.R_alloc | apply Kd.R_drewN | apply Kd.R_drew)); exact Kd.R_mono HO295.out (fun _ hk => trivial)⟩, ⟨by (with_reducible repeat (first | refine blk_drewN ?_ _ | refine blk_drew ?_ | refine blk_alloc ?_ _)); exact BK292.out⟩, ⟨by (with_reducible repeat (first | refine blk_drewN ?_ _ | refine blk_drew ?_ | refine blk_alloc ?_ _)); exact BK300.out⟩, ⟨by repeat (first | (with_reducible first | exact HB.out | apply below_alloc | apply pw_below_drewN | apply below_drew1 | refine below_set ?_ GE292.out | refine below_set ?_ GE300.out) | exact HB.out)⟩⟩
  case rest =>
   clear HC8
   try clear c1
   try clear c2
   try clear p2
   try clear c3
   try clear c3b0
   try clear c8
   try clear c9
   try clear c10
   try clear c11
   try clear c12
   try clear c18
   try clear c21
   try clear c22
   try clear c26
   try clear hcz13_0
   try clear hcz13_1
   try clear hcz13_2
   try clear hcz19_0
   try clear hcz19_1
   try clear hcz19_2
   try clear hcz23_0
   try clear hcz23_1
   try clear hcz23_2
   try clear hcz24_0
   try clear hcz24_1
   try clear hcz24_2
   try clear hcz27_0
   try clear hcz27_1
   try clear hcz27_2
   try clear hcz28_0
   try clear hcz28_1
   try clear hcz28_2
   try clear hfz13_0
   try clear hfz13_1
   try clear hfz13_2
   try clear hfz19_0
   try clear hfz19_1
   try clear hfz19_2
   try clear hfz23_0
   try clear hfz23_1
   try clear hfz23_2
   try clear hfz24_0
   try clear hfz24_1
   try clear hfz24_2
   try clear hfz27_0
   try clear hfz27_1
   try clear hfz27_2
   try clear hfz28_0
   try clear hfz28_1
   try clear hfz28_2
   obtain ⟨kq, x35_7, rfl, HA, HJ7, HO_6, BK292, BK300, HB⟩ := hcut
   cases kq with
   | zero => exact absurd HA.out (by simp [laws_FnExactNewBook.j0])
   | succ kj7 =>
    have H := HA.out; clear HA
    simp only [laws_FnExactNewBook.j0] at H
    by_cases c30 : x35_7 = true
    ·subst c30
     have H1 : (some false) = some r := by rw [if_pos rfl] at H; exact H
     clear H; have H := H1; clear H1
     exact absurd ((Option.some.inj H).trans HRT.out) (by decide)
    ·replace c30 := Bool.eq_false_iff.mpr c30
     subst c30
     have H1 : ((laws_toStringS.f kj7 l0).bind fun t302 => ((laws_eqStringS.f kj7 t293 t302).bind fun t305 => (if t305 = true then (some true) else (some false)))) = some r := by rw [if_neg (show ¬ (false = true) by decide)] at H; exact H
     clear H; have H := H1; clear H1; replace H := Option.bind_eq_some_iff.mp H
     obtain ⟨t302, A310, H⟩ := H
     replace H : ((laws_eqStringS.f kj7 t293 t302).bind fun t305 => (if t305 = true then (some true) else (some false))) = some r := H
     have A31 := Aside0.mk A310; clear A310; replace H := Option.bind_eq_some_iff.mp H
     obtain ⟨t305, A320, H⟩ := H
     replace H : (if t305 = true then (some true) else (some false)) = some r := H
     have A32 := Aside0.mk A320; clear A320
     by_cases c33 : t305 = true
     ·subst c33
      have H1 : (some true) = some r := by rw [if_pos rfl] at H; exact H
      clear H; have H := H1; clear H1
      obtain rfl := Option.some.inj H
      go_wp2_with (first | ((with_reducible refine gate_callee (f := 10) rfl ?_); refine goesL_ (some 38) rfl rfl Tryz.func10 (by kernel_rfl) rfl #[.slice A0 l0.length c0] rfl ax31 ?_; (with_reducible refine (laws_toStringS.calls kj7 _ _ l0 t302 _ ?side1 ?side2 A31.out).mono ?_); (case side1 => exact ax26); (case side2 => exact HC0.out); rintro e w34 ⟨v303, rfl, ho0, hb⟩; refine ⟨_, rfl, ?_⟩; have n0_ := Aside0.mk (Kd.R_elder' ax194 (Kd.R_base ho0) hb); have n1_ := Aside0.mk (Kd.R_lower (Kd.R_new' ho0 (Kd.R_lt ax194)) (below_size ax193)); have n2_ := Aside0.mk (blk_below (g := gb292) (o := .cells #[.string t288, .string t289, .int .i64 t290] 25 (0, 0)) ax187 hb); have n3_ := Aside0.mk (blk_below (g := gb300) (o := .cells #[.string t296, .string t297, .int .i64 t298] 25 (0, 0)) (by (with_reducible repeat (first | refine blk_drewN ?_ _ | refine blk_drew ?_ | refine blk_alloc ?_ _)); exact BK300.out) hb); have n4_ := Aside0.mk (below_step ax193 hb); clear HO_6; clear BK292; clear BK300; clear HB; have HO_6 := n0_; have HO304 := n1_; have BK292 := n2_; have BK300 := n3_; have HB := n4_; clear n0_ n1_ n2_ n3_ n4_; (try clear hb); (try clear hb2); (try clear hk); (try clear hi); (try clear ho0); obtain ⟨Ao35, co35, eo35⟩ := Kd.R_slice HO304.out; subst eo35) | ((with_reducible refine gate_callee (f := 13) rfl ?_); refine goesL_ (some 39) rfl rfl Tryz.func13 (by kernel_rfl) rfl #[.slice Ao15 t293.length co15, .slice Ao35 t302.length co35] rfl ax31 ?_; (with_reducible refine (laws_eqStringS.calls kj7 _ _ t293 _ _ t302 true _ ?side1 ?side2 ?side3 ?side4 A32.out).mono ?_); (case side1 => repeat (first | exact (Kd.R_reads' HO_6.out).2.2 | (with_reducible refine Kd.C_alloc ?_ _) | (with_reducible refine Kd.C_drewN ?_ _) | (with_reducible refine Kd.C_drew ?_))); (case side2 => exact (Kd.R_reads' HO_6.out).2.1); (case side3 => repeat (first | exact (Kd.R_reads' HO304.out).2.2 | (with_reducible refine Kd.C_alloc ?_ _) | (with_reducible refine Kd.C_drewN ?_ _) | (with_reducible refine Kd.C_drew ?_))); (case side4 => exact (Kd.R_reads' HO304.out).2.1); rintro e w' ⟨rfl, ⟨nd, rfl⟩⟩; refine ⟨_, rfl, ?_⟩))
      go_ret
      exact ⟨by first | rfl | (simp [errW_none, errW_some] <;> rfl) | (simp [*, errW_none, errW_some] <;> rfl), by repeat (first | (with_reducible first | exact HB.out | apply below_alloc | apply pw_below_drewN | apply below_drew1 | refine below_set ?_ GE292.out | refine below_set ?_ GE300.out) | exact HB.out)⟩
     ·replace c33 := Bool.eq_false_iff.mpr c33
      subst c33
      have H1 : (some false) = some r := by rw [if_neg (show ¬ (false = true) by decide)] at H; exact H
      clear H; have H := H1; clear H1
      exact absurd ((Option.some.inj H).trans HRT.out) (by decide)

end Go.Proofs.YtmecniejpoopfaaGreatDoor.X

-- By gen.py (the session's own program over the kit's printer): functions of the program, each with its contract. Lean checks it.
import Derived.Test.YtmecniejpoopfaaGreatDoorX0
import Derived.Test.YtmecniejpoopfaaGreatDoorX6
import Derived.Test.YtmecniejpoopfaaGreatDoorX7
import Derived.Test.YtmecniejpoopfaaGreatDoorX9
import Derived.Test.YtmecniejpoopfaaGreatDoorX11
import Derived.Test.YtmecniejpoopfaaGreatDoorX12
namespace Go.Proofs.YtmecniejpoopfaaGreatDoor.X
open Go.RowKit Go.Proofs.YtmecniejpoopfaaGreatDoorW.PrintWords Go.Proofs.YtmecniejpoopfaaGreatDoorW.PrintLast Go.Proofs.YtmecniejpoopfaaGreatDoorW.PrintMore
attribute [local go_sem] max2_int min2_int max_two min_two max_three min_three max_four min_four   -- for this text's walks alone
set_option linter.unusedVariables false
set_option linter.unusedSimpArgs false

/-! ### spec_l12Trie: function 44 -/
def spec_l12Trie.f (k : Nat) (a0_0 : ByteArray) (a0_1 : ByteArray) (a0_2 : Int) : Option ((List (S105))) := (spec_l12Words.f k a0_0 a0_1 a0_2).bind fun bt411 => ((spec_l2Of.f k bt411.1).bind fun t415 => (some t415))
theorem spec_l12Trie.mono : ∀ a0 a1 a2 k, LeO (spec_l12Trie.f k a0 a1 a2) (spec_l12Trie.f (k + 1) a0 a1 a2) := by
 intro a0 a1 a2 k
 unfold spec_l12Trie.f
 repeat' first
   | (with_reducible exact spec_l12Words.mono _ _ _ _)
   | (with_reducible exact spec_l2Of.mono _ _)
   | (with_reducible exact LeO.refl _)
   | (with_reducible exact LeO.none _)
   | (with_reducible refine LeO.ite ?_ ?_)
   | (with_reducible refine LeO.bind ?_ (fun _ => ?_))
   | exact spec_l12Words.mono _ _ _ _
   | exact spec_l2Of.mono _ _
   | exact LeO.none _
   | refine LeO.ite ?_ ?_
   | refine LeO.bind ?_ (fun _ => ?_)
set_option maxHeartbeats 8000000 in
set_option maxRecDepth 100000 in
theorem spec_l12Trie.calls (k : Nat) (a0_0 : ByteArray) (a0_1 : ByteArray) (a0_2 : Int) (r : List (S105)) (w : World) (h : spec_l12Trie.f k a0_0 a0_1 a0_2 = some r) :
  Calls Tryz.prog 44 #[.agg #[.string a0_0, .string a0_1, .int .i64 a0_2]] w fun e w' => ∃ v0_ : Value, e = .returned (.agg #[v0_]) ∧ Kd.R k105 105 w' w.heap.size (fun _ => True) v0_ r ∧ Below w.heap.size w w' := by
 have hu25 := Tryz.underlying25; have hu45 := Tryz.underlying45; have HB := Aside0.mk (Below.refl w.heap.size w)
 have H : ((spec_l12Words.f k a0_0 a0_1 a0_2).bind fun bt411 => ((spec_l2Of.f k bt411.1).bind fun t415 => (some t415))) = some r := h
 clear h; replace H := Option.bind_eq_some_iff.mp H
 obtain ⟨⟨t411, t414⟩, A20, H⟩ := H
 replace H : ((spec_l2Of.f k t411).bind fun t415 => (some t415)) = some r := H
 have A2 := Aside0.mk A20; clear A20; replace H := Option.bind_eq_some_iff.mp H
 obtain ⟨t415, A30, H⟩ := H
 replace H : (some t415) = some r := H
 have A3 := Aside0.mk A30; clear A30
 obtain rfl := Option.some.inj H
 go_enter Tryz.func44, Tryz.ntmps44
 go_wp2_with (first | ((with_reducible refine gate_dst (N := 1) rfl ?_); refine box_event ?hg (N := 1) ?hd (cs := #[.string a0_0, .string a0_1, .int .i64 a0_2]) (t := 25) ?hr ?_; (case hd => rfl); (case hg => rfl); (case hr => exact ax23); intro gb409 hg w4 hbox hb; have n0_ := Aside0.mk (below_step ax25 hb); have n1_ := Aside0.mk (hbox); have n2_ := Aside0.mk ((ax54 : w.heap.size ≤ gb409)); have n3_ := Aside0.mk ((ax54 : w.heap.size ≤ gb409)); clear HB; have HB := n0_; have BK409 := n1_; have GW409 := n2_; have GE409 := n3_; clear n0_ n1_ n2_ n3_; clear hb hbox hg) | ((with_reducible refine gate_dst (N := 2) rfl ?_); refine box_event ?hg (N := 2) ?hd (cs := #[.slice none 0 0]) (t := 45) ?hr ?_; (case hd => rfl); (case hg => rfl); (case hr => exact ax23); intro gb410 hg w5 hbox hb; have n0_ := Aside0.mk (blk_below (g := gb409) (o := .cells #[.string a0_0, .string a0_1, .int .i64 a0_2] 25 (0, 0)) ax230 hb); have n1_ := Aside0.mk (below_step ax231 hb); have n2_ := Aside0.mk (hbox); have n3_ := Aside0.mk ((ax232 : w.heap.size ≤ gb410)); have n4_ := Aside0.mk ((ax232 : w.heap.size ≤ gb410)); have n5_ := Aside0.mk ((by rw [hg]; exact Nat.ne_of_lt (blk_lt (g := gb409) (o := .cells #[.string a0_0, .string a0_1, .int .i64 a0_2] 25 (0, 0)) ax230) : gb409 ≠ gb410)); have n6_ := Aside0.mk ((by rw [hg]; exact Nat.ne_of_gt (blk_lt (g := gb409) (o := .cells #[.string a0_0, .string a0_1, .int .i64 a0_2] 25 (0, 0)) ax230) : gb410 ≠ gb409)); clear BK409; clear HB; have BK409 := n0_; have HB := n1_; have BK410 := n2_; have GW410 := n3_; have GE410 := n4_; have NB409_410 := n5_; have NB410_409 := n6_; clear n0_ n1_ n2_ n3_ n4_ n5_ n6_; clear hb hbox hg; have hnb6 := NB409_410.out; have hnc6 := NB410_409.out; have hcz7_0 : w5.cell? ⟨gb409, 0, none⟩ = some (.string a0_0) := (blk_cell BK409.out 0).trans rfl; have hcz7_1 : w5.cell? ⟨gb409, 1, none⟩ = some (.string a0_1) := (blk_cell BK409.out 1).trans rfl; have hcz7_2 : w5.cell? ⟨gb409, 2, none⟩ = some (.int .i64 a0_2) := (blk_cell BK409.out 2).trans rfl; have hfz7_0 := blk_frozen BK409.out 0; have hfz7_1 := blk_frozen BK409.out 1; have hfz7_2 := blk_frozen BK409.out 2) | ((with_reducible refine gate_callee (f := 68) rfl ?_); refine goesL_ (some 7) rfl rfl Tryz.func68 (by kernel_rfl) rfl #[.agg #[.string a0_0, .string a0_1, .int .i64 a0_2]] rfl ax31 ?_; (with_reducible refine (spec_l12Words.calls k a0_0 a0_1 a0_2 t411 t414 _ A2.out).mono ?_); rintro e w8 ⟨v412, rfl, ho0, hb⟩; refine ⟨_, rfl, ?_⟩; have n0_ := Aside0.mk (Kd.V_lower (Kd.V_mono (ok' := fun k_ => k_ ≠ gb409 ∧ k_ ≠ gb410) ho0 (fun k_ hk_ => ⟨(Kd.freshB (g := gb409) (o := .cells #[.string a0_0, .string a0_1, .int .i64 a0_2] 25 (0, 0)) ax230 k_ hk_), (Kd.freshB (g := gb410) (o := .cells #[.slice none 0 0] 45 (0, 0)) ax233 k_ hk_)⟩)) (below_size ax234)); have n1_ := Aside0.mk (blk_below (g := gb409) (o := .cells #[.string a0_0, .string a0_1, .int .i64 a0_2] 25 (0, 0)) ax230 hb); have n2_ := Aside0.mk (blk_below (g := gb410) (o := .cells #[.slice none 0 0] 45 (0, 0)) ax233 hb); have n3_ := Aside0.mk (below_step ax234 hb); clear BK409; clear BK410; clear HB; have HO413 := n0_; have BK409 := n1_; have BK410 := n2_; have HB := n3_; clear n0_ n1_ n2_ n3_; (try clear hb); (try clear hb2); (try clear hk); (try clear hi); (try clear ho0); obtain ⟨Ao9, co9, eo9⟩ := Kd.V_slice HO413.out; subst eo9) | ((with_reducible refine gate_callee (f := 70) rfl ?_); refine goesL_ (some 11) rfl rfl Tryz.func70 (by kernel_rfl) rfl #[.slice Ao9 t411.length co9] rfl ax31 ?_; (with_reducible refine (spec_l2Of.calls k _ _ t411 t415 _ ?side1 ?side2 A3.out).mono ?_); (case side1 => repeat (first | exact (Kd.V_reads' HO413.out).2.2 | (with_reducible refine Kd.C_alloc ?_ _) | (with_reducible refine Kd.C_drewN ?_ _) | (with_reducible refine Kd.C_drew ?_))); (case side2 => exact (Kd.V_reads' HO413.out).2.1); rintro e w10 ⟨v416, rfl, ho0, hb⟩; refine ⟨_, rfl, ?_⟩; have n0_ := Aside0.mk (Kd.V_elder' (by (with_reducible repeat (first | apply Kd.V_alloc | apply Kd.V_drewN | apply Kd.V_drew)); exact HO413.out) (Kd.R_base ho0) hb); have n1_ := Aside0.mk (Kd.R_lower ho0 (below_size ax234)); have n2_ := Aside0.mk (blk_below (g := gb409) (o := .cells #[.string a0_0, .string a0_1, .int .i64 a0_2] 25 (0, 0)) ax230 hb); have n3_ := Aside0.mk (blk_below (g := gb410) (o := .cells #[.slice none 0 0] 45 (0, 0)) ax233 hb); have n4_ := Aside0.mk (below_step ax234 hb); clear HO413; clear BK409; clear BK410; clear HB; have HO413 := n0_; have HO417 := n1_; have BK409 := n2_; have BK410 := n3_; have HB := n4_; clear n0_ n1_ n2_ n3_ n4_; (try clear hb); (try clear hb2); (try clear hk); (try clear hi); (try clear ho0); obtain ⟨Ao11, co11, eo11⟩ := Kd.R_slice HO417.out; subst eo11; have hcz12_0 : w10.cell? ⟨gb410, 0, none⟩ = some (.slice none 0 0) := (blk_cell BK410.out 0).trans rfl; have hfz12_0 := blk_frozen BK410.out 0))
 refine bodyPost_ret (results_cell_row rfl _ _ gb410 45 #[.slice Ao11 t415.length co11] (0, 0) _ rfl (by (with_reducible repeat (first | refine blk_drewN ?_ _ | refine blk_drew ?_ | refine blk_alloc ?_ _)); refine blk_put (cs := #[.slice none 0 0]) ?_ 0 _ rfl; (with_reducible repeat (first | refine blk_drewN ?_ _ | refine blk_drew ?_ | refine blk_alloc ?_ _)); exact BK410.out) Tryz.underlying45 rfl (by kernel_rfl)) rfl ?_
 exact ⟨_, by first | rfl | (simp [errW_none, errW_some] <;> rfl) | (simp [*, errW_none, errW_some] <;> rfl), by (with_reducible repeat (first | apply Kd.R_alloc | apply Kd.R_drewN | apply Kd.R_drew)); exact Kd.R_mono (Kd.R_far (p := ⟨gb410, 0, none⟩) (Kd.R_types HO417.out BK410.out (by decide)) (fun _ hk => hk.2) (.slice Ao11 t415.length co11)) (fun _ hk => trivial), by repeat (first | (with_reducible first | exact HB.out | apply below_alloc | apply pw_below_drewN | apply below_drew1 | refine below_set ?_ GE409.out | refine below_set ?_ GE410.out) | exact HB.out)⟩

/-! ### spec_TrieOfBook: function 19 -/
def spec_TrieOfBook.f (k : Nat) (a0_0 : ByteArray) (a0_1 : ByteArray) (a0_2 : Int) : Option ((List (S105)) × Bool) := (spec_l12Good.f k a0_0 a0_1 a0_2).bind fun t420 => (if t420 = true then ((spec_l12Trie.f k a0_0 a0_1 a0_2).bind fun t421 => (some (t421, true))) else (some (([] : List (S105)), false)))
theorem spec_TrieOfBook.mono : ∀ a0 a1 a2 k, LeO (spec_TrieOfBook.f k a0 a1 a2) (spec_TrieOfBook.f (k + 1) a0 a1 a2) := by
 intro a0 a1 a2 k
 unfold spec_TrieOfBook.f
 repeat' first
   | (with_reducible exact spec_l12Good.mono _ _ _ _)
   | (with_reducible exact spec_l12Trie.mono _ _ _ _)
   | (with_reducible exact LeO.refl _)
   | (with_reducible exact LeO.none _)
   | (with_reducible refine LeO.ite ?_ ?_)
   | (with_reducible refine LeO.bind ?_ (fun _ => ?_))
   | exact spec_l12Good.mono _ _ _ _
   | exact spec_l12Trie.mono _ _ _ _
   | exact LeO.none _
   | refine LeO.ite ?_ ?_
   | refine LeO.bind ?_ (fun _ => ?_)
set_option maxHeartbeats 8000000 in
set_option maxRecDepth 100000 in
theorem spec_TrieOfBook.calls (k : Nat) (a0_0 : ByteArray) (a0_1 : ByteArray) (a0_2 : Int) (r1 : List (S105)) (r2 : Bool) (w : World) (h : spec_TrieOfBook.f k a0_0 a0_1 a0_2 = some (r1, r2)) :
  Calls Tryz.prog 19 #[.agg #[.string a0_0, .string a0_1, .int .i64 a0_2]] w fun e w' => ∃ v0_ : Value, e = .returned (.tuple #[.agg #[v0_], .bool r2]) ∧ Kd.R k105 105 w' w.heap.size (fun _ => True) v0_ r1 ∧ Below w.heap.size w w' := by
 have hu25 := Tryz.underlying25; have hu45 := Tryz.underlying45; have HB := Aside0.mk (Below.refl w.heap.size w)
 have H : ((spec_l12Good.f k a0_0 a0_1 a0_2).bind fun t420 => (if t420 = true then ((spec_l12Trie.f k a0_0 a0_1 a0_2).bind fun t421 => (some (t421, true))) else (some (([] : List (S105)), false)))) = some (r1, r2) := h
 clear h; replace H := Option.bind_eq_some_iff.mp H
 obtain ⟨t420, A20, H⟩ := H
 replace H : (if t420 = true then ((spec_l12Trie.f k a0_0 a0_1 a0_2).bind fun t421 => (some (t421, true))) else (some (([] : List (S105)), false))) = some (r1, r2) := H
 have A2 := Aside0.mk A20; clear A20
 by_cases c3 : t420 = true
 ·subst c3
  have H1 : ((spec_l12Trie.f k a0_0 a0_1 a0_2).bind fun t421 => (some (t421, true))) = some (r1, r2) := by rw [if_pos rfl] at H; exact H
  clear H; have H := H1; clear H1; replace H := Option.bind_eq_some_iff.mp H
  obtain ⟨t421, A40, H⟩ := H
  replace H : (some (t421, true)) = some (r1, r2) := H
  have A4 := Aside0.mk A40; clear A40
  simp only [Option.some.injEq, Prod.mk.injEq] at H
  obtain ⟨rfl, rfl⟩ := H
  go_enter Tryz.func19, Tryz.ntmps19
  go_wp2_with (first | ((with_reducible refine gate_dst (N := 1) rfl ?_); refine box_event ?hg (N := 1) ?hd (cs := #[.string a0_0, .string a0_1, .int .i64 a0_2]) (t := 25) ?hr ?_; (case hd => rfl); (case hg => rfl); (case hr => exact ax23); intro gb418 hg w5 hbox hb; have n0_ := Aside0.mk (below_step ax25 hb); have n1_ := Aside0.mk (hbox); have n2_ := Aside0.mk ((ax54 : w.heap.size ≤ gb418)); have n3_ := Aside0.mk ((ax54 : w.heap.size ≤ gb418)); clear HB; have HB := n0_; have BK418 := n1_; have GW418 := n2_; have GE418 := n3_; clear n0_ n1_ n2_ n3_; clear hb hbox hg) | ((with_reducible refine gate_dst (N := 2) rfl ?_); refine box_event ?hg (N := 2) ?hd (cs := #[.slice none 0 0]) (t := 45) ?hr ?_; (case hd => rfl); (case hg => rfl); (case hr => exact ax23); intro gb419 hg w6 hbox hb; have n0_ := Aside0.mk (blk_below (g := gb418) (o := .cells #[.string a0_0, .string a0_1, .int .i64 a0_2] 25 (0, 0)) ax235 hb); have n1_ := Aside0.mk (below_step ax236 hb); have n2_ := Aside0.mk (hbox); have n3_ := Aside0.mk ((ax237 : w.heap.size ≤ gb419)); have n4_ := Aside0.mk ((ax237 : w.heap.size ≤ gb419)); have n5_ := Aside0.mk ((ax238 : gb418 ≠ gb419)); have n6_ := Aside0.mk ((ax239 : gb419 ≠ gb418)); clear BK418; clear HB; have BK418 := n0_; have HB := n1_; have BK419 := n2_; have GW419 := n3_; have GE419 := n4_; have NB418_419 := n5_; have NB419_418 := n6_; clear n0_ n1_ n2_ n3_ n4_ n5_ n6_; clear hb hbox hg; have hnb7 := NB418_419.out; have hnc7 := NB419_418.out; have hcz8_0 : w6.cell? ⟨gb418, 0, none⟩ = some (.string a0_0) := (blk_cell BK418.out 0).trans rfl; have hcz8_1 : w6.cell? ⟨gb418, 1, none⟩ = some (.string a0_1) := (blk_cell BK418.out 1).trans rfl; have hcz8_2 : w6.cell? ⟨gb418, 2, none⟩ = some (.int .i64 a0_2) := (blk_cell BK418.out 2).trans rfl; have hfz8_0 := blk_frozen BK418.out 0; have hfz8_1 := blk_frozen BK418.out 1; have hfz8_2 := blk_frozen BK418.out 2) | ((with_reducible refine gate_callee (f := 42) rfl ?_); refine goesL_ (some 5) rfl rfl Tryz.func42 (by kernel_rfl) rfl #[.agg #[.string a0_0, .string a0_1, .int .i64 a0_2]] rfl ax31 ?_; (with_reducible refine (spec_l12Good.calls k a0_0 a0_1 a0_2 true _ A2.out).mono ?_); rintro e w9 ⟨rfl, hb⟩; refine ⟨_, rfl, ?_⟩; have n0_ := Aside0.mk (blk_below (g := gb418) (o := .cells #[.string a0_0, .string a0_1, .int .i64 a0_2] 25 (0, 0)) ax235 hb); have n1_ := Aside0.mk (blk_below (g := gb419) (o := .cells #[.slice none 0 0] 45 (0, 0)) ax240 hb); have n2_ := Aside0.mk (below_step ax241 hb); clear BK418; clear BK419; clear HB; have BK418 := n0_; have BK419 := n1_; have HB := n2_; clear n0_ n1_ n2_; (try clear hb); (try clear hb2); (try clear hk); (try clear hi); have hcz10_0 : w9.cell? ⟨gb418, 0, none⟩ = some (.string a0_0) := (blk_cell BK418.out 0).trans rfl; have hcz10_1 : w9.cell? ⟨gb418, 1, none⟩ = some (.string a0_1) := (blk_cell BK418.out 1).trans rfl; have hcz10_2 : w9.cell? ⟨gb418, 2, none⟩ = some (.int .i64 a0_2) := (blk_cell BK418.out 2).trans rfl; have hfz10_0 := blk_frozen BK418.out 0; have hfz10_1 := blk_frozen BK418.out 1; have hfz10_2 := blk_frozen BK418.out 2) | ((with_reducible refine gate_callee (f := 44) rfl ?_); refine goesL_ (some 9) rfl rfl Tryz.func44 (by kernel_rfl) rfl #[.agg #[.string a0_0, .string a0_1, .int .i64 a0_2]] rfl ax31 ?_; (with_reducible refine (spec_l12Trie.calls k a0_0 a0_1 a0_2 t421 _ A4.out).mono ?_); rintro e w11 ⟨v422, rfl, ho0, hb⟩; refine ⟨_, rfl, ?_⟩; have n0_ := Aside0.mk (Kd.R_lower ho0 (below_size ax241)); have n1_ := Aside0.mk (blk_below (g := gb418) (o := .cells #[.string a0_0, .string a0_1, .int .i64 a0_2] 25 (0, 0)) ax235 hb); have n2_ := Aside0.mk (blk_below (g := gb419) (o := .cells #[.slice none 0 0] 45 (0, 0)) ax240 hb); have n3_ := Aside0.mk (below_step ax241 hb); clear BK418; clear BK419; clear HB; have HO423 := n0_; have BK418 := n1_; have BK419 := n2_; have HB := n3_; clear n0_ n1_ n2_ n3_; (try clear hb); (try clear hb2); (try clear hk); (try clear hi); (try clear ho0); obtain ⟨Ao12, co12, eo12⟩ := Kd.R_slice HO423.out; subst eo12; have hcz13_0 : w11.cell? ⟨gb419, 0, none⟩ = some (.slice none 0 0) := (blk_cell BK419.out 0).trans rfl; have hfz13_0 := blk_frozen BK419.out 0))
  refine bodyPost_ret (results_ct rfl _ _ gb419 45 #[.slice Ao12 t421.length co12] (0, 0) _ rfl ax242 Tryz.underlying45 rfl (by kernel_rfl)) rfl ?_
  exact ⟨_, by first | rfl | (simp [errW_none, errW_some] <;> rfl) | (simp [*, errW_none, errW_some] <;> rfl), by (with_reducible repeat (first | apply Kd.R_alloc | apply Kd.R_drewN | apply Kd.R_drew)); exact Kd.R_mono (Kd.R_far (p := ⟨gb419, 0, none⟩) (Kd.R_types HO423.out BK419.out (by decide)) (fun _ hk => hk.2) (.slice Ao12 t421.length co12)) (fun _ hk => trivial), by repeat (first | (with_reducible first | exact HB.out | apply below_alloc | apply pw_below_drewN | apply below_drew1 | refine below_set ?_ GE418.out | refine below_set ?_ GE419.out) | exact HB.out)⟩
 ·replace c3 := Bool.eq_false_iff.mpr c3
  subst c3
  have H1 : (some (([] : List (S105)), false)) = some (r1, r2) := by rw [if_neg (show ¬ (false = true) by decide)] at H; exact H
  clear H; have H := H1; clear H1
  simp only [Option.some.injEq, Prod.mk.injEq] at H
  obtain ⟨rfl, rfl⟩ := H
  go_enter Tryz.func19, Tryz.ntmps19
  go_wp2_with (first | ((with_reducible refine gate_dst (N := 1) rfl ?_); refine box_event ?hg (N := 1) ?hd (cs := #[.string a0_0, .string a0_1, .int .i64 a0_2]) (t := 25) ?hr ?_; (case hd => rfl); (case hg => rfl); (case hr => exact ax23); intro gb418 hg w14 hbox hb; have n0_ := Aside0.mk (below_step ax25 hb); have n1_ := Aside0.mk (hbox); have n2_ := Aside0.mk ((ax54 : w.heap.size ≤ gb418)); have n3_ := Aside0.mk ((ax54 : w.heap.size ≤ gb418)); clear HB; have HB := n0_; have BK418 := n1_; have GW418 := n2_; have GE418 := n3_; clear n0_ n1_ n2_ n3_; clear hb hbox hg) | ((with_reducible refine gate_dst (N := 2) rfl ?_); refine box_event ?hg (N := 2) ?hd (cs := #[.slice none 0 0]) (t := 45) ?hr ?_; (case hd => rfl); (case hg => rfl); (case hr => exact ax23); intro gb419 hg w15 hbox hb; have n0_ := Aside0.mk (blk_below (g := gb418) (o := .cells #[.string a0_0, .string a0_1, .int .i64 a0_2] 25 (0, 0)) ax235 hb); have n1_ := Aside0.mk (below_step ax236 hb); have n2_ := Aside0.mk (hbox); have n3_ := Aside0.mk ((ax237 : w.heap.size ≤ gb419)); have n4_ := Aside0.mk ((ax237 : w.heap.size ≤ gb419)); have n5_ := Aside0.mk ((ax238 : gb418 ≠ gb419)); have n6_ := Aside0.mk ((ax239 : gb419 ≠ gb418)); clear BK418; clear HB; have BK418 := n0_; have HB := n1_; have BK419 := n2_; have GW419 := n3_; have GE419 := n4_; have NB418_419 := n5_; have NB419_418 := n6_; clear n0_ n1_ n2_ n3_ n4_ n5_ n6_; clear hb hbox hg; have hnb16 := NB418_419.out; have hnc16 := NB419_418.out; have hcz17_0 : w15.cell? ⟨gb418, 0, none⟩ = some (.string a0_0) := (blk_cell BK418.out 0).trans rfl; have hcz17_1 : w15.cell? ⟨gb418, 1, none⟩ = some (.string a0_1) := (blk_cell BK418.out 1).trans rfl; have hcz17_2 : w15.cell? ⟨gb418, 2, none⟩ = some (.int .i64 a0_2) := (blk_cell BK418.out 2).trans rfl; have hfz17_0 := blk_frozen BK418.out 0; have hfz17_1 := blk_frozen BK418.out 1; have hfz17_2 := blk_frozen BK418.out 2) | ((with_reducible refine gate_callee (f := 42) rfl ?_); refine goesL_ (some 5) rfl rfl Tryz.func42 (by kernel_rfl) rfl #[.agg #[.string a0_0, .string a0_1, .int .i64 a0_2]] rfl ax31 ?_; (with_reducible refine (spec_l12Good.calls k a0_0 a0_1 a0_2 false _ A2.out).mono ?_); rintro e w18 ⟨rfl, hb⟩; refine ⟨_, rfl, ?_⟩; have n0_ := Aside0.mk (blk_below (g := gb418) (o := .cells #[.string a0_0, .string a0_1, .int .i64 a0_2] 25 (0, 0)) ax235 hb); have n1_ := Aside0.mk (blk_below (g := gb419) (o := .cells #[.slice none 0 0] 45 (0, 0)) ax240 hb); have n2_ := Aside0.mk (below_step ax241 hb); clear BK418; clear BK419; clear HB; have BK418 := n0_; have BK419 := n1_; have HB := n2_; clear n0_ n1_ n2_; (try clear hb); (try clear hb2); (try clear hk); (try clear hi); have hcz19_0 : w18.cell? ⟨gb419, 0, none⟩ = some (.slice none 0 0) := (blk_cell BK419.out 0).trans rfl; have hfz19_0 := blk_frozen BK419.out 0))
  refine bodyPost_ret (results_ct rfl _ _ gb419 45 #[.slice none 0 0] (0, 0) _ rfl ax242 Tryz.underlying45 rfl (by kernel_rfl)) rfl ?_
  exact ⟨_, by first | rfl | (simp [errW_none, errW_some] <;> rfl) | (simp [*, errW_none, errW_some] <;> rfl), by first | exact Kd.R_nil _ _ _ _ _ | exact Kd.N_nil _ _ _ _ _ | exact Kd.V_nil _ _ _ _ _ | exact Kd.Q_nil _ _ _ _ _ | exact Kd.S_nil _ _ _ _ _, by repeat (first | (with_reducible first | exact HB.out | apply below_alloc | apply pw_below_drewN | apply below_drew1 | refine below_set ?_ GE418.out | refine below_set ?_ GE419.out) | exact HB.out)⟩

/-! ### impl_TrieOfBook: function 20 -/
def impl_TrieOfBook.f (k : Nat) (a0_0 : ByteArray) (a0_1 : ByteArray) (a0_2 : Int) : Option ((List (S105)) × Bool) := (impl_Book_isBook.f k a0_0 a0_1 a0_2).bind fun t426 => (if t426 = true then ((impl_Book_trie.f k a0_0 a0_1 a0_2).bind fun bt427 => (some (bt427.1, bt427.2))) else (some (([] : List (S105)), false)))
theorem impl_TrieOfBook.mono : ∀ a0 a1 a2 k, LeO (impl_TrieOfBook.f k a0 a1 a2) (impl_TrieOfBook.f (k + 1) a0 a1 a2) := by
 intro a0 a1 a2 k
 unfold impl_TrieOfBook.f
 repeat' first
   | (with_reducible exact impl_Book_isBook.mono _ _ _ _)
   | (with_reducible exact impl_Book_trie.mono _ _ _ _)
   | (with_reducible exact LeO.refl _)
   | (with_reducible exact LeO.none _)
   | (with_reducible refine LeO.ite ?_ ?_)
   | (with_reducible refine LeO.bind ?_ (fun _ => ?_))
   | exact impl_Book_isBook.mono _ _ _ _
   | exact impl_Book_trie.mono _ _ _ _
   | exact LeO.none _
   | refine LeO.ite ?_ ?_
   | refine LeO.bind ?_ (fun _ => ?_)
set_option maxHeartbeats 8000000 in
set_option maxRecDepth 100000 in
theorem impl_TrieOfBook.calls (k : Nat) (a0_0 : ByteArray) (a0_1 : ByteArray) (a0_2 : Int) (r1 : List (S105)) (r2 : Bool) (w : World) (hG : GL w) (h : impl_TrieOfBook.f k a0_0 a0_1 a0_2 = some (r1, r2)) :
  Calls Tryz.prog 20 #[.agg #[.string a0_0, .string a0_1, .int .i64 a0_2]] w fun e w' => ∃ v0_ : Value, e = .returned (.tuple #[.agg #[v0_], .bool r2]) ∧ Kd.R k105 105 w' w.heap.size (fun _ => True) v0_ r1 ∧ Below w.heap.size w w' := by
 have hu25 := Tryz.underlying25; have hu45 := Tryz.underlying45; have HB := Aside0.mk (Below.refl w.heap.size w); have HG := Aside0.mk hG; clear hG
 have H : ((impl_Book_isBook.f k a0_0 a0_1 a0_2).bind fun t426 => (if t426 = true then ((impl_Book_trie.f k a0_0 a0_1 a0_2).bind fun bt427 => (some (bt427.1, bt427.2))) else (some (([] : List (S105)), false)))) = some (r1, r2) := h
 clear h; replace H := Option.bind_eq_some_iff.mp H
 obtain ⟨t426, A20, H⟩ := H
 replace H : (if t426 = true then ((impl_Book_trie.f k a0_0 a0_1 a0_2).bind fun bt427 => (some (bt427.1, bt427.2))) else (some (([] : List (S105)), false))) = some (r1, r2) := H
 have A2 := Aside0.mk A20; clear A20
 by_cases c3 : t426 = true
 ·subst c3
  have H1 : ((impl_Book_trie.f k a0_0 a0_1 a0_2).bind fun bt427 => (some (bt427.1, bt427.2))) = some (r1, r2) := by rw [if_pos rfl] at H; exact H
  clear H; have H := H1; clear H1; replace H := Option.bind_eq_some_iff.mp H
  obtain ⟨⟨t427, t430⟩, A40, H⟩ := H
  replace H : (some (t427, t430)) = some (r1, r2) := H
  have A4 := Aside0.mk A40; clear A40
  simp only [Option.some.injEq, Prod.mk.injEq] at H
  obtain ⟨rfl, rfl⟩ := H
  go_enter Tryz.func20, Tryz.ntmps20
  go_wp2_with (first | ((with_reducible refine gate_dst (N := 1) rfl ?_); refine box_event ?hg (N := 1) ?hd (cs := #[.string a0_0, .string a0_1, .int .i64 a0_2]) (t := 25) ?hr ?_; (case hd => rfl); (case hg => rfl); (case hr => exact ax23); intro gb424 hg w5 hbox hb; have n0_ := Aside0.mk (below_step ax25 hb); have n1_ := Aside0.mk (hbox); have n2_ := Aside0.mk ((ax54 : w.heap.size ≤ gb424)); have n3_ := Aside0.mk ((ax54 : w.heap.size ≤ gb424)); clear HB; have HB := n0_; have BK424 := n1_; have GW424 := n2_; have GE424 := n3_; clear n0_ n1_ n2_ n3_; clear hb hbox hg) | ((with_reducible refine gate_dst (N := 2) rfl ?_); refine box_event ?hg (N := 2) ?hd (cs := #[.slice none 0 0]) (t := 45) ?hr ?_; (case hd => rfl); (case hg => rfl); (case hr => exact ax23); intro gb425 hg w6 hbox hb; have n0_ := Aside0.mk (blk_below (g := gb424) (o := .cells #[.string a0_0, .string a0_1, .int .i64 a0_2] 25 (0, 0)) ax243 hb); have n1_ := Aside0.mk (below_step ax244 hb); have n2_ := Aside0.mk (hbox); have n3_ := Aside0.mk ((ax245 : w.heap.size ≤ gb425)); have n4_ := Aside0.mk ((ax245 : w.heap.size ≤ gb425)); have n5_ := Aside0.mk ((ax246 : gb424 ≠ gb425)); have n6_ := Aside0.mk ((ax247 : gb425 ≠ gb424)); clear BK424; clear HB; have BK424 := n0_; have HB := n1_; have BK425 := n2_; have GW425 := n3_; have GE425 := n4_; have NB424_425 := n5_; have NB425_424 := n6_; clear n0_ n1_ n2_ n3_ n4_ n5_ n6_; clear hb hbox hg; have hnb7 := NB424_425.out; have hnc7 := NB425_424.out; have hcz8_0 : w6.cell? ⟨gb424, 0, none⟩ = some (.string a0_0) := (blk_cell BK424.out 0).trans rfl; have hcz8_1 : w6.cell? ⟨gb424, 1, none⟩ = some (.string a0_1) := (blk_cell BK424.out 1).trans rfl; have hcz8_2 : w6.cell? ⟨gb424, 2, none⟩ = some (.int .i64 a0_2) := (blk_cell BK424.out 2).trans rfl; have hfz8_0 := blk_frozen BK424.out 0; have hfz8_1 := blk_frozen BK424.out 1; have hfz8_2 := blk_frozen BK424.out 2) | ((with_reducible refine gate_callee (f := 41) rfl ?_); refine goesL_ (some 5) rfl rfl Tryz.func41 (by kernel_rfl) rfl #[.agg #[.string a0_0, .string a0_1, .int .i64 a0_2]] rfl ax31 ?_; (with_reducible refine (impl_Book_isBook.calls k a0_0 a0_1 a0_2 true _ ?side1 A2.out).mono ?_); (case side1 => exact ax248); rintro e w9 ⟨rfl, hb⟩; refine ⟨_, rfl, ?_⟩; have n0_ := Aside0.mk (blk_below (g := gb424) (o := .cells #[.string a0_0, .string a0_1, .int .i64 a0_2] 25 (0, 0)) ax243 hb); have n1_ := Aside0.mk (blk_below (g := gb425) (o := .cells #[.slice none 0 0] 45 (0, 0)) ax249 hb); have n2_ := Aside0.mk (below_step ax250 hb); clear BK424; clear BK425; clear HB; have BK424 := n0_; have BK425 := n1_; have HB := n2_; clear n0_ n1_ n2_; (try clear hb); (try clear hb2); (try clear hk); (try clear hi); have hcz10_0 : w9.cell? ⟨gb424, 0, none⟩ = some (.string a0_0) := (blk_cell BK424.out 0).trans rfl; have hcz10_1 : w9.cell? ⟨gb424, 1, none⟩ = some (.string a0_1) := (blk_cell BK424.out 1).trans rfl; have hcz10_2 : w9.cell? ⟨gb424, 2, none⟩ = some (.int .i64 a0_2) := (blk_cell BK424.out 2).trans rfl; have hfz10_0 := blk_frozen BK424.out 0; have hfz10_1 := blk_frozen BK424.out 1; have hfz10_2 := blk_frozen BK424.out 2) | ((with_reducible refine gate_callee (f := 45) rfl ?_); refine goesL_ (some 9) rfl rfl Tryz.func45 (by kernel_rfl) rfl #[.agg #[.string a0_0, .string a0_1, .int .i64 a0_2]] rfl ax31 ?_; (with_reducible refine (impl_Book_trie.calls k a0_0 a0_1 a0_2 t427 t430 _ ?side1 A4.out).mono ?_); (case side1 => exact ax248); rintro e w11 ⟨v428, rfl, ho0, hb⟩; refine ⟨_, rfl, ?_⟩; have n0_ := Aside0.mk (Kd.R_lower ho0 (below_size ax250)); have n1_ := Aside0.mk (blk_below (g := gb424) (o := .cells #[.string a0_0, .string a0_1, .int .i64 a0_2] 25 (0, 0)) ax243 hb); have n2_ := Aside0.mk (blk_below (g := gb425) (o := .cells #[.slice none 0 0] 45 (0, 0)) ax249 hb); have n3_ := Aside0.mk (below_step ax250 hb); clear BK424; clear BK425; clear HB; have HO429 := n0_; have BK424 := n1_; have BK425 := n2_; have HB := n3_; clear n0_ n1_ n2_ n3_; (try clear hb); (try clear hb2); (try clear hk); (try clear hi); (try clear ho0); obtain ⟨Ao12, co12, eo12⟩ := Kd.R_slice HO429.out; subst eo12; have hcz13_0 : w11.cell? ⟨gb425, 0, none⟩ = some (.slice none 0 0) := (blk_cell BK425.out 0).trans rfl; have hfz13_0 := blk_frozen BK425.out 0))
  refine bodyPost_ret (results_ct rfl _ _ gb425 45 #[.slice Ao12 t427.length co12] (0, 0) _ rfl ax251 Tryz.underlying45 rfl (by kernel_rfl)) rfl ?_
  exact ⟨_, by first | rfl | (simp [errW_none, errW_some] <;> rfl) | (simp [*, errW_none, errW_some] <;> rfl), by (with_reducible repeat (first | apply Kd.R_alloc | apply Kd.R_drewN | apply Kd.R_drew)); exact Kd.R_mono (Kd.R_far (p := ⟨gb425, 0, none⟩) (Kd.R_types HO429.out BK425.out (by decide)) (fun _ hk => hk.2) (.slice Ao12 t427.length co12)) (fun _ hk => trivial), by repeat (first | (with_reducible first | exact HB.out | apply below_alloc | apply pw_below_drewN | apply below_drew1 | refine below_set ?_ GE424.out | refine below_set ?_ GE425.out) | exact HB.out)⟩
 ·replace c3 := Bool.eq_false_iff.mpr c3
  subst c3
  have H1 : (some (([] : List (S105)), false)) = some (r1, r2) := by rw [if_neg (show ¬ (false = true) by decide)] at H; exact H
  clear H; have H := H1; clear H1
  simp only [Option.some.injEq, Prod.mk.injEq] at H
  obtain ⟨rfl, rfl⟩ := H
  go_enter Tryz.func20, Tryz.ntmps20
  go_wp2_with (first | ((with_reducible refine gate_dst (N := 1) rfl ?_); refine box_event ?hg (N := 1) ?hd (cs := #[.string a0_0, .string a0_1, .int .i64 a0_2]) (t := 25) ?hr ?_; (case hd => rfl); (case hg => rfl); (case hr => exact ax23); intro gb424 hg w14 hbox hb; have n0_ := Aside0.mk (below_step ax25 hb); have n1_ := Aside0.mk (hbox); have n2_ := Aside0.mk ((ax54 : w.heap.size ≤ gb424)); have n3_ := Aside0.mk ((ax54 : w.heap.size ≤ gb424)); clear HB; have HB := n0_; have BK424 := n1_; have GW424 := n2_; have GE424 := n3_; clear n0_ n1_ n2_ n3_; clear hb hbox hg) | ((with_reducible refine gate_dst (N := 2) rfl ?_); refine box_event ?hg (N := 2) ?hd (cs := #[.slice none 0 0]) (t := 45) ?hr ?_; (case hd => rfl); (case hg => rfl); (case hr => exact ax23); intro gb425 hg w15 hbox hb; have n0_ := Aside0.mk (blk_below (g := gb424) (o := .cells #[.string a0_0, .string a0_1, .int .i64 a0_2] 25 (0, 0)) ax243 hb); have n1_ := Aside0.mk (below_step ax244 hb); have n2_ := Aside0.mk (hbox); have n3_ := Aside0.mk ((ax245 : w.heap.size ≤ gb425)); have n4_ := Aside0.mk ((ax245 : w.heap.size ≤ gb425)); have n5_ := Aside0.mk ((ax246 : gb424 ≠ gb425)); have n6_ := Aside0.mk ((ax247 : gb425 ≠ gb424)); clear BK424; clear HB; have BK424 := n0_; have HB := n1_; have BK425 := n2_; have GW425 := n3_; have GE425 := n4_; have NB424_425 := n5_; have NB425_424 := n6_; clear n0_ n1_ n2_ n3_ n4_ n5_ n6_; clear hb hbox hg; have hnb16 := NB424_425.out; have hnc16 := NB425_424.out; have hcz17_0 : w15.cell? ⟨gb424, 0, none⟩ = some (.string a0_0) := (blk_cell BK424.out 0).trans rfl; have hcz17_1 : w15.cell? ⟨gb424, 1, none⟩ = some (.string a0_1) := (blk_cell BK424.out 1).trans rfl; have hcz17_2 : w15.cell? ⟨gb424, 2, none⟩ = some (.int .i64 a0_2) := (blk_cell BK424.out 2).trans rfl; have hfz17_0 := blk_frozen BK424.out 0; have hfz17_1 := blk_frozen BK424.out 1; have hfz17_2 := blk_frozen BK424.out 2) | ((with_reducible refine gate_callee (f := 41) rfl ?_); refine goesL_ (some 5) rfl rfl Tryz.func41 (by kernel_rfl) rfl #[.agg #[.string a0_0, .string a0_1, .int .i64 a0_2]] rfl ax31 ?_; (with_reducible refine (impl_Book_isBook.calls k a0_0 a0_1 a0_2 false _ ?side1 A2.out).mono ?_); (case side1 => exact ax248); rintro e w18 ⟨rfl, hb⟩; refine ⟨_, rfl, ?_⟩; have n0_ := Aside0.mk (blk_below (g := gb424) (o := .cells #[.string a0_0, .string a0_1, .int .i64 a0_2] 25 (0, 0)) ax243 hb); have n1_ := Aside0.mk (blk_below (g := gb425) (o := .cells #[.slice none 0 0] 45 (0, 0)) ax249 hb); have n2_ := Aside0.mk (below_step ax250 hb); clear BK424; clear BK425; clear HB; have BK424 := n0_; have BK425 := n1_; have HB := n2_; clear n0_ n1_ n2_; (try clear hb); (try clear hb2); (try clear hk); (try clear hi); have hcz19_0 : w18.cell? ⟨gb425, 0, none⟩ = some (.slice none 0 0) := (blk_cell BK425.out 0).trans rfl; have hfz19_0 := blk_frozen BK425.out 0))
  refine bodyPost_ret (results_ct rfl _ _ gb425 45 #[.slice none 0 0] (0, 0) _ rfl ax251 Tryz.underlying45 rfl (by kernel_rfl)) rfl ?_
  exact ⟨_, by first | rfl | (simp [errW_none, errW_some] <;> rfl) | (simp [*, errW_none, errW_some] <;> rfl), by first | exact Kd.R_nil _ _ _ _ _ | exact Kd.N_nil _ _ _ _ _ | exact Kd.V_nil _ _ _ _ _ | exact Kd.Q_nil _ _ _ _ _ | exact Kd.S_nil _ _ _ _ _, by repeat (first | (with_reducible first | exact HB.out | apply below_alloc | apply pw_below_drewN | apply below_drew1 | refine below_set ?_ GE424.out | refine below_set ?_ GE425.out) | exact HB.out)⟩

/-! ### laws_eqNode: function 74 -/
def laws_eqNode.f (a0_0 : Int) (a0_1 : Int) (a0_2 : Bool) (a1_0 : Int) (a1_1 : Int) (a1_2 : Bool) : Option (Bool) := if a0_0 = a1_0 then (if a0_1 = a1_1 then (if (a0_2 != a1_2) = true then (some false) else (some true)) else (some false)) else (some false)
set_option maxHeartbeats 8000000 in
set_option maxRecDepth 100000 in
theorem laws_eqNode.calls (a0_0 : Int) (a0_1 : Int) (a0_2 : Bool) (a1_0 : Int) (a1_1 : Int) (a1_2 : Bool) (r : Bool) (w : World) (h : laws_eqNode.f a0_0 a0_1 a0_2 a1_0 a1_1 a1_2 = some r) :
  Calls Tryz.prog 74 #[.agg #[.int .i64 a0_0, .int .i64 a0_1, .bool a0_2], .agg #[.int .i64 a1_0, .int .i64 a1_1, .bool a1_2]] w fun e w' => e = .returned (.bool r) ∧ Below w.heap.size w w' := by
 have hu105 := Tryz.underlying105; have HB := Aside0.mk (Below.refl w.heap.size w)
 have H : (if a0_0 = a1_0 then (if a0_1 = a1_1 then (if (a0_2 != a1_2) = true then (some false) else (some true)) else (some false)) else (some false)) = some r := h
 clear h
 by_cases c3 : a0_0 = a1_0
 ·rw [if_pos c3] at H
  have c3b0 : (a0_0 == a1_0) = true := beq_iff_eq.mpr c3
  have c3b1 : (a0_0 != a1_0) = false := bne_eq_false_iff_eq.mpr c3
  clear c3
  by_cases c4 : a0_1 = a1_1
  ·rw [if_pos c4] at H
   have c4b0 : (a0_1 == a1_1) = true := beq_iff_eq.mpr c4
   have c4b1 : (a0_1 != a1_1) = false := bne_eq_false_iff_eq.mpr c4
   clear c4
   by_cases c5 : (a0_2 != a1_2) = true
   ·rw [if_pos c5] at H
    have c5b0 : (a0_2 != a1_2) = true := c5
    (try (have c5b1 : decide (a0_2 = a1_2) = false := by simpa using c5))
    (try (have c5b2 : (a0_2 == a1_2) = false := by simpa using c5))
    (try (have c5b3 : ¬ (a0_2 = a1_2) := by simpa using c5))
    clear c5
    obtain rfl := Option.some.inj H
    go_enter Tryz.func74, Tryz.ntmps74
    go_wp2_with (first | ((with_reducible refine gate_dst (N := 2) rfl ?_); refine box_event ?hg (N := 2) ?hd (cs := #[.int .i64 a0_0, .int .i64 a0_1, .bool a0_2]) (t := 105) ?hr ?_; (case hd => rfl); (case hg => rfl); (case hr => exact ax23); intro gb431 hg w6 hbox hb; have n0_ := Aside0.mk (below_step ax25 hb); have n1_ := Aside0.mk (hbox); have n2_ := Aside0.mk ((ax54 : w.heap.size ≤ gb431)); have n3_ := Aside0.mk ((ax54 : w.heap.size ≤ gb431)); clear HB; have HB := n0_; have BK431 := n1_; have GW431 := n2_; have GE431 := n3_; clear n0_ n1_ n2_ n3_; clear hb hbox hg) | ((with_reducible refine gate_dst (N := 3) rfl ?_); refine box_event ?hg (N := 3) ?hd (cs := #[.int .i64 a1_0, .int .i64 a1_1, .bool a1_2]) (t := 105) ?hr ?_; (case hd => rfl); (case hg => rfl); (case hr => exact ax23); intro gb432 hg w7 hbox hb; have n0_ := Aside0.mk (blk_below (g := gb431) (o := .cells #[.int .i64 a0_0, .int .i64 a0_1, .bool a0_2] 105 (0, 0)) ax252 hb); have n1_ := Aside0.mk (below_step ax253 hb); have n2_ := Aside0.mk (hbox); have n3_ := Aside0.mk ((ax254 : w.heap.size ≤ gb432)); have n4_ := Aside0.mk ((ax254 : w.heap.size ≤ gb432)); have n5_ := Aside0.mk ((ax255 : gb431 ≠ gb432)); have n6_ := Aside0.mk ((ax256 : gb432 ≠ gb431)); clear BK431; clear HB; have BK431 := n0_; have HB := n1_; have BK432 := n2_; have GW432 := n3_; have GE432 := n4_; have NB431_432 := n5_; have NB432_431 := n6_; clear n0_ n1_ n2_ n3_ n4_ n5_ n6_; clear hb hbox hg; have hnb8 := NB431_432.out; have hnc8 := NB432_431.out; have hcz9_0 : w7.cell? ⟨gb431, 0, none⟩ = some (.int .i64 a0_0) := (blk_cell BK431.out 0).trans rfl; have hcz9_1 : w7.cell? ⟨gb431, 1, none⟩ = some (.int .i64 a0_1) := (blk_cell BK431.out 1).trans rfl; have hcz9_2 : w7.cell? ⟨gb431, 2, none⟩ = some (.bool a0_2) := (blk_cell BK431.out 2).trans rfl; have hfz9_0 := blk_frozen BK431.out 0; have hfz9_1 := blk_frozen BK431.out 1; have hfz9_2 := blk_frozen BK431.out 2; have hcz10_0 : w7.cell? ⟨gb432, 0, none⟩ = some (.int .i64 a1_0) := (blk_cell BK432.out 0).trans rfl; have hcz10_1 : w7.cell? ⟨gb432, 1, none⟩ = some (.int .i64 a1_1) := (blk_cell BK432.out 1).trans rfl; have hcz10_2 : w7.cell? ⟨gb432, 2, none⟩ = some (.bool a1_2) := (blk_cell BK432.out 2).trans rfl; have hfz10_0 := blk_frozen BK432.out 0; have hfz10_1 := blk_frozen BK432.out 1; have hfz10_2 := blk_frozen BK432.out 2))
    go_ret
    exact ⟨by first | rfl | (simp [errW_none, errW_some] <;> rfl) | (simp [*, errW_none, errW_some] <;> rfl), by repeat (first | (with_reducible first | exact HB.out | apply below_alloc | apply pw_below_drewN | apply below_drew1 | refine below_set ?_ GE431.out | refine below_set ?_ GE432.out) | exact HB.out)⟩
   ·rw [if_neg c5] at H
    have c5b0 : (a0_2 != a1_2) = false := by simpa using c5
    (try (have c5b1 : decide (a0_2 = a1_2) = true := by simpa using c5))
    (try (have c5b2 : (a0_2 == a1_2) = true := by simpa using c5))
    clear c5
    obtain rfl := Option.some.inj H
    go_enter Tryz.func74, Tryz.ntmps74
    go_wp2_with (first | ((with_reducible refine gate_dst (N := 2) rfl ?_); refine box_event ?hg (N := 2) ?hd (cs := #[.int .i64 a0_0, .int .i64 a0_1, .bool a0_2]) (t := 105) ?hr ?_; (case hd => rfl); (case hg => rfl); (case hr => exact ax23); intro gb431 hg w11 hbox hb; have n0_ := Aside0.mk (below_step ax25 hb); have n1_ := Aside0.mk (hbox); have n2_ := Aside0.mk ((ax54 : w.heap.size ≤ gb431)); have n3_ := Aside0.mk ((ax54 : w.heap.size ≤ gb431)); clear HB; have HB := n0_; have BK431 := n1_; have GW431 := n2_; have GE431 := n3_; clear n0_ n1_ n2_ n3_; clear hb hbox hg) | ((with_reducible refine gate_dst (N := 3) rfl ?_); refine box_event ?hg (N := 3) ?hd (cs := #[.int .i64 a1_0, .int .i64 a1_1, .bool a1_2]) (t := 105) ?hr ?_; (case hd => rfl); (case hg => rfl); (case hr => exact ax23); intro gb432 hg w12 hbox hb; have n0_ := Aside0.mk (blk_below (g := gb431) (o := .cells #[.int .i64 a0_0, .int .i64 a0_1, .bool a0_2] 105 (0, 0)) ax252 hb); have n1_ := Aside0.mk (below_step ax253 hb); have n2_ := Aside0.mk (hbox); have n3_ := Aside0.mk ((ax254 : w.heap.size ≤ gb432)); have n4_ := Aside0.mk ((ax254 : w.heap.size ≤ gb432)); have n5_ := Aside0.mk ((ax255 : gb431 ≠ gb432)); have n6_ := Aside0.mk ((ax256 : gb432 ≠ gb431)); clear BK431; clear HB; have BK431 := n0_; have HB := n1_; have BK432 := n2_; have GW432 := n3_; have GE432 := n4_; have NB431_432 := n5_; have NB432_431 := n6_; clear n0_ n1_ n2_ n3_ n4_ n5_ n6_; clear hb hbox hg; have hnb13 := NB431_432.out; have hnc13 := NB432_431.out; have hcz14_0 : w12.cell? ⟨gb431, 0, none⟩ = some (.int .i64 a0_0) := (blk_cell BK431.out 0).trans rfl; have hcz14_1 : w12.cell? ⟨gb431, 1, none⟩ = some (.int .i64 a0_1) := (blk_cell BK431.out 1).trans rfl; have hcz14_2 : w12.cell? ⟨gb431, 2, none⟩ = some (.bool a0_2) := (blk_cell BK431.out 2).trans rfl; have hfz14_0 := blk_frozen BK431.out 0; have hfz14_1 := blk_frozen BK431.out 1; have hfz14_2 := blk_frozen BK431.out 2; have hcz15_0 : w12.cell? ⟨gb432, 0, none⟩ = some (.int .i64 a1_0) := (blk_cell BK432.out 0).trans rfl; have hcz15_1 : w12.cell? ⟨gb432, 1, none⟩ = some (.int .i64 a1_1) := (blk_cell BK432.out 1).trans rfl; have hcz15_2 : w12.cell? ⟨gb432, 2, none⟩ = some (.bool a1_2) := (blk_cell BK432.out 2).trans rfl; have hfz15_0 := blk_frozen BK432.out 0; have hfz15_1 := blk_frozen BK432.out 1; have hfz15_2 := blk_frozen BK432.out 2))
    go_ret
    exact ⟨by first | rfl | (simp [errW_none, errW_some] <;> rfl) | (simp [*, errW_none, errW_some] <;> rfl), by repeat (first | (with_reducible first | exact HB.out | apply below_alloc | apply pw_below_drewN | apply below_drew1 | refine below_set ?_ GE431.out | refine below_set ?_ GE432.out) | exact HB.out)⟩
  ·rw [if_neg c4] at H
   have c4b0 : (a0_1 == a1_1) = false := beq_eq_false_iff_ne.mpr c4
   have c4b1 : (a0_1 != a1_1) = true := bne_iff_ne.mpr c4
   obtain rfl := Option.some.inj H
   go_enter Tryz.func74, Tryz.ntmps74
   go_wp2_with (first | ((with_reducible refine gate_dst (N := 2) rfl ?_); refine box_event ?hg (N := 2) ?hd (cs := #[.int .i64 a0_0, .int .i64 a0_1, .bool a0_2]) (t := 105) ?hr ?_; (case hd => rfl); (case hg => rfl); (case hr => exact ax23); intro gb431 hg w16 hbox hb; have n0_ := Aside0.mk (below_step ax25 hb); have n1_ := Aside0.mk (hbox); have n2_ := Aside0.mk ((ax54 : w.heap.size ≤ gb431)); have n3_ := Aside0.mk ((ax54 : w.heap.size ≤ gb431)); clear HB; have HB := n0_; have BK431 := n1_; have GW431 := n2_; have GE431 := n3_; clear n0_ n1_ n2_ n3_; clear hb hbox hg) | ((with_reducible refine gate_dst (N := 3) rfl ?_); refine box_event ?hg (N := 3) ?hd (cs := #[.int .i64 a1_0, .int .i64 a1_1, .bool a1_2]) (t := 105) ?hr ?_; (case hd => rfl); (case hg => rfl); (case hr => exact ax23); intro gb432 hg w17 hbox hb; have n0_ := Aside0.mk (blk_below (g := gb431) (o := .cells #[.int .i64 a0_0, .int .i64 a0_1, .bool a0_2] 105 (0, 0)) ax252 hb); have n1_ := Aside0.mk (below_step ax253 hb); have n2_ := Aside0.mk (hbox); have n3_ := Aside0.mk ((ax254 : w.heap.size ≤ gb432)); have n4_ := Aside0.mk ((ax254 : w.heap.size ≤ gb432)); have n5_ := Aside0.mk ((ax255 : gb431 ≠ gb432)); have n6_ := Aside0.mk ((ax256 : gb432 ≠ gb431)); clear BK431; clear HB; have BK431 := n0_; have HB := n1_; have BK432 := n2_; have GW432 := n3_; have GE432 := n4_; have NB431_432 := n5_; have NB432_431 := n6_; clear n0_ n1_ n2_ n3_ n4_ n5_ n6_; clear hb hbox hg; have hnb18 := NB431_432.out; have hnc18 := NB432_431.out; have hcz19_0 : w17.cell? ⟨gb431, 0, none⟩ = some (.int .i64 a0_0) := (blk_cell BK431.out 0).trans rfl; have hcz19_1 : w17.cell? ⟨gb431, 1, none⟩ = some (.int .i64 a0_1) := (blk_cell BK431.out 1).trans rfl; have hcz19_2 : w17.cell? ⟨gb431, 2, none⟩ = some (.bool a0_2) := (blk_cell BK431.out 2).trans rfl; have hfz19_0 := blk_frozen BK431.out 0; have hfz19_1 := blk_frozen BK431.out 1; have hfz19_2 := blk_frozen BK431.out 2; have hcz20_0 : w17.cell? ⟨gb432, 0, none⟩ = some (.int .i64 a1_0) := (blk_cell BK432.out 0).trans rfl; have hcz20_1 : w17.cell? ⟨gb432, 1, none⟩ = some (.int .i64 a1_1) := (blk_cell BK432.out 1).trans rfl; have hcz20_2 : w17.cell? ⟨gb432, 2, none⟩ = some (.bool a1_2) := (blk_cell BK432.out 2).trans rfl; have hfz20_0 := blk_frozen BK432.out 0; have hfz20_1 := blk_frozen BK432.out 1; have hfz20_2 := blk_frozen BK432.out 2))
   go_ret
   exact ⟨by first | rfl | (simp [errW_none, errW_some] <;> rfl) | (simp [*, errW_none, errW_some] <;> rfl), by repeat (first | (with_reducible first | exact HB.out | apply below_alloc | apply pw_below_drewN | apply below_drew1 | refine below_set ?_ GE431.out | refine below_set ?_ GE432.out) | exact HB.out)⟩
 ·rw [if_neg c3] at H
  have c3b0 : (a0_0 == a1_0) = false := beq_eq_false_iff_ne.mpr c3
  have c3b1 : (a0_0 != a1_0) = true := bne_iff_ne.mpr c3
  obtain rfl := Option.some.inj H
  go_enter Tryz.func74, Tryz.ntmps74
  go_wp2_with (first | ((with_reducible refine gate_dst (N := 2) rfl ?_); refine box_event ?hg (N := 2) ?hd (cs := #[.int .i64 a0_0, .int .i64 a0_1, .bool a0_2]) (t := 105) ?hr ?_; (case hd => rfl); (case hg => rfl); (case hr => exact ax23); intro gb431 hg w21 hbox hb; have n0_ := Aside0.mk (below_step ax25 hb); have n1_ := Aside0.mk (hbox); have n2_ := Aside0.mk ((ax54 : w.heap.size ≤ gb431)); have n3_ := Aside0.mk ((ax54 : w.heap.size ≤ gb431)); clear HB; have HB := n0_; have BK431 := n1_; have GW431 := n2_; have GE431 := n3_; clear n0_ n1_ n2_ n3_; clear hb hbox hg) | ((with_reducible refine gate_dst (N := 3) rfl ?_); refine box_event ?hg (N := 3) ?hd (cs := #[.int .i64 a1_0, .int .i64 a1_1, .bool a1_2]) (t := 105) ?hr ?_; (case hd => rfl); (case hg => rfl); (case hr => exact ax23); intro gb432 hg w22 hbox hb; have n0_ := Aside0.mk (blk_below (g := gb431) (o := .cells #[.int .i64 a0_0, .int .i64 a0_1, .bool a0_2] 105 (0, 0)) ax252 hb); have n1_ := Aside0.mk (below_step ax253 hb); have n2_ := Aside0.mk (hbox); have n3_ := Aside0.mk ((ax254 : w.heap.size ≤ gb432)); have n4_ := Aside0.mk ((ax254 : w.heap.size ≤ gb432)); have n5_ := Aside0.mk ((ax255 : gb431 ≠ gb432)); have n6_ := Aside0.mk ((ax256 : gb432 ≠ gb431)); clear BK431; clear HB; have BK431 := n0_; have HB := n1_; have BK432 := n2_; have GW432 := n3_; have GE432 := n4_; have NB431_432 := n5_; have NB432_431 := n6_; clear n0_ n1_ n2_ n3_ n4_ n5_ n6_; clear hb hbox hg; have hnb23 := NB431_432.out; have hnc23 := NB432_431.out; have hcz24_0 : w22.cell? ⟨gb431, 0, none⟩ = some (.int .i64 a0_0) := (blk_cell BK431.out 0).trans rfl; have hcz24_1 : w22.cell? ⟨gb431, 1, none⟩ = some (.int .i64 a0_1) := (blk_cell BK431.out 1).trans rfl; have hcz24_2 : w22.cell? ⟨gb431, 2, none⟩ = some (.bool a0_2) := (blk_cell BK431.out 2).trans rfl; have hfz24_0 := blk_frozen BK431.out 0; have hfz24_1 := blk_frozen BK431.out 1; have hfz24_2 := blk_frozen BK431.out 2; have hcz25_0 : w22.cell? ⟨gb432, 0, none⟩ = some (.int .i64 a1_0) := (blk_cell BK432.out 0).trans rfl; have hcz25_1 : w22.cell? ⟨gb432, 1, none⟩ = some (.int .i64 a1_1) := (blk_cell BK432.out 1).trans rfl; have hcz25_2 : w22.cell? ⟨gb432, 2, none⟩ = some (.bool a1_2) := (blk_cell BK432.out 2).trans rfl; have hfz25_0 := blk_frozen BK432.out 0; have hfz25_1 := blk_frozen BK432.out 1; have hfz25_2 := blk_frozen BK432.out 2))
  go_ret
  exact ⟨by first | rfl | (simp [errW_none, errW_some] <;> rfl) | (simp [*, errW_none, errW_some] <;> rfl), by repeat (first | (with_reducible first | exact HB.out | apply below_alloc | apply pw_below_drewN | apply below_drew1 | refine below_set ?_ GE431.out | refine below_set ?_ GE432.out) | exact HB.out)⟩

/-! ### laws_eqNodeS: function 46 -/
def laws_eqNodeS.l0 : Nat → List (S105) → List (S105) → Int → Option (Bool)
 | 0, _, _, _ => none
 | k + 1, x0, x1, x5 => if x5 < (x0.length : Int) then (if 0 ≤ x5 then (if x5 < (x1.length : Int) then ((laws_eqNode.f ((rd_T105 x0 x5).f0) ((rd_T105 x0 x5).f1) ((rd_T105 x0 x5).f2) ((rd_T105 x1 x5).f0) ((rd_T105 x1 x5).f1) ((rd_T105 x1 x5).f2)).bind fun t435 => (if t435 = true then (laws_eqNodeS.l0 k x0 x1 (wrap64 (x5 + 1))) else (some false))) else (none)) else (none)) else (some true)
def laws_eqNodeS.f (k : Nat) (l0 : List (S105)) (l1 : List (S105)) : Option (Bool) := if (l0.length : Int) = (l1.length : Int) then (laws_eqNodeS.l0 k l0 l1 0) else (some false)
theorem laws_eqNodeS.mono_l : ∀ k, (∀ y0 y1 y2, LeO (laws_eqNodeS.l0 k y0 y1 y2) (laws_eqNodeS.l0 (k + 1) y0 y1 y2))
 | 0 => fun _ _ _ r h => by simp [laws_eqNodeS.l0] at h
 | k + 1 => by
  have ih0 := laws_eqNodeS.mono_l k
  ·intro y0 y1 y2
   unfold laws_eqNodeS.l0
   repeat' first
   | (with_reducible exact ih0 _ _ _)
   | (with_reducible exact LeO.refl _)
   | (with_reducible exact LeO.none _)
   | (with_reducible refine LeO.ite ?_ ?_)
   | (with_reducible refine LeO.bind ?_ (fun _ => ?_))
   | exact ih0 _ _ _
   | exact LeO.none _
   | refine LeO.ite ?_ ?_
   | refine LeO.bind ?_ (fun _ => ?_)
theorem laws_eqNodeS.mono : ∀ a0 a1 k, LeO (laws_eqNodeS.f k a0 a1) (laws_eqNodeS.f (k + 1) a0 a1) := by
 intro a0 a1 k
 have ih0 := laws_eqNodeS.mono_l k
 unfold laws_eqNodeS.f
 repeat' first
   | (with_reducible exact ih0 _ _ _)
   | (with_reducible exact LeO.refl _)
   | (with_reducible exact LeO.none _)
   | (with_reducible refine LeO.ite ?_ ?_)
   | (with_reducible refine LeO.bind ?_ (fun _ => ?_))
   | exact ih0 _ _ _
   | exact LeO.none _
   | refine LeO.ite ?_ ?_
   | refine LeO.bind ?_ (fun _ => ?_)
def laws_eqNodeS.T6 : Bool × List (List Nat × List Nat) := (true, [([], []), ([], []), ([0, 1], [0, 1]), ([2], [2]), ([], []), ([], []), ([4, 5], [4, 5]), ([6], [6]), ([3, 7], [3, 7]), ([8], [8])])
def laws_eqNodeS.B6 : List Nat := [0, 0, 3, 7, 0, 0, 48, 112, 255, 511]
theorem laws_eqNodeS.tab6 : rtab .any (opsOf Tryz.f46 6) = laws_eqNodeS.T6 := by kernel_rfl
theorem laws_eqNodeS.bits6 : waitsOk laws_eqNodeS.T6.2 laws_eqNodeS.B6 = true := by kernel_rfl
set_option maxHeartbeats 8000000 in
set_option maxRecDepth 100000 in
theorem laws_eqNodeS.calls (k : Nat) (A0 : Option Addr) (c0 : Nat) (l0 : List (S105)) (A1 : Option Addr) (c1 : Nat) (l1 : List (S105)) (r : Bool) (w : World) (hr0 : Kd.C k105 w A0 l0.length l0) (hc0 : l0.length ≤ c0) (hr1 : Kd.C k105 w A1 l1.length l1) (hc1 : l1.length ≤ c1) (h : laws_eqNodeS.f k l0 l1 = some r) :
  Calls Tryz.prog 46 #[.slice A0 l0.length c0, .slice A1 l1.length c1] w fun e w' => e = .returned (.bool r) ∧ Below w.heap.size w w' := by
 have hu105 := Tryz.underlying105; have HR0 := Aside0.mk hr0; have HC0 := Aside0.mk hc0; clear hr0 hc0; have HR1 := Aside0.mk hr1; have HC1 := Aside0.mk hc1; clear hr1 hc1; have HB := Aside0.mk (Below.refl w.heap.size w)
 have H : (if (l0.length : Int) = (l1.length : Int) then (laws_eqNodeS.l0 k l0 l1 0) else (some false)) = some r := h
 clear h
 by_cases c3 : (l0.length : Int) = (l1.length : Int)
 ·rw [if_pos c3] at H
  have c3b0 : ((l0.length : Int) == (l1.length : Int)) = true := beq_iff_eq.mpr c3
  have c3b1 : ((l0.length : Int) != (l1.length : Int)) = false := bne_eq_false_iff_eq.mpr c3
  have c3b2 : (l0.length == l1.length) = true := by first | simpa using c3 | (simp at c3 ⊢; omega)
  clear c3
  have H' := Aside0.mk H
  clear H
  go_enter Tryz.func46, Tryz.ntmps46
  go_wp2
  go_loopg [5] k (fun kq v5 w' => ∃ (x5_1 : Int), v5 = .int .i64 x5_1 ∧ Aside0 (laws_eqNodeS.l0 kq l0 l1 x5_1 = some r) ∧ Aside0 (kq ≤ k) ∧ Aside0 (Below w.heap.size w w'))
  case atStart => exact ⟨(0), ax21, H', ⟨Nat.le_refl _⟩, ⟨by repeat (first | (with_reducible first | exact HB.out | apply below_alloc | apply pw_below_drewN | apply below_drew1) | exact HB.out)⟩⟩
  case round =>
   clear H'
   try clear c1
   try clear p2
   try clear c3
   try clear c3b0
   try clear c3b1
   try clear c3b2
   obtain ⟨x5_1, rfl, HA, HK1, HB⟩ := hrel
   cases gk with
   | zero => exact absurd HA.out (by simp [laws_eqNodeS.l0])
   | succ k1 =>
    have H := HA.out; clear HA
    simp only [laws_eqNodeS.l0] at H
    by_cases c4 : x5_1 < (l0.length : Int)
    ·rw [if_pos c4] at H
     have c4b0 : decide (x5_1 < (l0.length : Int)) = true := decide_eq_true c4
     clear c4
     by_cases c5 : 0 ≤ x5_1
     ·rw [if_pos c5] at H
      have c5b0 : decide (0 ≤ x5_1) = true := decide_eq_true c5
      clear c5
      by_cases c6 : x5_1 < (l1.length : Int)
      ·rw [if_pos c6] at H
       have c6b0 : decide (x5_1 < (l1.length : Int)) = true := decide_eq_true c6
       clear c6; replace H := Option.bind_eq_some_iff.mp H
       obtain ⟨t435, A70, H⟩ := H
       replace H : (if t435 = true then (laws_eqNodeS.l0 k1 l0 l1 (wrap64 (x5_1 + 1))) else (some false)) = some r := H
       have A7 := Aside0.mk A70; clear A70
       by_cases c8 : t435 = true
       ·subst c8
        have H1 : (laws_eqNodeS.l0 k1 l0 l1 (wrap64 (x5_1 + 1))) = some r := by rw [if_pos rfl] at H; exact H
        clear H; have H := H1; clear H1
        have H' := Aside0.mk H
        clear H
        try go_wp2
        have n0_ := Aside0.mk (below_drew1 HB.out); clear HB; have HB := n0_; clear n0_
        have p433 : 0 ≤ (x5_1 : Int) := of_decide_eq_true ax22
        have q433 : x5_1 < (l0.length : Int) := of_decide_eq_true ax22
        obtain ⟨ad433, e433, hx433_0, hx433_1, hx433_2⟩ := at_T105 HR0.out x5_1 p433 q433
        have hw433_2 := hx433_2; have hw433_1 := hx433_1; have hw433_0 := hx433_0; cases e433; replace hx433_0 := (HB.out.cell (World.block_lt_of_cell? w _ hx433_0)).trans hx433_0; replace hx433_1 := (HB.out.cell (World.block_lt_of_cell? w _ hx433_1)).trans hx433_1; replace hx433_2 := (HB.out.cell (World.block_lt_of_cell? w _ hx433_2)).trans hx433_2; replace p433 := eq_true p433; replace q433 := eq_true q433
        have p434 : 0 ≤ (x5_1 : Int) := of_decide_eq_true ax22
        have q434 : x5_1 < (l1.length : Int) := of_decide_eq_true ax22
        obtain ⟨ad434, e434, hx434_0, hx434_1, hx434_2⟩ := at_T105 HR1.out x5_1 p434 q434
        have hw434_2 := hx434_2; have hw434_1 := hx434_1; have hw434_0 := hx434_0; cases e434; replace hx434_0 := (HB.out.cell (World.block_lt_of_cell? w _ hx434_0)).trans hx434_0; replace hx434_1 := (HB.out.cell (World.block_lt_of_cell? w _ hx434_1)).trans hx434_1; replace hx434_2 := (HB.out.cell (World.block_lt_of_cell? w _ hx434_2)).trans hx434_2; replace p434 := eq_true p434; replace q434 := eq_true q434
        refine start_ (n := 10) (S := fun w' => w'.cell? (ad433.add ((x5_1).toNat * 3)) = some (.int .i64 ((rd_T105 l0 x5_1).f0)) ∧ w'.cell? ⟨(ad433.add ((x5_1).toNat * 3)).block, (ad433.add ((x5_1).toNat * 3)).off + 1, none⟩ = some (.int .i64 ((rd_T105 l0 x5_1).f1)) ∧ w'.cell? ⟨(ad433.add ((x5_1).toNat * 3)).block, (ad433.add ((x5_1).toNat * 3)).off + 2, none⟩ = some (.bool ((rd_T105 l0 x5_1).f2)) ∧ w'.cell? (ad434.add ((x5_1).toNat * 3)) = some (.int .i64 ((rd_T105 l1 x5_1).f0)) ∧ w'.cell? ⟨(ad434.add ((x5_1).toNat * 3)).block, (ad434.add ((x5_1).toNat * 3)).off + 1, none⟩ = some (.int .i64 ((rd_T105 l1 x5_1).f1)) ∧ w'.cell? ⟨(ad434.add ((x5_1).toNat * 3)).block, (ad434.add ((x5_1).toNat * 3)).off + 2, none⟩ = some (.bool ((rd_T105 l1 x5_1).f2))) (ds := []) (ob 10 0) (by kernel_rfl) rfl rfl ⟨((HB.out.cell (World.block_lt_of_cell? w _ hw433_0)).trans hw433_0), ((HB.out.cell (World.block_lt_of_cell? w _ hw433_1)).trans hw433_1), ((HB.out.cell (World.block_lt_of_cell? w _ hw433_2)).trans hw433_2), ((HB.out.cell (World.block_lt_of_cell? w _ hw434_0)).trans hw434_0), ((HB.out.cell (World.block_lt_of_cell? w _ hw434_1)).trans hw434_1), ((HB.out.cell (World.block_lt_of_cell? w _ hw434_2)).trans hw434_2)⟩ (fun hHeld => ?_); refine with_tabW laws_eqNodeS.tab6 laws_eqNodeS.bits6 (fun HT_ HW_ => ?_)
        generalize wr.drew = w9 at HB hx433_0 hx433_1 hx433_2 hx434_0 hx434_1 hx434_2 hHeld ⊢
        refine pure_ (i := 0) (N := some 17) (v := ?_) (a' := ?_) (ob 10 1) rfl rfl (any_of HT_.out (by kernel_rfl)) (fun _ _ _ h => h) (Or.inl ⟨by rfl, ?_⟩) ?_ ?_; rotate_left; exact ax5; rotate_left; exact ax6
        refine pure_ (i := 1) (N := some 18) (v := ?_) (a' := ?_) (ob 10 3) rfl rfl (any_of HT_.out (by kernel_rfl)) (fun _ _ _ h => h) (Or.inl ⟨by rfl, ?_⟩) ?_ ?_; rotate_left; exact ax5; rotate_left; exact ax6
        refine pure_ (i := 2) (N := some 19) (v := ?_) (a' := ?_) (ob 10 7) rfl rfl (any_of HT_.out (by kernel_rfl)) (fun _ _ _ h => h) (Or.inl ⟨by rfl, ?_⟩) ?_ ?_; rotate_left; exact ax5; rotate_left; exact ax6
        refine pure_ (i := 4) (N := some 21) (v := ?_) (a' := ?_) (ob 10 23) rfl rfl (any_of HT_.out (by kernel_rfl)) (fun _ _ _ h => h) (Or.inl ⟨by rfl, ?_⟩) ?_ ?_; rotate_left; exact ax5; rotate_left; exact ax6
        refine pure_ (i := 5) (N := some 22) (v := ?_) (a' := ?_) (ob 10 55) rfl rfl (any_of HT_.out (by kernel_rfl)) (fun _ _ _ h => h) (Or.inl ⟨by rfl, ?_⟩) ?_ ?_; rotate_left; exact ax5; rotate_left; exact ax6
        refine pure_ (i := 6) (N := some 23) (v := ?_) (a' := ?_) (ob 10 119) rfl rfl (any_of HT_.out (by kernel_rfl)) (fun _ _ _ h => h) (Or.inl ⟨by rfl, ?_⟩) ?_ ?_; rotate_left; exact ax5; rotate_left; exact ax6
        refine take_ (i := 3) (N := some 20) (v := ?_) (a' := ?_) (ob 10 127) rfl rfl (take_ofW HT_.out HW_.out (by kernel_rfl)) (fun _ _ _ h => h) (Or.inl ⟨by rfl, ?_⟩) hHeld ?_ ?_; rotate_left; exact ax15; rotate_left; exact ax6
        refine take_ (i := 7) (N := some 24) (v := ?_) (a' := ?_) (ob 10 255) rfl rfl (take_ofW HT_.out HW_.out (by kernel_rfl)) (fun _ _ _ h => h) (Or.inl ⟨by rfl, ?_⟩) hHeld ?_ ?_; rotate_left; exact ax15; rotate_left; exact ax6
        refine one_ (i := 8) (N := some 25) (ob 10 511) rfl rfl (one_of HT_.out (by kernel_rfl)) (by decide) (fun K hK => ?_)
        refine goes_ Tryz.func74 (by kernel_rfl) rfl #[.agg #[.int .i64 ((rd_T105 l0 x5_1).f0), .int .i64 ((rd_T105 l0 x5_1).f1), .bool ((rd_T105 l0 x5_1).f2)], .agg #[.int .i64 ((rd_T105 l1 x5_1).f0), .int .i64 ((rd_T105 l1 x5_1).f1), .bool ((rd_T105 l1 x5_1).f2)]] (by rfl) rfl rfl ax31 ?_
        with_reducible refine (laws_eqNode.calls ((rd_T105 l0 x5_1).f0) ((rd_T105 l0 x5_1).f1) ((rd_T105 l0 x5_1).f2) ((rd_T105 l1 x5_1).f0) ((rd_T105 l1 x5_1).f1) ((rd_T105 l1 x5_1).f2) true _ A7.out).mono ?_
        rintro e w10 ⟨rfl, hb⟩
        refine ⟨_, rfl, ?_⟩
        have n0_ := Aside0.mk (below_step ax25 hb); clear HB; have HB := n0_; clear n0_; (try clear hb); (try clear hb2); (try clear hk); (try clear hi)
        refine hK.out _ _ ⟨((HB.out.cell (World.block_lt_of_cell? w _ hw433_0)).trans hw433_0), ((HB.out.cell (World.block_lt_of_cell? w _ hw433_1)).trans hw433_1), ((HB.out.cell (World.block_lt_of_cell? w _ hw433_2)).trans hw433_2), ((HB.out.cell (World.block_lt_of_cell? w _ hw434_0)).trans hw434_0), ((HB.out.cell (World.block_lt_of_cell? w _ hw434_1)).trans hw434_1), ((HB.out.cell (World.block_lt_of_cell? w _ hw434_2)).trans hw434_2)⟩ (fun hHeld => ?_)
        clear hK K
        refine norm_ (a' := ?_) ?_ ?_
        rotate_left
        ·exact ax16
        refine pure_ (i := 9) (N := some 26) (v := ?_) (a' := ?_) (ob 10 1023) rfl rfl (any_of HT_.out (by kernel_rfl)) (fun _ _ _ h => h) (Or.inl ⟨by rfl, ?_⟩) ?_ ?_; rotate_left; exact ax5; rotate_left; exact ax6
        refine done_ (done_of HT_.out (by kernel_rfl)) ?_
        try go_wp2
        go_roundg k1
        case measure => have := HK1.out; omega
        case rel => exact ⟨(wrap64 (x5_1 + 1)), ax21, H', ⟨by have := HK1.out; omega⟩, ⟨by repeat (first | (with_reducible first | exact HB.out | apply below_alloc | apply pw_below_drewN | apply below_drew1) | exact HB.out)⟩⟩
       ·replace c8 := Bool.eq_false_iff.mpr c8
        subst c8
        have H1 : (some false) = some r := by rw [if_neg (show ¬ (false = true) by decide)] at H; exact H
        clear H; have H := H1; clear H1
        obtain rfl := Option.some.inj H
        try go_wp2
        have n0_ := Aside0.mk (below_drew1 HB.out); clear HB; have HB := n0_; clear n0_
        have p433 : 0 ≤ (x5_1 : Int) := of_decide_eq_true ax22
        have q433 : x5_1 < (l0.length : Int) := of_decide_eq_true ax22
        obtain ⟨ad433, e433, hx433_0, hx433_1, hx433_2⟩ := at_T105 HR0.out x5_1 p433 q433
        have hw433_2 := hx433_2; have hw433_1 := hx433_1; have hw433_0 := hx433_0; cases e433; replace hx433_0 := (HB.out.cell (World.block_lt_of_cell? w _ hx433_0)).trans hx433_0; replace hx433_1 := (HB.out.cell (World.block_lt_of_cell? w _ hx433_1)).trans hx433_1; replace hx433_2 := (HB.out.cell (World.block_lt_of_cell? w _ hx433_2)).trans hx433_2; replace p433 := eq_true p433; replace q433 := eq_true q433
        have p434 : 0 ≤ (x5_1 : Int) := of_decide_eq_true ax22
        have q434 : x5_1 < (l1.length : Int) := of_decide_eq_true ax22
        obtain ⟨ad434, e434, hx434_0, hx434_1, hx434_2⟩ := at_T105 HR1.out x5_1 p434 q434
        have hw434_2 := hx434_2; have hw434_1 := hx434_1; have hw434_0 := hx434_0; cases e434; replace hx434_0 := (HB.out.cell (World.block_lt_of_cell? w _ hx434_0)).trans hx434_0; replace hx434_1 := (HB.out.cell (World.block_lt_of_cell? w _ hx434_1)).trans hx434_1; replace hx434_2 := (HB.out.cell (World.block_lt_of_cell? w _ hx434_2)).trans hx434_2; replace p434 := eq_true p434; replace q434 := eq_true q434
        refine start_ (n := 10) (S := fun w' => w'.cell? (ad433.add ((x5_1).toNat * 3)) = some (.int .i64 ((rd_T105 l0 x5_1).f0)) ∧ w'.cell? ⟨(ad433.add ((x5_1).toNat * 3)).block, (ad433.add ((x5_1).toNat * 3)).off + 1, none⟩ = some (.int .i64 ((rd_T105 l0 x5_1).f1)) ∧ w'.cell? ⟨(ad433.add ((x5_1).toNat * 3)).block, (ad433.add ((x5_1).toNat * 3)).off + 2, none⟩ = some (.bool ((rd_T105 l0 x5_1).f2)) ∧ w'.cell? (ad434.add ((x5_1).toNat * 3)) = some (.int .i64 ((rd_T105 l1 x5_1).f0)) ∧ w'.cell? ⟨(ad434.add ((x5_1).toNat * 3)).block, (ad434.add ((x5_1).toNat * 3)).off + 1, none⟩ = some (.int .i64 ((rd_T105 l1 x5_1).f1)) ∧ w'.cell? ⟨(ad434.add ((x5_1).toNat * 3)).block, (ad434.add ((x5_1).toNat * 3)).off + 2, none⟩ = some (.bool ((rd_T105 l1 x5_1).f2))) (ds := []) (ob 10 0) (by kernel_rfl) rfl rfl ⟨((HB.out.cell (World.block_lt_of_cell? w _ hw433_0)).trans hw433_0), ((HB.out.cell (World.block_lt_of_cell? w _ hw433_1)).trans hw433_1), ((HB.out.cell (World.block_lt_of_cell? w _ hw433_2)).trans hw433_2), ((HB.out.cell (World.block_lt_of_cell? w _ hw434_0)).trans hw434_0), ((HB.out.cell (World.block_lt_of_cell? w _ hw434_1)).trans hw434_1), ((HB.out.cell (World.block_lt_of_cell? w _ hw434_2)).trans hw434_2)⟩ (fun hHeld => ?_); refine with_tabW laws_eqNodeS.tab6 laws_eqNodeS.bits6 (fun HT_ HW_ => ?_)
        generalize wr.drew = w11 at HB hx433_0 hx433_1 hx433_2 hx434_0 hx434_1 hx434_2 hHeld ⊢
        refine pure_ (i := 0) (N := some 17) (v := ?_) (a' := ?_) (ob 10 1) rfl rfl (any_of HT_.out (by kernel_rfl)) (fun _ _ _ h => h) (Or.inl ⟨by rfl, ?_⟩) ?_ ?_; rotate_left; exact ax5; rotate_left; exact ax6
        refine pure_ (i := 1) (N := some 18) (v := ?_) (a' := ?_) (ob 10 3) rfl rfl (any_of HT_.out (by kernel_rfl)) (fun _ _ _ h => h) (Or.inl ⟨by rfl, ?_⟩) ?_ ?_; rotate_left; exact ax5; rotate_left; exact ax6
        refine pure_ (i := 2) (N := some 19) (v := ?_) (a' := ?_) (ob 10 7) rfl rfl (any_of HT_.out (by kernel_rfl)) (fun _ _ _ h => h) (Or.inl ⟨by rfl, ?_⟩) ?_ ?_; rotate_left; exact ax5; rotate_left; exact ax6
        refine pure_ (i := 4) (N := some 21) (v := ?_) (a' := ?_) (ob 10 23) rfl rfl (any_of HT_.out (by kernel_rfl)) (fun _ _ _ h => h) (Or.inl ⟨by rfl, ?_⟩) ?_ ?_; rotate_left; exact ax5; rotate_left; exact ax6
        refine pure_ (i := 5) (N := some 22) (v := ?_) (a' := ?_) (ob 10 55) rfl rfl (any_of HT_.out (by kernel_rfl)) (fun _ _ _ h => h) (Or.inl ⟨by rfl, ?_⟩) ?_ ?_; rotate_left; exact ax5; rotate_left; exact ax6
        refine pure_ (i := 6) (N := some 23) (v := ?_) (a' := ?_) (ob 10 119) rfl rfl (any_of HT_.out (by kernel_rfl)) (fun _ _ _ h => h) (Or.inl ⟨by rfl, ?_⟩) ?_ ?_; rotate_left; exact ax5; rotate_left; exact ax6
        refine take_ (i := 3) (N := some 20) (v := ?_) (a' := ?_) (ob 10 127) rfl rfl (take_ofW HT_.out HW_.out (by kernel_rfl)) (fun _ _ _ h => h) (Or.inl ⟨by rfl, ?_⟩) hHeld ?_ ?_; rotate_left; exact ax15; rotate_left; exact ax6
        refine take_ (i := 7) (N := some 24) (v := ?_) (a' := ?_) (ob 10 255) rfl rfl (take_ofW HT_.out HW_.out (by kernel_rfl)) (fun _ _ _ h => h) (Or.inl ⟨by rfl, ?_⟩) hHeld ?_ ?_; rotate_left; exact ax15; rotate_left; exact ax6
        refine one_ (i := 8) (N := some 25) (ob 10 511) rfl rfl (one_of HT_.out (by kernel_rfl)) (by decide) (fun K hK => ?_)
        refine goes_ Tryz.func74 (by kernel_rfl) rfl #[.agg #[.int .i64 ((rd_T105 l0 x5_1).f0), .int .i64 ((rd_T105 l0 x5_1).f1), .bool ((rd_T105 l0 x5_1).f2)], .agg #[.int .i64 ((rd_T105 l1 x5_1).f0), .int .i64 ((rd_T105 l1 x5_1).f1), .bool ((rd_T105 l1 x5_1).f2)]] (by rfl) rfl rfl ax31 ?_
        with_reducible refine (laws_eqNode.calls ((rd_T105 l0 x5_1).f0) ((rd_T105 l0 x5_1).f1) ((rd_T105 l0 x5_1).f2) ((rd_T105 l1 x5_1).f0) ((rd_T105 l1 x5_1).f1) ((rd_T105 l1 x5_1).f2) false _ A7.out).mono ?_
        rintro e w12 ⟨rfl, hb⟩
        refine ⟨_, rfl, ?_⟩
        have n0_ := Aside0.mk (below_step ax25 hb); clear HB; have HB := n0_; clear n0_; (try clear hb); (try clear hb2); (try clear hk); (try clear hi)
        refine hK.out _ _ ⟨((HB.out.cell (World.block_lt_of_cell? w _ hw433_0)).trans hw433_0), ((HB.out.cell (World.block_lt_of_cell? w _ hw433_1)).trans hw433_1), ((HB.out.cell (World.block_lt_of_cell? w _ hw433_2)).trans hw433_2), ((HB.out.cell (World.block_lt_of_cell? w _ hw434_0)).trans hw434_0), ((HB.out.cell (World.block_lt_of_cell? w _ hw434_1)).trans hw434_1), ((HB.out.cell (World.block_lt_of_cell? w _ hw434_2)).trans hw434_2)⟩ (fun hHeld => ?_)
        clear hK K
        refine norm_ (a' := ?_) ?_ ?_
        rotate_left
        ·exact ax16
        refine pure_ (i := 9) (N := some 26) (v := ?_) (a' := ?_) (ob 10 1023) rfl rfl (any_of HT_.out (by kernel_rfl)) (fun _ _ _ h => h) (Or.inl ⟨by rfl, ?_⟩) ?_ ?_; rotate_left; exact ax5; rotate_left; exact ax6
        refine done_ (done_of HT_.out (by kernel_rfl)) ?_
        try go_wp2
        go_ret
        exact ⟨by first | rfl | (simp [errW_none, errW_some] <;> rfl) | (simp [*, errW_none, errW_some] <;> rfl), by repeat (first | (with_reducible first | exact HB.out | apply below_alloc | apply pw_below_drewN | apply below_drew1) | exact HB.out)⟩
      ·exact ax1
     ·exact ax2
    ·exact ax17
 ·rw [if_neg c3] at H
  have c3b0 : ((l0.length : Int) == (l1.length : Int)) = false := beq_eq_false_iff_ne.mpr c3
  have c3b1 : ((l0.length : Int) != (l1.length : Int)) = true := bne_iff_ne.mpr c3
  have c3b2 : (l0.length == l1.length) = false := by first | simpa using c3 | (simp at c3 ⊢; omega)
  obtain rfl := Option.some.inj H
  go_enter Tryz.func46, Tryz.ntmps46
  go_wp2
  go_ret
  exact ⟨by first | rfl | (simp [errW_none, errW_some] <;> rfl) | (simp [*, errW_none, errW_some] <;> rfl), by repeat (first | (with_reducible first | exact HB.out | apply below_alloc | apply pw_below_drewN | apply below_drew1) | exact HB.out)⟩

/-! ### laws_eqTrie: function 21 -/
def laws_eqTrie.f (k : Nat) (l0_0 : List (S105)) (l1_0 : List (S105)) : Option (Bool) := (laws_eqNodeS.f k l0_0 l1_0).bind fun t438 => (if t438 = true then (some true) else (some false))
theorem laws_eqTrie.mono : ∀ a0 a1 k, LeO (laws_eqTrie.f k a0 a1) (laws_eqTrie.f (k + 1) a0 a1) := by
 intro a0 a1 k
 unfold laws_eqTrie.f
 repeat' first
   | (with_reducible exact laws_eqNodeS.mono _ _ _)
   | (with_reducible exact LeO.refl _)
   | (with_reducible exact LeO.none _)
   | (with_reducible refine LeO.ite ?_ ?_)
   | (with_reducible refine LeO.bind ?_ (fun _ => ?_))
   | exact laws_eqNodeS.mono _ _ _
   | exact LeO.none _
   | refine LeO.ite ?_ ?_
   | refine LeO.bind ?_ (fun _ => ?_)
set_option maxHeartbeats 8000000 in
set_option maxRecDepth 100000 in
theorem laws_eqTrie.calls (k : Nat) (A0_0 : Option Addr) (c0_0 : Nat) (l0_0 : List (S105)) (A1_0 : Option Addr) (c1_0 : Nat) (l1_0 : List (S105)) (r : Bool) (w : World) (hr0_0 : Kd.C k105 w A0_0 l0_0.length l0_0) (hc0_0 : l0_0.length ≤ c0_0) (hr1_0 : Kd.C k105 w A1_0 l1_0.length l1_0) (hc1_0 : l1_0.length ≤ c1_0) (h : laws_eqTrie.f k l0_0 l1_0 = some r) :
  Calls Tryz.prog 21 #[.agg #[.slice A0_0 l0_0.length c0_0], .agg #[.slice A1_0 l1_0.length c1_0]] w fun e w' => e = .returned (.bool r) ∧ Below w.heap.size w w' := by
 have hu45 := Tryz.underlying45; have HR0_0 := Aside0.mk hr0_0; have HC0_0 := Aside0.mk hc0_0; clear hr0_0 hc0_0; have HR1_0 := Aside0.mk hr1_0; have HC1_0 := Aside0.mk hc1_0; clear hr1_0 hc1_0; have HB := Aside0.mk (Below.refl w.heap.size w)
 have H : ((laws_eqNodeS.f k l0_0 l1_0).bind fun t438 => (if t438 = true then (some true) else (some false))) = some r := h
 clear h; replace H := Option.bind_eq_some_iff.mp H
 obtain ⟨t438, A30, H⟩ := H
 replace H : (if t438 = true then (some true) else (some false)) = some r := H
 have A3 := Aside0.mk A30; clear A30
 by_cases c4 : t438 = true
 ·subst c4
  have H1 : (some true) = some r := by rw [if_pos rfl] at H; exact H
  clear H; have H := H1; clear H1
  obtain rfl := Option.some.inj H
  go_enter Tryz.func21, Tryz.ntmps21
  go_wp2_with (first | ((with_reducible refine gate_dst (N := 2) rfl ?_); refine box_event ?hg (N := 2) ?hd (cs := #[.slice A0_0 l0_0.length c0_0]) (t := 45) ?hr ?_; (case hd => rfl); (case hg => rfl); (case hr => exact ax23); intro gb436 hg w5 hbox hb; have n0_ := Aside0.mk (below_step ax25 hb); have n1_ := Aside0.mk (hbox); have n2_ := Aside0.mk ((ax54 : w.heap.size ≤ gb436)); have n3_ := Aside0.mk ((ax54 : w.heap.size ≤ gb436)); clear HB; have HB := n0_; have BK436 := n1_; have GW436 := n2_; have GE436 := n3_; clear n0_ n1_ n2_ n3_; clear hb hbox hg) | ((with_reducible refine gate_dst (N := 3) rfl ?_); refine box_event ?hg (N := 3) ?hd (cs := #[.slice A1_0 l1_0.length c1_0]) (t := 45) ?hr ?_; (case hd => rfl); (case hg => rfl); (case hr => exact ax23); intro gb437 hg w6 hbox hb; have n0_ := Aside0.mk (blk_below (g := gb436) (o := .cells #[.slice A0_0 l0_0.length c0_0] 45 (0, 0)) ax257 hb); have n1_ := Aside0.mk (below_step ax258 hb); have n2_ := Aside0.mk (hbox); have n3_ := Aside0.mk ((ax259 : w.heap.size ≤ gb437)); have n4_ := Aside0.mk ((ax259 : w.heap.size ≤ gb437)); have n5_ := Aside0.mk ((ax260 : gb436 ≠ gb437)); have n6_ := Aside0.mk ((ax261 : gb437 ≠ gb436)); clear BK436; clear HB; have BK436 := n0_; have HB := n1_; have BK437 := n2_; have GW437 := n3_; have GE437 := n4_; have NB436_437 := n5_; have NB437_436 := n6_; clear n0_ n1_ n2_ n3_ n4_ n5_ n6_; clear hb hbox hg; have hnb7 := NB436_437.out; have hnc7 := NB437_436.out; have hcz8_0 : w6.cell? ⟨gb436, 0, none⟩ = some (.slice A0_0 l0_0.length c0_0) := (blk_cell BK436.out 0).trans rfl; have hfz8_0 := blk_frozen BK436.out 0; have hcz9_0 : w6.cell? ⟨gb437, 0, none⟩ = some (.slice A1_0 l1_0.length c1_0) := (blk_cell BK437.out 0).trans rfl; have hfz9_0 := blk_frozen BK437.out 0) | ((with_reducible refine gate_callee (f := 46) rfl ?_); refine goesL_ (some 9) rfl rfl Tryz.func46 (by kernel_rfl) rfl #[.slice A0_0 l0_0.length c0_0, .slice A1_0 l1_0.length c1_0] rfl ax31 ?_; (with_reducible refine (laws_eqNodeS.calls k _ _ l0_0 _ _ l1_0 true _ ?side1 ?side2 ?side3 ?side4 A3.out).mono ?_); (case side1 => exact ax126); (case side2 => exact HC0_0.out); (case side3 => exact ax262); (case side4 => exact HC1_0.out); rintro e w10 ⟨rfl, hb⟩; refine ⟨_, rfl, ?_⟩; have n0_ := Aside0.mk (blk_below (g := gb436) (o := .cells #[.slice A0_0 l0_0.length c0_0] 45 (0, 0)) ax257 hb); have n1_ := Aside0.mk (blk_below (g := gb437) (o := .cells #[.slice A1_0 l1_0.length c1_0] 45 (0, 0)) ax263 hb); have n2_ := Aside0.mk (below_step ax264 hb); clear BK436; clear BK437; clear HB; have BK436 := n0_; have BK437 := n1_; have HB := n2_; clear n0_ n1_ n2_; (try clear hb); (try clear hb2); (try clear hk); (try clear hi)))
  go_ret
  exact ⟨by first | rfl | (simp [errW_none, errW_some] <;> rfl) | (simp [*, errW_none, errW_some] <;> rfl), by repeat (first | (with_reducible first | exact HB.out | apply below_alloc | apply pw_below_drewN | apply below_drew1 | refine below_set ?_ GE436.out | refine below_set ?_ GE437.out) | exact HB.out)⟩
 ·replace c4 := Bool.eq_false_iff.mpr c4
  subst c4
  have H1 : (some false) = some r := by rw [if_neg (show ¬ (false = true) by decide)] at H; exact H
  clear H; have H := H1; clear H1
  obtain rfl := Option.some.inj H
  go_enter Tryz.func21, Tryz.ntmps21
  go_wp2_with (first | ((with_reducible refine gate_dst (N := 2) rfl ?_); refine box_event ?hg (N := 2) ?hd (cs := #[.slice A0_0 l0_0.length c0_0]) (t := 45) ?hr ?_; (case hd => rfl); (case hg => rfl); (case hr => exact ax23); intro gb436 hg w11 hbox hb; have n0_ := Aside0.mk (below_step ax25 hb); have n1_ := Aside0.mk (hbox); have n2_ := Aside0.mk ((ax54 : w.heap.size ≤ gb436)); have n3_ := Aside0.mk ((ax54 : w.heap.size ≤ gb436)); clear HB; have HB := n0_; have BK436 := n1_; have GW436 := n2_; have GE436 := n3_; clear n0_ n1_ n2_ n3_; clear hb hbox hg) | ((with_reducible refine gate_dst (N := 3) rfl ?_); refine box_event ?hg (N := 3) ?hd (cs := #[.slice A1_0 l1_0.length c1_0]) (t := 45) ?hr ?_; (case hd => rfl); (case hg => rfl); (case hr => exact ax23); intro gb437 hg w12 hbox hb; have n0_ := Aside0.mk (blk_below (g := gb436) (o := .cells #[.slice A0_0 l0_0.length c0_0] 45 (0, 0)) ax257 hb); have n1_ := Aside0.mk (below_step ax258 hb); have n2_ := Aside0.mk (hbox); have n3_ := Aside0.mk ((ax259 : w.heap.size ≤ gb437)); have n4_ := Aside0.mk ((ax259 : w.heap.size ≤ gb437)); have n5_ := Aside0.mk ((ax260 : gb436 ≠ gb437)); have n6_ := Aside0.mk ((ax261 : gb437 ≠ gb436)); clear BK436; clear HB; have BK436 := n0_; have HB := n1_; have BK437 := n2_; have GW437 := n3_; have GE437 := n4_; have NB436_437 := n5_; have NB437_436 := n6_; clear n0_ n1_ n2_ n3_ n4_ n5_ n6_; clear hb hbox hg; have hnb13 := NB436_437.out; have hnc13 := NB437_436.out; have hcz14_0 : w12.cell? ⟨gb436, 0, none⟩ = some (.slice A0_0 l0_0.length c0_0) := (blk_cell BK436.out 0).trans rfl; have hfz14_0 := blk_frozen BK436.out 0; have hcz15_0 : w12.cell? ⟨gb437, 0, none⟩ = some (.slice A1_0 l1_0.length c1_0) := (blk_cell BK437.out 0).trans rfl; have hfz15_0 := blk_frozen BK437.out 0) | ((with_reducible refine gate_callee (f := 46) rfl ?_); refine goesL_ (some 9) rfl rfl Tryz.func46 (by kernel_rfl) rfl #[.slice A0_0 l0_0.length c0_0, .slice A1_0 l1_0.length c1_0] rfl ax31 ?_; (with_reducible refine (laws_eqNodeS.calls k _ _ l0_0 _ _ l1_0 false _ ?side1 ?side2 ?side3 ?side4 A3.out).mono ?_); (case side1 => exact ax126); (case side2 => exact HC0_0.out); (case side3 => exact ax262); (case side4 => exact HC1_0.out); rintro e w16 ⟨rfl, hb⟩; refine ⟨_, rfl, ?_⟩; have n0_ := Aside0.mk (blk_below (g := gb436) (o := .cells #[.slice A0_0 l0_0.length c0_0] 45 (0, 0)) ax257 hb); have n1_ := Aside0.mk (blk_below (g := gb437) (o := .cells #[.slice A1_0 l1_0.length c1_0] 45 (0, 0)) ax263 hb); have n2_ := Aside0.mk (below_step ax264 hb); clear BK436; clear BK437; clear HB; have BK436 := n0_; have BK437 := n1_; have HB := n2_; clear n0_ n1_ n2_; (try clear hb); (try clear hb2); (try clear hk); (try clear hi)))
  go_ret
  exact ⟨by first | rfl | (simp [errW_none, errW_some] <;> rfl) | (simp [*, errW_none, errW_some] <;> rfl), by repeat (first | (with_reducible first | exact HB.out | apply below_alloc | apply pw_below_drewN | apply below_drew1 | refine below_set ?_ GE436.out | refine below_set ?_ GE437.out) | exact HB.out)⟩

end Go.Proofs.YtmecniejpoopfaaGreatDoor.X

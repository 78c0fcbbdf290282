-- By gen.py (the session's own program over the kit's printer): functions of the program, each with its contract. Lean checks it.
import Derived.Test.YtcbjfflaamlpcaaX0
import Derived.Test.YtcbjfflaamlpcaaX2
import Derived.Test.YtcbjfflaamlpcaaX3
import Derived.Test.YtcbjfflaamlpcaaX10
import Derived.Test.YtcbjfflaamlpcaaX11
import Derived.Test.YtcbjfflaamlpcaaX16
namespace Go.Proofs.Ytcbjfflaamlpcaa.X
open Go.RowKit Go.Proofs.YtcbjfflaamlpcaaW.PrintWords Go.Proofs.YtcbjfflaamlpcaaW.PrintLast Go.Proofs.YtcbjfflaamlpcaaW.PrintMore
attribute [local go_sem] max2_int min2_int max_two min_two max_three min_three max_four min_four   -- for this text's walks alone
set_option linter.unusedVariables false
set_option linter.unusedSimpArgs false

/-! ### impl_BestGame: function 39 -/
mutual
def impl_BestGame.l0 : Nat → List ByteArray → Int → List (S67) → List (S67) → Int → List ByteArray → Option (ByteArray × Bool)
 | 0, _, _, _, _, _, _ => none
 | k + 1, x8, x9, x403000, x405000, x405001, x405002 => (impl_game_isFatal.f x405000 x405001 x405002 x9).bind fun t412 => (if t412 = true then ((strings_Join.f x8 (⟨#[]⟩ : ByteArray)).bind fun t413 => (some (t413, true))) else ((impl_Trie_kids.f k x403000 x9).bind fun t414 => (if (t414.length : Int) = 0 then ((strings_Join.f x8 (⟨#[]⟩ : ByteArray)).bind fun t417 => (some (t417, true))) else (if 0 < (t414.length : Int) then (impl_BestGame.l1 k x8 t414 (rd t414 0) (wrap64 ((t414.length : Int) - 1)) x403000 x405000 x405001 x405002) else (none)))))
def impl_BestGame.l1 : Nat → List ByteArray → List Int → Int → Int → List (S67) → List (S67) → Int → List ByteArray → Option (ByteArray × Bool)
 | 0, _, _, _, _, _, _, _, _ => none
 | k + 1, x8, x10, x11, x12, x403000, x405000, x405001, x405002 => if x12 ≥ 0 then (if 0 ≤ x12 then (if x12 < (x10.length : Int) then ((impl_game_isGood.f k x405000 x405001 x405002 (rd x10 x12)).bind fun t420 => (if t420 = true then (impl_BestGame.l1 k x8 x10 (rd x10 x12) (wrap64 (x12 - 1)) x403000 x405000 x405001 x405002) else (impl_BestGame.l1 k x8 x10 x11 (wrap64 (x12 - 1)) x403000 x405000 x405001 x405002))) else (none)) else (none)) else (if 0 ≤ x11 then (if x11 < (x403000.length : Int) then ((impl_letter.f ((rd_T67 x403000 x11).f0)).bind fun t423 => (if x8.length < 8796093022208 then (impl_BestGame.l0 k (x8 ++ [t423]) x11 x403000 x405000 x405001 x405002) else (none))) else (none)) else (none))
end
def impl_BestGame.f (k : Nat) (l0_0 : List (S67)) (a1 : Int) : Option (ByteArray × Bool) := (impl_newGame.f k l0_0 a1).bind fun bt403 => (if bt403.1 = true then (impl_BestGame.l0 k (([] : List ByteArray)) 0 l0_0 l0_0 bt403.2.1 bt403.2.2) else (some ((⟨#[]⟩ : ByteArray), false)))
theorem impl_BestGame.mono_l : ∀ k, (∀ y0 y1 y2 y3 y4 y5, LeO (impl_BestGame.l0 k y0 y1 y2 y3 y4 y5) (impl_BestGame.l0 (k + 1) y0 y1 y2 y3 y4 y5)) ∧ (∀ y0 y1 y2 y3 y4 y5 y6 y7, LeO (impl_BestGame.l1 k y0 y1 y2 y3 y4 y5 y6 y7) (impl_BestGame.l1 (k + 1) y0 y1 y2 y3 y4 y5 y6 y7))
 | 0 => ⟨fun _ _ _ _ _ _ r h => by simp [impl_BestGame.l0] at h, fun _ _ _ _ _ _ _ _ r h => by simp [impl_BestGame.l1] at h⟩
 | k + 1 => by
  obtain ⟨ih0, ih1⟩ := impl_BestGame.mono_l k
  refine ⟨?_, ?_⟩
  ·intro y0 y1 y2 y3 y4 y5
   unfold impl_BestGame.l0
   repeat' first
   | (with_reducible exact ih0 _ _ _ _ _ _)
   | (with_reducible exact ih1 _ _ _ _ _ _ _ _)
   | (with_reducible exact impl_Trie_kids.mono _ _ _)
   | (with_reducible exact impl_game_isGood.mono _ _ _ _ _)
   | (with_reducible exact impl_newGame.mono _ _ _)
   | (with_reducible exact LeO.refl _)
   | (with_reducible exact LeO.none _)
   | (with_reducible refine LeO.ite ?_ ?_)
   | (with_reducible refine LeO.bind ?_ (fun _ => ?_))
   | exact ih0 _ _ _ _ _ _
   | exact ih1 _ _ _ _ _ _ _ _
   | exact impl_Trie_kids.mono _ _ _
   | exact impl_game_isGood.mono _ _ _ _ _
   | exact impl_newGame.mono _ _ _
   | exact LeO.none _
   | refine LeO.ite ?_ ?_
   | refine LeO.bind ?_ (fun _ => ?_)
  ·intro y0 y1 y2 y3 y4 y5 y6 y7
   unfold impl_BestGame.l1
   repeat' first
   | (with_reducible exact ih0 _ _ _ _ _ _)
   | (with_reducible exact ih1 _ _ _ _ _ _ _ _)
   | (with_reducible exact impl_Trie_kids.mono _ _ _)
   | (with_reducible exact impl_game_isGood.mono _ _ _ _ _)
   | (with_reducible exact impl_newGame.mono _ _ _)
   | (with_reducible exact LeO.refl _)
   | (with_reducible exact LeO.none _)
   | (with_reducible refine LeO.ite ?_ ?_)
   | (with_reducible refine LeO.bind ?_ (fun _ => ?_))
   | exact ih0 _ _ _ _ _ _
   | exact ih1 _ _ _ _ _ _ _ _
   | exact impl_Trie_kids.mono _ _ _
   | exact impl_game_isGood.mono _ _ _ _ _
   | exact impl_newGame.mono _ _ _
   | exact LeO.none _
   | refine LeO.ite ?_ ?_
   | refine LeO.bind ?_ (fun _ => ?_)
theorem impl_BestGame.mono : ∀ a0 a1 k, LeO (impl_BestGame.f k a0 a1) (impl_BestGame.f (k + 1) a0 a1) := by
 intro a0 a1 k
 obtain ⟨ih0, ih1⟩ := impl_BestGame.mono_l k
 unfold impl_BestGame.f
 repeat' first
   | (with_reducible exact ih0 _ _ _ _ _ _)
   | (with_reducible exact ih1 _ _ _ _ _ _ _ _)
   | (with_reducible exact impl_Trie_kids.mono _ _ _)
   | (with_reducible exact impl_game_isGood.mono _ _ _ _ _)
   | (with_reducible exact impl_newGame.mono _ _ _)
   | (with_reducible exact LeO.refl _)
   | (with_reducible exact LeO.none _)
   | (with_reducible refine LeO.ite ?_ ?_)
   | (with_reducible refine LeO.bind ?_ (fun _ => ?_))
   | exact ih0 _ _ _ _ _ _
   | exact ih1 _ _ _ _ _ _ _ _
   | exact impl_Trie_kids.mono _ _ _
   | exact impl_game_isGood.mono _ _ _ _ _
   | exact impl_newGame.mono _ _ _
   | exact LeO.none _
   | refine LeO.ite ?_ ?_
   | refine LeO.bind ?_ (fun _ => ?_)
set_option maxHeartbeats 8000000 in
set_option maxRecDepth 100000 in
theorem impl_BestGame.calls (k : Nat) (A0_0 : Option Addr) (c0_0 : Nat) (l0_0 : List (S67)) (a1 : Int) (r1 : ByteArray) (r2 : Bool) (w : World) (hr0_0 : Kd.C k67 w A0_0 l0_0.length l0_0) (hc0_0 : l0_0.length ≤ c0_0) (h : impl_BestGame.f k l0_0 a1 = some (r1, r2)) :
  Calls Try.prog 39 #[.agg #[.slice A0_0 l0_0.length c0_0], .int .i64 a1] w fun e w' => e = .returned (.tuple #[.string r1, .bool r2]) ∧ Below w.heap.size w w' := by
 have hu30 := Try.underlying30; have HR0_0 := Aside0.mk hr0_0; have HC0_0 := Aside0.mk hc0_0; clear hr0_0 hc0_0; have HB := Aside0.mk (Below.refl w.heap.size w)
 have H : ((impl_newGame.f k l0_0 a1).bind fun bt403 => (if bt403.1 = true then (impl_BestGame.l0 k (([] : List ByteArray)) 0 l0_0 l0_0 bt403.2.1 bt403.2.2) else (some ((⟨#[]⟩ : ByteArray), false)))) = some (r1, r2) := h
 clear h; replace H := Option.bind_eq_some_iff.mp H
 obtain ⟨⟨t403, t405, t406⟩, A30, H⟩ := H
 replace H : (if t403 = true then (impl_BestGame.l0 k (([] : List ByteArray)) 0 l0_0 l0_0 t405 t406) else (some ((⟨#[]⟩ : ByteArray), false))) = some (r1, r2) := H
 have A3 := Aside0.mk A30; clear A30
 by_cases c4 : t403 = true
 ·subst c4
  have H1 : (impl_BestGame.l0 k (([] : List ByteArray)) 0 l0_0 l0_0 t405 t406) = some (r1, r2) := by rw [if_pos rfl] at H; exact H
  clear H; have H := H1; clear H1
  obtain ⟨y409, hy409⟩ : ∃ y_ : List ByteArray, y_ = (([] : List ByteArray)) := ⟨_, rfl⟩
  replace H : (impl_BestGame.l0 k y409 0 l0_0 l0_0 t405 t406) = some (r1, r2) := by first | (rw [hy409]; with_reducible exact H) | (have H2_ := (Option.bind_some _ _).symm.trans H; rw [hy409]; with_reducible exact H2_) | (have H2_ := (Option.bind_some _ _).symm.trans H; with_reducible exact H2_) | with_reducible exact H | (rw [hy409]; exact H) | exact H
  have Ny409 := Aside0.mk hy409; clear hy409
  have H' := Aside0.mk H
  clear H
  go_enter Try.func39, Try.ntmps39
  go_wp2_with (first | ((with_reducible refine gate_dst (N := 2) rfl ?_); refine box_event ?hg (N := 2) ?hd (cs := #[.slice A0_0 l0_0.length c0_0]) (t := 30) ?hr ?_; (case hd => rfl); (case hg => rfl); (case hr => exact ax22); intro gb402 hg w5 hbox hb; have n0_ := Aside0.mk (below_step ax23 hb); have n1_ := Aside0.mk (hbox); have n2_ := Aside0.mk ((ax24 : w.heap.size ≤ gb402)); have n3_ := Aside0.mk ((ax24 : w.heap.size ≤ gb402)); clear HB; have HB := n0_; have BK402 := n1_; have GW402 := n2_; have GE402 := n3_; clear n0_ n1_ n2_ n3_; clear hb hbox hg; have hcz6_0 : w5.cell? ⟨gb402, 0, none⟩ = some (.slice A0_0 l0_0.length c0_0) := (blk_cell BK402.out 0).trans rfl; have hfz6_0 := blk_frozen BK402.out 0) | ((with_reducible refine gate_callee (f := 44) rfl ?_); refine goesL_ (some 16) rfl rfl Try.func44 (by kernel_rfl) rfl #[.agg #[.slice A0_0 l0_0.length c0_0], .int .i64 a1] rfl ax25 ?_; (with_reducible refine (impl_newGame.calls k _ _ l0_0 a1 true t405 t406 _ ?side1 ?side2 A3.out).mono ?_); (case side1 => exact ax26); (case side2 => exact ax27); (rintro e w7 ⟨hb, hno_, hyes_⟩; obtain ⟨gb404, v407, rfl, hbox, hgb, ho0⟩ := hyes_ rfl; clear hno_); refine ⟨_, rfl, ?_⟩; have n0_ := Aside0.mk (Kd.R_lower ho0 (below_size ax205)); have n1_ := Aside0.mk (blk_below (g := gb402) (o := .cells #[.slice A0_0 l0_0.length c0_0] 30 (0, 0)) ax206 hb); have n2_ := Aside0.mk (below_step ax205 hb); have n3_ := Aside0.mk (hbox); have n4_ := Aside0.mk ((Nat.le_trans (below_size ax205) hgb : w.heap.size ≤ gb404)); have n5_ := Aside0.mk ((Nat.le_trans (below_size ax205) hgb : w.heap.size ≤ gb404)); have n6_ := Aside0.mk ((Nat.ne_of_lt (Nat.lt_of_lt_of_le (blk_lt (g := gb402) (o := .cells #[.slice A0_0 l0_0.length c0_0] 30 (0, 0)) ax206) hgb) : gb402 ≠ gb404)); have n7_ := Aside0.mk ((Nat.ne_of_gt (Nat.lt_of_lt_of_le (blk_lt (g := gb402) (o := .cells #[.slice A0_0 l0_0.length c0_0] 30 (0, 0)) ax206) hgb) : gb404 ≠ gb402)); clear BK402; clear HB; have HO408 := n0_; have BK402 := n1_; have HB := n2_; have BK404 := n3_; have GW404 := n4_; have GE404 := n5_; have NB402_404 := n6_; have NB404_402 := n7_; clear n0_ n1_ n2_ n3_ n4_ n5_ n6_ n7_; (try clear hb); (try clear hbox); (try clear hgb); (try clear ho0)) | ((with_reducible refine gate_dst (N := 21) rfl ?_); refine Kd.R_lit Kd.string _ 9 ?hg (N := 21) ?hd (xs := ([] : List ByteArray)) (inner := []) (ok := fun _ => True) (okp := fun _ => True) ?hr ?hp (fun _ hk => hk) trivial (Below.refl _ _) (Nat.le_refl _) (by simp) ?_; (case hd => rfl); (case hg => rfl); (case hr => exact ax22); (case hp => exact ax71); intro v410 w8 ho9 hb hg_ hnew_; clear hg_ hnew_; (first | rw [← Ny409.out] at ho9 | (simp only [Int.reduceToNat] at ho9; rw [← Ny409.out] at ho9)); have n0_ := Aside0.mk (Kd.R_elder' ax207 (Kd.R_base ho9) hb); have n1_ := Aside0.mk (Kd.R_lower (Kd.R_new' ho9 (Kd.R_lt ax207)) (below_size ax208)); have n2_ := Aside0.mk (blk_below (g := gb402) (o := .cells #[.slice A0_0 l0_0.length c0_0] 30 (0, 0)) ax206 hb); have n3_ := Aside0.mk (blk_below (g := gb404) (o := .cells #[.slice A0_0 l0_0.length c0_0, .int .i64 t405, v407] 69 (0, 0)) ax209 hb); have n4_ := Aside0.mk (below_step ax208 hb); clear HO408; clear BK402; clear BK404; clear HB; have HO408 := n0_; have HO411 := n1_; have BK402 := n2_; have BK404 := n3_; have HB := n4_; clear n0_ n1_ n2_ n3_ n4_; clear hb ho9))
  go_loopg [8, 9] k (fun kq v8 v9 w' => ∃ (x8_1 : List ByteArray) (x9_1 : Int), v9 = .int .i64 x9_1 ∧ Aside0 (impl_BestGame.l0 kq x8_1 x9_1 l0_0 l0_0 t405 t406 = some (r1, r2)) ∧ Aside0 (kq ≤ k) ∧ Aside0 (Kd.R Kd.string 9 w' w.heap.size (fun k_ => some k_ ≠ (v407 : Value).ownBlock) v8 x8_1) ∧ Aside0 (Kd.R Kd.string 9 w' w.heap.size (fun k_ => some k_ ≠ (v8 : Value).ownBlock) v407 t406) ∧ Aside0 (w'.heap[gb402]? = some (.cells #[(.slice A0_0 l0_0.length c0_0)] 30 (0, 0))) ∧ Aside0 (w'.heap[gb404]? = some (.cells #[(.slice A0_0 l0_0.length c0_0), .int .i64 t405, v407] 69 (0, 0))) ∧ Aside0 (Below w.heap.size w w'))
  case atStart => exact ⟨(y409), (0), ax37, H', ⟨Nat.le_refl _⟩, ⟨by (with_reducible repeat (first | apply Kd.R_alloc | apply Kd.R_drewN | apply Kd.R_drew)); exact Kd.R_mono HO411.out (fun _ hk => hk.2)⟩, ⟨by (with_reducible repeat (first | apply Kd.R_alloc | apply Kd.R_drewN | apply Kd.R_drew)); exact Kd.R_mono HO408.out (fun _ hk => hk.2)⟩, ⟨by (with_reducible repeat (first | refine blk_drewN ?_ _ | refine blk_drew ?_ | refine blk_alloc ?_ _)); exact BK402.out⟩, ⟨by (with_reducible repeat (first | refine blk_drewN ?_ _ | refine blk_drew ?_ | refine blk_alloc ?_ _)); exact BK404.out⟩, ⟨by repeat (first | (with_reducible first | exact HB.out | apply below_alloc | apply pw_below_drewN | apply below_drew1 | refine below_set ?_ GE402.out | refine below_set ?_ GE404.out) | exact HB.out)⟩⟩
  case round =>
   clear H'
   try clear p2
   try clear c3
   try clear c4
   try clear hcz6_0
   try clear hfz6_0
   obtain ⟨x8_1, x9_1, rfl, HA, HK1, HO_8, HO_405002, BK402, BK404, HB⟩ := hrel
   cases gk with
   | zero => exact absurd HA.out (by simp [impl_BestGame.l0])
   | succ k1 =>
    have H := HA.out; clear HA
    simp only [impl_BestGame.l0] at H
    replace H := Option.bind_eq_some_iff.mp H
    obtain ⟨t412, A100, H⟩ := H
    replace H : (if t412 = true then ((strings_Join.f x8_1 (⟨#[]⟩ : ByteArray)).bind fun t413 => (some (t413, true))) else ((impl_Trie_kids.f k1 l0_0 x9_1).bind fun t414 => (if (t414.length : Int) = 0 then ((strings_Join.f x8_1 (⟨#[]⟩ : ByteArray)).bind fun t417 => (some (t417, true))) else (if 0 < (t414.length : Int) then (impl_BestGame.l1 k1 x8_1 t414 (rd t414 0) (wrap64 ((t414.length : Int) - 1)) l0_0 l0_0 t405 t406) else (none))))) = some (r1, r2) := H
    have A10 := Aside0.mk A100; clear A100
    by_cases c11 : t412 = true
    ·subst c11
     have H1 : ((strings_Join.f x8_1 (⟨#[]⟩ : ByteArray)).bind fun t413 => (some (t413, true))) = some (r1, r2) := by rw [if_pos rfl] at H; exact H
     clear H; have H := H1; clear H1; replace H := Option.bind_eq_some_iff.mp H
     obtain ⟨t413, A120, H⟩ := H
     replace H : (some (t413, true)) = some (r1, r2) := H
     have A12 := Aside0.mk A120; clear A120
     simp only [Option.some.injEq, Prod.mk.injEq] at H
     obtain ⟨rfl, rfl⟩ := H
     obtain ⟨Ao13, co13, eo13⟩ := Kd.R_slice HO_405002.out
     subst eo13
     go_wp2_with (first | ((with_reducible refine gate_callee (f := 63) rfl ?_); refine goesL_ (some 24) rfl rfl Try.func63 (by kernel_rfl) rfl #[.pointer (some ⟨gb404, 0, none⟩), .int .i64 x9_1] rfl ax25 ?_; (with_reducible refine (impl_game_isFatal.calls gb404 A0_0 c0_0 l0_0 t405 Ao13 co13 t406 x9_1 true _ ?side1 ?side2 ?side3 ?side4 ?side5 A10.out).mono ?_); (case side1 => exact ax26); (case side2 => exact ax27); (case side3 => exact ax210); (case side4 => exact ax211); (case side5 => exact ax209); rintro e w14 ⟨rfl, hb⟩; refine ⟨_, rfl, ?_⟩; have n0_ := Aside0.mk (Kd.R_below ax212 hb); have n1_ := Aside0.mk (Kd.R_below ax213 hb); have n2_ := Aside0.mk (blk_below (g := gb402) (o := .cells #[.slice A0_0 l0_0.length c0_0] 30 (0, 0)) ax206 hb); have n3_ := Aside0.mk (blk_below (g := gb404) (o := .cells #[.slice A0_0 l0_0.length c0_0, .int .i64 t405, .slice Ao13 t406.length co13] 69 (0, 0)) ax209 hb); have n4_ := Aside0.mk (below_step ax208 hb); clear HO_8; clear HO_405002; clear BK402; clear BK404; clear HB; have HO_8 := n0_; have HO_405002 := n1_; have BK402 := n2_; have BK404 := n3_; have HB := n4_; clear n0_ n1_ n2_ n3_ n4_; (try clear hb); (try clear hb2); (try clear hk); (try clear hi); obtain ⟨Ao15, co15, eo15⟩ := Kd.R_slice HO_8.out; subst eo15) | ((with_reducible refine gate_callee (f := 75) rfl ?_); refine goesL_ (some 64) rfl rfl Try.func75 (by kernel_rfl) rfl #[.slice Ao15 x8_1.length co15, .string (⟨#[]⟩ : ByteArray)] rfl ax25 ?_; (with_reducible refine (strings_Join.calls _ _ x8_1 (⟨#[]⟩ : ByteArray) t413 _ ?side1 ?side2 A12.out).mono ?_); (case side1 => exact ax214); (case side2 => exact (Kd.R_reads' HO_8.out).2.1); rintro e w16 ⟨rfl, hb⟩; refine ⟨_, rfl, ?_⟩; have n0_ := Aside0.mk (Kd.R_below ax212 hb); have n1_ := Aside0.mk (Kd.R_below ax213 hb); have n2_ := Aside0.mk (blk_below (g := gb402) (o := .cells #[.slice A0_0 l0_0.length c0_0] 30 (0, 0)) ax206 hb); have n3_ := Aside0.mk (blk_below (g := gb404) (o := .cells #[.slice A0_0 l0_0.length c0_0, .int .i64 t405, .slice Ao13 t406.length co13] 69 (0, 0)) ax209 hb); have n4_ := Aside0.mk (below_step ax208 hb); clear HO_8; clear HO_405002; clear BK402; clear BK404; clear HB; have HO_8 := n0_; have HO_405002 := n1_; have BK402 := n2_; have BK404 := n3_; have HB := n4_; clear n0_ n1_ n2_ n3_ n4_; (try clear hb); (try clear hb2); (try clear hk); (try clear hi)))
     go_ret2
     exact ⟨by first | rfl | (simp [errW_none, errW_some] <;> rfl) | (simp [*, errW_none, errW_some] <;> rfl), by repeat (first | (with_reducible first | exact HB.out | apply below_alloc | apply pw_below_drewN | apply below_drew1 | refine below_set ?_ GE402.out | refine below_set ?_ GE404.out) | exact HB.out)⟩
    ·replace c11 := Bool.eq_false_iff.mpr c11
     subst c11
     have H1 : ((impl_Trie_kids.f k1 l0_0 x9_1).bind fun t414 => (if (t414.length : Int) = 0 then ((strings_Join.f x8_1 (⟨#[]⟩ : ByteArray)).bind fun t417 => (some (t417, true))) else (if 0 < (t414.length : Int) then (impl_BestGame.l1 k1 x8_1 t414 (rd t414 0) (wrap64 ((t414.length : Int) - 1)) l0_0 l0_0 t405 t406) else (none)))) = some (r1, r2) := by rw [if_neg (show ¬ (false = true) by decide)] at H; exact H
     clear H; have H := H1; clear H1; replace H := Option.bind_eq_some_iff.mp H
     obtain ⟨t414, A170, H⟩ := H
     replace H : (if (t414.length : Int) = 0 then ((strings_Join.f x8_1 (⟨#[]⟩ : ByteArray)).bind fun t417 => (some (t417, true))) else (if 0 < (t414.length : Int) then (impl_BestGame.l1 k1 x8_1 t414 (rd t414 0) (wrap64 ((t414.length : Int) - 1)) l0_0 l0_0 t405 t406) else (none))) = some (r1, r2) := H
     have A17 := Aside0.mk A170; clear A170
     by_cases c18 : (t414.length : Int) = 0
     ·rw [if_pos c18] at H
      have c18b0 : ((t414.length : Int) == 0) = true := beq_iff_eq.mpr c18
      have c18b1 : ((t414.length : Int) != 0) = false := bne_eq_false_iff_eq.mpr c18
      clear c18; replace H := Option.bind_eq_some_iff.mp H
      obtain ⟨t417, A190, H⟩ := H
      replace H : (some (t417, true)) = some (r1, r2) := H
      have A19 := Aside0.mk A190; clear A190
      simp only [Option.some.injEq, Prod.mk.injEq] at H
      obtain ⟨rfl, rfl⟩ := H
      obtain ⟨Ao20, co20, eo20⟩ := Kd.R_slice HO_405002.out
      subst eo20
      go_wp2_with (first | ((with_reducible refine gate_callee (f := 63) rfl ?_); refine goesL_ (some 24) rfl rfl Try.func63 (by kernel_rfl) rfl #[.pointer (some ⟨gb404, 0, none⟩), .int .i64 x9_1] rfl ax25 ?_; (with_reducible refine (impl_game_isFatal.calls gb404 A0_0 c0_0 l0_0 t405 Ao20 co20 t406 x9_1 false _ ?side1 ?side2 ?side3 ?side4 ?side5 A10.out).mono ?_); (case side1 => exact ax26); (case side2 => exact ax27); (case side3 => exact ax210); (case side4 => exact ax211); (case side5 => exact ax209); rintro e w21 ⟨rfl, hb⟩; refine ⟨_, rfl, ?_⟩; have n0_ := Aside0.mk (Kd.R_below ax212 hb); have n1_ := Aside0.mk (Kd.R_below ax213 hb); have n2_ := Aside0.mk (blk_below (g := gb402) (o := .cells #[.slice A0_0 l0_0.length c0_0] 30 (0, 0)) ax206 hb); have n3_ := Aside0.mk (blk_below (g := gb404) (o := .cells #[.slice A0_0 l0_0.length c0_0, .int .i64 t405, .slice Ao20 t406.length co20] 69 (0, 0)) ax209 hb); have n4_ := Aside0.mk (below_step ax208 hb); clear HO_8; clear HO_405002; clear BK402; clear BK404; clear HB; have HO_8 := n0_; have HO_405002 := n1_; have BK402 := n2_; have BK404 := n3_; have HB := n4_; clear n0_ n1_ n2_ n3_ n4_; (try clear hb); (try clear hb2); (try clear hk); (try clear hi); have hnb22 := NB402_404.out; have hnc22 := NB404_402.out; have hcz23_0 : w21.cell? ⟨gb402, 0, none⟩ = some (.slice A0_0 l0_0.length c0_0) := (blk_cell BK402.out 0).trans rfl; have hfz23_0 := blk_frozen BK402.out 0) | ((with_reducible refine gate_callee (f := 59) rfl ?_); refine goesL_ (some 28) rfl rfl Try.func59 (by kernel_rfl) rfl #[.agg #[.slice A0_0 l0_0.length c0_0], .int .i64 x9_1] rfl ax25 ?_; (with_reducible refine (impl_Trie_kids.calls k1 _ _ l0_0 x9_1 t414 _ ?side1 ?side2 A17.out).mono ?_); (case side1 => exact ax26); (case side2 => exact ax27); rintro e w24 ⟨v415, rfl, ho0, hb⟩; refine ⟨_, rfl, ?_⟩; have n0_ := Aside0.mk (Kd.R_below ax212 hb); have n1_ := Aside0.mk (Kd.R_below ax213 hb); have n2_ := Aside0.mk (Kd.R_lower ho0 (below_size ax208)); have n3_ := Aside0.mk (blk_below (g := gb402) (o := .cells #[.slice A0_0 l0_0.length c0_0] 30 (0, 0)) ax206 hb); have n4_ := Aside0.mk (blk_below (g := gb404) (o := .cells #[.slice A0_0 l0_0.length c0_0, .int .i64 t405, .slice Ao20 t406.length co20] 69 (0, 0)) ax209 hb); have n5_ := Aside0.mk (below_step ax208 hb); clear HO_8; clear HO_405002; clear BK402; clear BK404; clear HB; have HO_8 := n0_; have HO_405002 := n1_; have HO416 := n2_; have BK402 := n3_; have BK404 := n4_; have HB := n5_; clear n0_ n1_ n2_ n3_ n4_ n5_; (try clear hb); (try clear hb2); (try clear hk); (try clear hi); (try clear ho0); obtain ⟨Ao25, co25, eo25⟩ := Kd.R_slice HO416.out; subst eo25; obtain ⟨Ao26, co26, eo26⟩ := Kd.R_slice HO_8.out; subst eo26) | ((with_reducible refine gate_callee (f := 75) rfl ?_); refine goesL_ (some 64) rfl rfl Try.func75 (by kernel_rfl) rfl #[.slice Ao26 x8_1.length co26, .string (⟨#[]⟩ : ByteArray)] rfl ax25 ?_; (with_reducible refine (strings_Join.calls _ _ x8_1 (⟨#[]⟩ : ByteArray) t417 _ ?side1 ?side2 A19.out).mono ?_); (case side1 => exact ax214); (case side2 => exact (Kd.R_reads' HO_8.out).2.1); rintro e w27 ⟨rfl, hb⟩; refine ⟨_, rfl, ?_⟩; have n0_ := Aside0.mk (Kd.R_below ax212 hb); have n1_ := Aside0.mk (Kd.R_below ax213 hb); have n2_ := Aside0.mk (Kd.R_below (by (with_reducible repeat (first | apply Kd.R_alloc | apply Kd.R_drewN | apply Kd.R_drew)); exact HO416.out) hb); have n3_ := Aside0.mk (blk_below (g := gb402) (o := .cells #[.slice A0_0 l0_0.length c0_0] 30 (0, 0)) ax206 hb); have n4_ := Aside0.mk (blk_below (g := gb404) (o := .cells #[.slice A0_0 l0_0.length c0_0, .int .i64 t405, .slice Ao20 t406.length co20] 69 (0, 0)) ax209 hb); have n5_ := Aside0.mk (below_step ax208 hb); clear HO_8; clear HO_405002; clear HO416; clear BK402; clear BK404; clear HB; have HO_8 := n0_; have HO_405002 := n1_; have HO416 := n2_; have BK402 := n3_; have BK404 := n4_; have HB := n5_; clear n0_ n1_ n2_ n3_ n4_ n5_; (try clear hb); (try clear hb2); (try clear hk); (try clear hi)))
      go_ret2
      exact ⟨by first | rfl | (simp [errW_none, errW_some] <;> rfl) | (simp [*, errW_none, errW_some] <;> rfl), by repeat (first | (with_reducible first | exact HB.out | apply below_alloc | apply pw_below_drewN | apply below_drew1 | refine below_set ?_ GE402.out | refine below_set ?_ GE404.out) | exact HB.out)⟩
     ·rw [if_neg c18] at H
      have c18b0 : ((t414.length : Int) == 0) = false := beq_eq_false_iff_ne.mpr c18
      have c18b1 : ((t414.length : Int) != 0) = true := bne_iff_ne.mpr c18
      have c18b2 : ¬ (t414 = []) := fun h_ => c18 (by rw [h_]; rfl)
      by_cases c28 : 0 < (t414.length : Int)
      ·rw [if_pos c28] at H
       have c28b0 : decide (0 < (t414.length : Int)) = true := decide_eq_true c28
       have c28b1 : decide (0 < t414.length) = true := decide_eq_true (by omega)
       clear c28
       have H' := Aside0.mk H
       clear H
       obtain ⟨Ao29, co29, eo29⟩ := Kd.R_slice HO_405002.out
       subst eo29
       go_wp2_with (first | ((with_reducible refine gate_callee (f := 63) rfl ?_); refine goesL_ (some 24) rfl rfl Try.func63 (by kernel_rfl) rfl #[.pointer (some ⟨gb404, 0, none⟩), .int .i64 x9_1] rfl ax25 ?_; (with_reducible refine (impl_game_isFatal.calls gb404 A0_0 c0_0 l0_0 t405 Ao29 co29 t406 x9_1 false _ ?side1 ?side2 ?side3 ?side4 ?side5 A10.out).mono ?_); (case side1 => exact ax26); (case side2 => exact ax27); (case side3 => exact ax210); (case side4 => exact ax211); (case side5 => exact ax209); rintro e w30 ⟨rfl, hb⟩; refine ⟨_, rfl, ?_⟩; have n0_ := Aside0.mk (Kd.R_below ax212 hb); have n1_ := Aside0.mk (Kd.R_below ax213 hb); have n2_ := Aside0.mk (blk_below (g := gb402) (o := .cells #[.slice A0_0 l0_0.length c0_0] 30 (0, 0)) ax206 hb); have n3_ := Aside0.mk (blk_below (g := gb404) (o := .cells #[.slice A0_0 l0_0.length c0_0, .int .i64 t405, .slice Ao29 t406.length co29] 69 (0, 0)) ax209 hb); have n4_ := Aside0.mk (below_step ax208 hb); clear HO_8; clear HO_405002; clear BK402; clear BK404; clear HB; have HO_8 := n0_; have HO_405002 := n1_; have BK402 := n2_; have BK404 := n3_; have HB := n4_; clear n0_ n1_ n2_ n3_ n4_; (try clear hb); (try clear hb2); (try clear hk); (try clear hi); have hnb31 := NB402_404.out; have hnc31 := NB404_402.out; have hcz32_0 : w30.cell? ⟨gb402, 0, none⟩ = some (.slice A0_0 l0_0.length c0_0) := (blk_cell BK402.out 0).trans rfl; have hfz32_0 := blk_frozen BK402.out 0) | ((with_reducible refine gate_callee (f := 59) rfl ?_); refine goesL_ (some 28) rfl rfl Try.func59 (by kernel_rfl) rfl #[.agg #[.slice A0_0 l0_0.length c0_0], .int .i64 x9_1] rfl ax25 ?_; (with_reducible refine (impl_Trie_kids.calls k1 _ _ l0_0 x9_1 t414 _ ?side1 ?side2 A17.out).mono ?_); (case side1 => exact ax26); (case side2 => exact ax27); rintro e w33 ⟨v415, rfl, ho0, hb⟩; refine ⟨_, rfl, ?_⟩; have n0_ := Aside0.mk (Kd.R_below ax212 hb); have n1_ := Aside0.mk (Kd.R_below ax213 hb); have n2_ := Aside0.mk (Kd.R_lower ho0 (below_size ax208)); have n3_ := Aside0.mk (blk_below (g := gb402) (o := .cells #[.slice A0_0 l0_0.length c0_0] 30 (0, 0)) ax206 hb); have n4_ := Aside0.mk (blk_below (g := gb404) (o := .cells #[.slice A0_0 l0_0.length c0_0, .int .i64 t405, .slice Ao29 t406.length co29] 69 (0, 0)) ax209 hb); have n5_ := Aside0.mk (below_step ax208 hb); clear HO_8; clear HO_405002; clear BK402; clear BK404; clear HB; have HO_8 := n0_; have HO_405002 := n1_; have HO416 := n2_; have BK402 := n3_; have BK404 := n4_; have HB := n5_; clear n0_ n1_ n2_ n3_ n4_ n5_; (try clear hb); (try clear hb2); (try clear hk); (try clear hi); (try clear ho0); obtain ⟨Ao34, co34, eo34⟩ := Kd.R_slice HO416.out; subst eo34; have p418 : 0 ≤ (0 : Int) := (by omega); have q418 : 0 < (t414.length : Int) := of_decide_eq_true ax36; obtain ⟨ad418, e418, hx418_0⟩ := Kd.at_int (Kd.R_reads' HO416.out).2.2 0 p418 q418; cases e418; have qi418 : (0 < t414.length) = True := eq_true (by omega); (try rw [show ((0 : Int)).toNat = 0 from rfl] at hx418_0); (try rw [Addr.add_zero'] at hx418_0); replace p418 := eq_true p418; replace q418 := eq_true q418))
       go_loopg [11, 12] k1 (fun kq v11 v12 w' => ∃ (x11_2 : Int) (x12_2 : Int), v11 = .int .i64 x11_2 ∧ v12 = .int .i64 x12_2 ∧ Aside0 (impl_BestGame.l1 kq x8_1 t414 x11_2 x12_2 l0_0 l0_0 t405 t406 = some (r1, r2)) ∧ Aside0 (kq ≤ k1) ∧ Aside0 (Kd.R Kd.string 9 w' w.heap.size (fun k_ => some k_ ≠ ((.slice Ao29 t406.length co29) : Value).ownBlock) u8 x8_1) ∧ Aside0 (Kd.R (Kd.int .i64) 3 w' w.heap.size (fun _ => True) (.slice (some ad418) t414.length co34) t414) ∧ Aside0 (Kd.R Kd.string 9 w' w.heap.size (fun k_ => some k_ ≠ (u8 : Value).ownBlock) (.slice Ao29 t406.length co29) t406) ∧ Aside0 (w'.heap[gb402]? = some (.cells #[(.slice A0_0 l0_0.length c0_0)] 30 (0, 0))) ∧ Aside0 (w'.heap[gb404]? = some (.cells #[(.slice A0_0 l0_0.length c0_0), .int .i64 t405, (.slice Ao29 t406.length co29)] 69 (0, 0))) ∧ Aside0 (Below w.heap.size w w'))
       case atStart => exact ⟨(rd t414 0), (wrap64 ((t414.length : Int) - 1)), ax37, ax37, H', ⟨Nat.le_refl _⟩, ⟨by (with_reducible repeat (first | apply Kd.R_alloc | apply Kd.R_drewN | apply Kd.R_drew)); exact HO_8.out⟩, ⟨by (with_reducible repeat (first | apply Kd.R_alloc | apply Kd.R_drewN | apply Kd.R_drew)); exact HO416.out⟩, ⟨by (with_reducible repeat (first | apply Kd.R_alloc | apply Kd.R_drewN | apply Kd.R_drew)); exact HO_405002.out⟩, ⟨by (with_reducible repeat (first | refine blk_drewN ?_ _ | refine blk_drew ?_ | refine blk_alloc ?_ _)); exact BK402.out⟩, ⟨by (with_reducible repeat (first | refine blk_drewN ?_ _ | refine blk_drew ?_ | refine blk_alloc ?_ _)); exact BK404.out⟩, ⟨by repeat (first | (with_reducible first | exact HB.out | apply below_alloc | apply pw_below_drewN | apply below_drew1 | refine below_set ?_ GE402.out | refine below_set ?_ GE404.out) | exact HB.out)⟩⟩
       case round =>
        clear H'
        try clear c1
        try clear c2
        try clear p2
        try clear c3
        try clear c4
        try clear p4
        try clear q4
        try clear hx4
        try clear qi4
        try clear c5
        try clear c6
        try clear p6
        try clear c7
        try clear c11
        try clear c18
        try clear c18b0
        try clear c18b1
        try clear c18b2
        try clear c22
        try clear c28
        try clear c28b0
        try clear c28b1
        try clear c31
        try clear hcz23_0
        try clear hcz32_0
        try clear hcz6_0
        try clear hfz23_0
        try clear hfz32_0
        try clear hfz6_0
        try clear hx418_0
        try clear p2
        try clear p418
        try clear q418
        obtain ⟨x11_2, x12_2, rfl, rfl, HA, HK2, HO_8, HO_10, HO_405002, BK402, BK404, HB⟩ := hrel
        cases gk with
        | zero => exact absurd HA.out (by simp [impl_BestGame.l1])
        | succ k2 =>
         have H := HA.out; clear HA
         simp only [impl_BestGame.l1] at H
         by_cases c35 : x12_2 ≥ 0
         ·rw [if_pos c35] at H
          have c35b0 : decide (0 ≤ x12_2) = true := decide_eq_true c35
          clear c35
          by_cases c36 : 0 ≤ x12_2
          ·rw [if_pos c36] at H
           have c36b0 : decide (0 ≤ x12_2) = true := decide_eq_true c36
           clear c36
           by_cases c37 : x12_2 < (t414.length : Int)
           ·rw [if_pos c37] at H
            have c37b0 : decide (x12_2 < (t414.length : Int)) = true := decide_eq_true c37
            clear c37; replace H := Option.bind_eq_some_iff.mp H
            obtain ⟨t420, A380, H⟩ := H
            replace H : (if t420 = true then (impl_BestGame.l1 k2 x8_1 t414 (rd t414 x12_2) (wrap64 (x12_2 - 1)) l0_0 l0_0 t405 t406) else (impl_BestGame.l1 k2 x8_1 t414 x11_2 (wrap64 (x12_2 - 1)) l0_0 l0_0 t405 t406)) = some (r1, r2) := H
            have A38 := Aside0.mk A380; clear A380
            by_cases c39 : t420 = true
            ·subst c39
             have H1 : (impl_BestGame.l1 k2 x8_1 t414 (rd t414 x12_2) (wrap64 (x12_2 - 1)) l0_0 l0_0 t405 t406) = some (r1, r2) := by rw [if_pos rfl] at H; exact H
             clear H; have H := H1; clear H1
             have H' := Aside0.mk H
             clear H
             have p419 : 0 ≤ (x12_2 : Int) := of_decide_eq_true ax36
             have q419 : x12_2 < (t414.length : Int) := of_decide_eq_true ax36
             obtain ⟨ad419, e419, hx419_0⟩ := Kd.at_int (Kd.R_reads' HO_10.out).2.2 x12_2 p419 q419
             obtain rfl : ad418 = ad419 := (by injection e419)
             replace p419 := eq_true p419; replace q419 := eq_true q419
             go_wp2_with (first | ((with_reducible refine gate_callee (f := 60) rfl ?_); refine goesL_ (some 47) rfl rfl Try.func60 (by kernel_rfl) rfl #[.pointer (some ⟨gb404, 0, none⟩), .int .i64 (rd t414 x12_2)] rfl ax25 ?_; (with_reducible refine (impl_game_isGood.calls k2 gb404 A0_0 c0_0 l0_0 t405 Ao29 co29 t406 (rd t414 x12_2) true _ ?side1 ?side2 ?side3 ?side4 ?side5 A38.out).mono ?_); (case side1 => exact ax26); (case side2 => exact ax27); (case side3 => exact ax210); (case side4 => exact ax211); (case side5 => exact ax209); rintro e w40 ⟨rfl, hb⟩; refine ⟨_, rfl, ?_⟩; have n0_ := Aside0.mk (Kd.R_below ax212 hb); have n1_ := Aside0.mk (Kd.R_below ax215 hb); have n2_ := Aside0.mk (Kd.R_below ax213 hb); have n3_ := Aside0.mk (blk_below (g := gb402) (o := .cells #[.slice A0_0 l0_0.length c0_0] 30 (0, 0)) ax206 hb); have n4_ := Aside0.mk (blk_below (g := gb404) (o := .cells #[.slice A0_0 l0_0.length c0_0, .int .i64 t405, .slice Ao29 t406.length co29] 69 (0, 0)) ax209 hb); have n5_ := Aside0.mk (below_step ax208 hb); clear HO_8; clear HO_10; clear HO_405002; clear BK402; clear BK404; clear HB; have HO_8 := n0_; have HO_10 := n1_; have HO_405002 := n2_; have BK402 := n3_; have BK404 := n4_; have HB := n5_; clear n0_ n1_ n2_ n3_ n4_ n5_; (try clear hb); (try clear hb2); (try clear hk); (try clear hi); have p421 : 0 ≤ (x12_2 : Int) := of_decide_eq_true ax36; have q421 : x12_2 < (t414.length : Int) := of_decide_eq_true ax36; obtain ⟨ad421, e421, hx421_0⟩ := Kd.at_int (Kd.R_reads' HO_10.out).2.2 x12_2 p421 q421; obtain rfl : ad418 = ad421 := (by injection e421); replace p421 := eq_true p421; replace q421 := eq_true q421))
             go_roundg k2
             case measure => have := HK1.out; have := HK2.out; omega
             case rel => exact ⟨(rd t414 x12_2), (wrap64 (x12_2 - 1)), ax37, ax37, H', ⟨by have := HK1.out; have := HK2.out; omega⟩, ⟨by (with_reducible repeat (first | apply Kd.R_alloc | apply Kd.R_drewN | apply Kd.R_drew)); exact HO_8.out⟩, ⟨by (with_reducible repeat (first | apply Kd.R_alloc | apply Kd.R_drewN | apply Kd.R_drew)); exact HO_10.out⟩, ⟨by (with_reducible repeat (first | apply Kd.R_alloc | apply Kd.R_drewN | apply Kd.R_drew)); exact HO_405002.out⟩, ⟨by (with_reducible repeat (first | refine blk_drewN ?_ _ | refine blk_drew ?_ | refine blk_alloc ?_ _)); exact BK402.out⟩, ⟨by (with_reducible repeat (first | refine blk_drewN ?_ _ | refine blk_drew ?_ | refine blk_alloc ?_ _)); exact BK404.out⟩, ⟨by repeat (first | (with_reducible first | exact HB.out | apply below_alloc | apply pw_below_drewN | apply below_drew1 | refine below_set ?_ GE402.out | refine below_set ?_ GE404.out) | exact HB.out)⟩⟩
            ·replace c39 := Bool.eq_false_iff.mpr c39
             subst c39
             have H1 : (impl_BestGame.l1 k2 x8_1 t414 x11_2 (wrap64 (x12_2 - 1)) l0_0 l0_0 t405 t406) = some (r1, r2) := by rw [if_neg (show ¬ (false = true) by decide)] at H; exact H
             clear H; have H := H1; clear H1
             have H' := Aside0.mk H
             clear H
             have p419 : 0 ≤ (x12_2 : Int) := of_decide_eq_true ax36
             have q419 : x12_2 < (t414.length : Int) := of_decide_eq_true ax36
             obtain ⟨ad419, e419, hx419_0⟩ := Kd.at_int (Kd.R_reads' HO_10.out).2.2 x12_2 p419 q419
             obtain rfl : ad418 = ad419 := (by injection e419)
             replace p419 := eq_true p419; replace q419 := eq_true q419
             go_wp2_with (first | ((with_reducible refine gate_callee (f := 60) rfl ?_); refine goesL_ (some 47) rfl rfl Try.func60 (by kernel_rfl) rfl #[.pointer (some ⟨gb404, 0, none⟩), .int .i64 (rd t414 x12_2)] rfl ax25 ?_; (with_reducible refine (impl_game_isGood.calls k2 gb404 A0_0 c0_0 l0_0 t405 Ao29 co29 t406 (rd t414 x12_2) false _ ?side1 ?side2 ?side3 ?side4 ?side5 A38.out).mono ?_); (case side1 => exact ax26); (case side2 => exact ax27); (case side3 => exact ax210); (case side4 => exact ax211); (case side5 => exact ax209); rintro e w41 ⟨rfl, hb⟩; refine ⟨_, rfl, ?_⟩; have n0_ := Aside0.mk (Kd.R_below ax212 hb); have n1_ := Aside0.mk (Kd.R_below ax215 hb); have n2_ := Aside0.mk (Kd.R_below ax213 hb); have n3_ := Aside0.mk (blk_below (g := gb402) (o := .cells #[.slice A0_0 l0_0.length c0_0] 30 (0, 0)) ax206 hb); have n4_ := Aside0.mk (blk_below (g := gb404) (o := .cells #[.slice A0_0 l0_0.length c0_0, .int .i64 t405, .slice Ao29 t406.length co29] 69 (0, 0)) ax209 hb); have n5_ := Aside0.mk (below_step ax208 hb); clear HO_8; clear HO_10; clear HO_405002; clear BK402; clear BK404; clear HB; have HO_8 := n0_; have HO_10 := n1_; have HO_405002 := n2_; have BK402 := n3_; have BK404 := n4_; have HB := n5_; clear n0_ n1_ n2_ n3_ n4_ n5_; (try clear hb); (try clear hb2); (try clear hk); (try clear hi)))
             go_roundg k2
             case measure => have := HK1.out; have := HK2.out; omega
             case rel => exact ⟨(x11_2), (wrap64 (x12_2 - 1)), ax37, ax37, H', ⟨by have := HK1.out; have := HK2.out; omega⟩, ⟨by (with_reducible repeat (first | apply Kd.R_alloc | apply Kd.R_drewN | apply Kd.R_drew)); exact HO_8.out⟩, ⟨by (with_reducible repeat (first | apply Kd.R_alloc | apply Kd.R_drewN | apply Kd.R_drew)); exact HO_10.out⟩, ⟨by (with_reducible repeat (first | apply Kd.R_alloc | apply Kd.R_drewN | apply Kd.R_drew)); exact HO_405002.out⟩, ⟨by (with_reducible repeat (first | refine blk_drewN ?_ _ | refine blk_drew ?_ | refine blk_alloc ?_ _)); exact BK402.out⟩, ⟨by (with_reducible repeat (first | refine blk_drewN ?_ _ | refine blk_drew ?_ | refine blk_alloc ?_ _)); exact BK404.out⟩, ⟨by repeat (first | (with_reducible first | exact HB.out | apply below_alloc | apply pw_below_drewN | apply below_drew1 | refine below_set ?_ GE402.out | refine below_set ?_ GE404.out) | exact HB.out)⟩⟩
           ·rw [if_neg c37] at H
            exact absurd H (by simp)
          ·rw [if_neg c36] at H
           exact absurd H (by simp)
         ·rw [if_neg c35] at H
          have c35b0 : decide (0 ≤ x12_2) = false := decide_eq_false c35
          clear c35
          by_cases c42 : 0 ≤ x11_2
          ·rw [if_pos c42] at H
           have c42b0 : decide (0 ≤ x11_2) = true := decide_eq_true c42
           clear c42
           by_cases c43 : x11_2 < (l0_0.length : Int)
           ·rw [if_pos c43] at H
            have c43b0 : decide (x11_2 < (l0_0.length : Int)) = true := decide_eq_true c43
            clear c43; replace H := Option.bind_eq_some_iff.mp H
            obtain ⟨t423, A440, H⟩ := H
            replace H : (if x8_1.length < 8796093022208 then (impl_BestGame.l0 k2 (x8_1 ++ [t423]) x11_2 l0_0 l0_0 t405 t406) else (none)) = some (r1, r2) := H
            have A44 := Aside0.mk A440; clear A440
            by_cases c45 : x8_1.length < 8796093022208
            ·rw [if_pos c45] at H
             have LMc45 := Aside0.mk c45; clear c45
             obtain ⟨y424, hy424⟩ : ∃ y_ : List ByteArray, y_ = (x8_1 ++ [t423]) := ⟨_, rfl⟩
             replace H : (impl_BestGame.l0 k2 y424 x11_2 l0_0 l0_0 t405 t406) = some (r1, r2) := by first | (rw [hy424]; with_reducible exact H) | (have H2_ := (Option.bind_some _ _).symm.trans H; rw [hy424]; with_reducible exact H2_) | (have H2_ := (Option.bind_some _ _).symm.trans H; with_reducible exact H2_) | with_reducible exact H | (rw [hy424]; exact H) | exact H
             have Ny424 := Aside0.mk hy424; clear hy424
             have H' := Aside0.mk H
             clear H; have hnb46 := NB402_404.out; have hnc46 := NB404_402.out
             have hcz47_0 : wr.cell? ⟨gb402, 0, none⟩ = some (.slice A0_0 l0_0.length c0_0) := (blk_cell BK402.out 0).trans rfl
             have hfz47_0 := blk_frozen BK402.out 0
             have p422 : 0 ≤ (x11_2 : Int) := of_decide_eq_true ax36
             have q422 : x11_2 < (l0_0.length : Int) := of_decide_eq_true ax36
             obtain ⟨ad422, e422, hx422_0, hx422_1, hx422_2⟩ := at_T67 HR0_0.out x11_2 p422 q422
             cases e422; replace hx422_0 := (HB.out.cell (World.block_lt_of_cell? w _ hx422_0)).trans hx422_0; replace hx422_1 := (HB.out.cell (World.block_lt_of_cell? w _ hx422_1)).trans hx422_1; replace hx422_2 := (HB.out.cell (World.block_lt_of_cell? w _ hx422_2)).trans hx422_2; replace p422 := eq_true p422; replace q422 := eq_true q422
             go_wp2_with (first | ((with_reducible refine gate_callee (f := 61) rfl ?_); refine goesL_ (some 59) rfl rfl Try.func61 (by kernel_rfl) rfl #[.int .i64 ((rd_T67 l0_0 x11_2).f0)] rfl ax25 ?_; (with_reducible refine (impl_letter.calls ((rd_T67 l0_0 x11_2).f0) t423 _ A44.out).mono ?_); rintro e w48 ⟨rfl, hb⟩; refine ⟨_, rfl, ?_⟩; have n0_ := Aside0.mk (Kd.R_below ax212 hb); have n1_ := Aside0.mk (Kd.R_below ax215 hb); have n2_ := Aside0.mk (Kd.R_below ax213 hb); have n3_ := Aside0.mk (blk_below (g := gb402) (o := .cells #[.slice (some ad422) l0_0.length c0_0] 30 (0, 0)) ax206 hb); have n4_ := Aside0.mk (blk_below (g := gb404) (o := .cells #[.slice (some ad422) l0_0.length c0_0, .int .i64 t405, .slice Ao29 t406.length co29] 69 (0, 0)) ax209 hb); have n5_ := Aside0.mk (below_step ax208 hb); clear HO_8; clear HO_10; clear HO_405002; clear BK402; clear BK404; clear HB; have HO_8 := n0_; have HO_10 := n1_; have HO_405002 := n2_; have BK402 := n3_; have BK404 := n4_; have HB := n5_; clear n0_ n1_ n2_ n3_ n4_ n5_; (try clear hb); (try clear hb2); (try clear hk); (try clear hi)) | ((with_reducible refine gate_builtin (b := .append) (xs := #[.tmp 52, .tmp 60]) rfl ?_); at_builtin; refine Kd.R_append Kd.string (w0 := w) w.heap.size rfl (.tmp 52) (.tmp 60) 40 9 (.string ⟨#[]⟩) 16 rfl Try.underlying40 info9 rfl (by decide) (by omega) u8 x8_1 t423 [.string t423] (fun k_ => some k_ ≠ (.slice Ao29 t406.length co29 : Value).ownBlock) (fun _ => False) rfl rfl ?aP (fun _ hk => hk.elim) ?aF ?aO ?aB ?aS ?aL ?_; (case aP => exact rfl); (case aB => exact ax208); (case aF => exact (fun k_ hk => Kd.fresh' (Kd.R_lt ax213) k_ hk)); (case aO => exact ax212); (case aS => exact (below_size ax208)); (case aL => have := LMc45.out; omega); intro v425 w49 ho hb hg hat; rw [← Ny424.out] at ho; have n0_ := Aside0.mk (Kd.R_over' ax215 (Kd.R_typed ax212) (by decide) hg); have n1_ := Aside0.mk (Kd.R_after (ok := (fun _ => True)) (by (with_reducible repeat (first | apply Kd.R_alloc | apply Kd.R_drewN | apply Kd.R_drew)); exact Kd.R_mono HO_405002.out (fun _ hk => ⟨trivial, hk⟩)) hg hat); have n2_ := Aside0.mk (blk_grown (g := gb402) (o := .cells #[.slice (some ad422) l0_0.length c0_0] 30 (0, 0)) ax206 hg (Kd.R_ne HO_8.out BK402.out (by decide))); have n3_ := Aside0.mk (blk_grown (g := gb404) (o := .cells #[.slice (some ad422) l0_0.length c0_0, .int .i64 t405, .slice Ao29 t406.length co29] 69 (0, 0)) ax209 hg (Kd.R_ne HO_8.out BK404.out (by decide))); have n4_ := Aside0.mk (hb); have n5_ := Aside0.mk (ho); clear HO_10; clear HO_405002; clear BK402; clear BK404; clear HB; clear HO_8; have HO_10 := n0_; have HO_405002 := n1_; have BK402 := n2_; have BK404 := n3_; have HB := n4_; have HO426 := n5_; clear n0_ n1_ n2_ n3_ n4_ n5_; clear ho hb hg hat))
             go_roundg k2
             case measure => have := HK1.out; have := HK2.out; omega
             case rel => exact ⟨(y424), (x11_2), ax37, H', ⟨by have := HK1.out; have := HK2.out; omega⟩, ⟨by (with_reducible repeat (first | apply Kd.R_alloc | apply Kd.R_drewN | apply Kd.R_drew)); exact HO426.out⟩, ⟨by (with_reducible repeat (first | apply Kd.R_alloc | apply Kd.R_drewN | apply Kd.R_drew)); exact Kd.R_mono HO_405002.out (fun _ hk => hk.2)⟩, ⟨by (with_reducible repeat (first | refine blk_drewN ?_ _ | refine blk_drew ?_ | refine blk_alloc ?_ _)); exact BK402.out⟩, ⟨by (with_reducible repeat (first | refine blk_drewN ?_ _ | refine blk_drew ?_ | refine blk_alloc ?_ _)); exact BK404.out⟩, ⟨by repeat (first | (with_reducible first | exact HB.out | apply below_alloc | apply pw_below_drewN | apply below_drew1 | refine below_set ?_ GE402.out | refine below_set ?_ GE404.out) | exact HB.out)⟩⟩
            ·rw [if_neg c45] at H
             exact absurd H (by simp)
           ·rw [if_neg c43] at H
            exact absurd H (by simp)
          ·rw [if_neg c42] at H
           exact absurd H (by simp)
      ·rw [if_neg c28] at H
       exact absurd H (by simp)
 ·replace c4 := Bool.eq_false_iff.mpr c4
  subst c4
  have H1 : (some ((⟨#[]⟩ : ByteArray), false)) = some (r1, r2) := by rw [if_neg (show ¬ (false = true) by decide)] at H; exact H
  clear H; have H := H1; clear H1
  simp only [Option.some.injEq, Prod.mk.injEq] at H
  obtain ⟨rfl, rfl⟩ := H
  go_enter Try.func39, Try.ntmps39
  go_wp2_with (first | ((with_reducible refine gate_dst (N := 2) rfl ?_); refine box_event ?hg (N := 2) ?hd (cs := #[.slice A0_0 l0_0.length c0_0]) (t := 30) ?hr ?_; (case hd => rfl); (case hg => rfl); (case hr => exact ax22); intro gb402 hg w50 hbox hb; have n0_ := Aside0.mk (below_step ax23 hb); have n1_ := Aside0.mk (hbox); have n2_ := Aside0.mk ((ax24 : w.heap.size ≤ gb402)); have n3_ := Aside0.mk ((ax24 : w.heap.size ≤ gb402)); clear HB; have HB := n0_; have BK402 := n1_; have GW402 := n2_; have GE402 := n3_; clear n0_ n1_ n2_ n3_; clear hb hbox hg; have hcz51_0 : w50.cell? ⟨gb402, 0, none⟩ = some (.slice A0_0 l0_0.length c0_0) := (blk_cell BK402.out 0).trans rfl; have hfz51_0 := blk_frozen BK402.out 0) | ((with_reducible refine gate_callee (f := 44) rfl ?_); refine goesL_ (some 16) rfl rfl Try.func44 (by kernel_rfl) rfl #[.agg #[.slice A0_0 l0_0.length c0_0], .int .i64 a1] rfl ax25 ?_; (with_reducible refine (impl_newGame.calls k _ _ l0_0 a1 false t405 t406 _ ?side1 ?side2 A3.out).mono ?_); (case side1 => exact ax26); (case side2 => exact ax27); (rintro e w52 ⟨hb, hno_, hyes_⟩; obtain rfl := hno_ rfl; clear hyes_); refine ⟨_, rfl, ?_⟩; have n0_ := Aside0.mk (blk_below (g := gb402) (o := .cells #[.slice A0_0 l0_0.length c0_0] 30 (0, 0)) ax206 hb); have n1_ := Aside0.mk (below_step ax205 hb); clear BK402; clear HB; have BK402 := n0_; have HB := n1_; clear n0_ n1_; (try clear hb); (try clear hb2); (try clear hk); (try clear hi); (try clear ho0)))
  go_ret2
  exact ⟨by first | rfl | (simp [errW_none, errW_some] <;> rfl) | (simp [*, errW_none, errW_some] <;> rfl), by repeat (first | (with_reducible first | exact HB.out | apply below_alloc | apply pw_below_drewN | apply below_drew1 | refine below_set ?_ GE402.out) | exact HB.out)⟩

/-! ### laws_FnExactBestGame: function 12 -/
def laws_FnExactBestGame.j0 : Nat → Bool → List (S80) → List (S67) → Option (Bool)
 | 0, _, _, _ => none
 | k + 1, x38, x428000, x438000 => if x38 = true then (some false) else ((laws_toTrie.f k x428000).bind fun t440 => ((laws_eqTrie.f k x438000 t440).bind fun t443 => (if t443 = true then (some true) else (some false))))
def laws_FnExactBestGame.f (k : Nat) (l0_0 : List (S80)) (a1 : Int) : Option (Bool) := (laws_szTrie.f l0_0 1048576).bind fun t428 => (if t428 < 0 then (some true) else ((laws_toTrie.f k l0_0).bind fun t429 => ((spec_BestGame.f k t429 a1).bind fun bt432 => ((laws_toTrie.f k l0_0).bind fun t434 => ((impl_BestGame.f k t434 a1).bind fun bt438 => (if bt438.1.toList = bt432.1.toList then (laws_FnExactBestGame.j0 k (bt438.2 != bt432.2) l0_0 t434) else (laws_FnExactBestGame.j0 k true l0_0 t434)))))))
theorem laws_FnExactBestGame.mono_l : ∀ k, (∀ y0 y1 y2, LeO (laws_FnExactBestGame.j0 k y0 y1 y2) (laws_FnExactBestGame.j0 (k + 1) y0 y1 y2))
 | 0 => fun _ _ _ r h => by simp [laws_FnExactBestGame.j0] at h
 | k + 1 => by
  have ih0 := laws_FnExactBestGame.mono_l k
  ·intro y0 y1 y2
   unfold laws_FnExactBestGame.j0
   repeat' first
   | (with_reducible exact ih0 _ _ _)
   | (with_reducible exact impl_BestGame.mono _ _ _)
   | (with_reducible exact laws_eqTrie.mono _ _ _)
   | (with_reducible exact laws_toTrie.mono _ _)
   | (with_reducible exact spec_BestGame.mono _ _ _)
   | (with_reducible exact LeO.refl _)
   | (with_reducible exact LeO.none _)
   | (with_reducible refine LeO.ite ?_ ?_)
   | (with_reducible refine LeO.bind ?_ (fun _ => ?_))
   | exact ih0 _ _ _
   | exact impl_BestGame.mono _ _ _
   | exact laws_eqTrie.mono _ _ _
   | exact laws_toTrie.mono _ _
   | exact spec_BestGame.mono _ _ _
   | exact LeO.none _
   | refine LeO.ite ?_ ?_
   | refine LeO.bind ?_ (fun _ => ?_)
theorem laws_FnExactBestGame.mono : ∀ a0 a1 k, LeO (laws_FnExactBestGame.f k a0 a1) (laws_FnExactBestGame.f (k + 1) a0 a1) := by
 intro a0 a1 k
 have ih0 := laws_FnExactBestGame.mono_l k
 unfold laws_FnExactBestGame.f
 repeat' first
   | (with_reducible exact ih0 _ _ _)
   | (with_reducible exact impl_BestGame.mono _ _ _)
   | (with_reducible exact laws_eqTrie.mono _ _ _)
   | (with_reducible exact laws_toTrie.mono _ _)
   | (with_reducible exact spec_BestGame.mono _ _ _)
   | (with_reducible exact LeO.refl _)
   | (with_reducible exact LeO.none _)
   | (with_reducible refine LeO.ite ?_ ?_)
   | (with_reducible refine LeO.bind ?_ (fun _ => ?_))
   | exact ih0 _ _ _
   | exact impl_BestGame.mono _ _ _
   | exact laws_eqTrie.mono _ _ _
   | exact laws_toTrie.mono _ _
   | exact spec_BestGame.mono _ _ _
   | exact LeO.none _
   | refine LeO.ite ?_ ?_
   | refine LeO.bind ?_ (fun _ => ?_)
set_option maxHeartbeats 8000000 in
set_option maxRecDepth 100000 in
theorem laws_FnExactBestGame.calls (k : Nat) (A0_0 : Option Addr) (c0_0 : Nat) (l0_0 : List (S80)) (a1 : Int) (r : Bool) (w : World) (hr0_0 : Kd.C k80 w A0_0 l0_0.length l0_0) (hc0_0 : l0_0.length ≤ c0_0) (h : laws_FnExactBestGame.f k l0_0 a1 = some r) (hr_ : r = true) :
  Calls Try.prog 12 #[.agg #[.slice A0_0 l0_0.length c0_0], .int .i64 a1] w fun e w' => e = .returned (.bool r) ∧ Below w.heap.size w w' := by
 have hu24 := Try.underlying24; have hu30 := Try.underlying30; have HR0_0 := Aside0.mk hr0_0; have HC0_0 := Aside0.mk hc0_0; clear hr0_0 hc0_0; have HB := Aside0.mk (Below.refl w.heap.size w); have HRT := Aside0.mk hr_; clear hr_
 have H : ((laws_szTrie.f l0_0 1048576).bind fun t428 => (if t428 < 0 then (some true) else ((laws_toTrie.f k l0_0).bind fun t429 => ((spec_BestGame.f k t429 a1).bind fun bt432 => ((laws_toTrie.f k l0_0).bind fun t434 => ((impl_BestGame.f k t434 a1).bind fun bt438 => (if bt438.1.toList = bt432.1.toList then (laws_FnExactBestGame.j0 k (bt438.2 != bt432.2) l0_0 t434) else (laws_FnExactBestGame.j0 k true l0_0 t434)))))))) = some r := h
 clear h; replace H := Option.bind_eq_some_iff.mp H
 obtain ⟨t428, A30, H⟩ := H
 replace H : (if t428 < 0 then (some true) else ((laws_toTrie.f k l0_0).bind fun t429 => ((spec_BestGame.f k t429 a1).bind fun bt432 => ((laws_toTrie.f k l0_0).bind fun t434 => ((impl_BestGame.f k t434 a1).bind fun bt438 => (if bt438.1.toList = bt432.1.toList then (laws_FnExactBestGame.j0 k (bt438.2 != bt432.2) l0_0 t434) else (laws_FnExactBestGame.j0 k true l0_0 t434))))))) = some r := H
 have A3 := Aside0.mk A30; clear A30
 by_cases c4 : t428 < 0
 ·rw [if_pos c4] at H
  have c4b0 : decide (t428 < 0) = true := decide_eq_true c4
  clear c4
  obtain rfl := Option.some.inj H
  go_enter Try.func12, Try.ntmps12
  go_wp2_with (first | ((with_reducible refine gate_dst (N := 2) rfl ?_); refine box_event ?hg (N := 2) ?hd (cs := #[.slice A0_0 l0_0.length c0_0]) (t := 24) ?hr ?_; (case hd => rfl); (case hg => rfl); (case hr => exact ax22); intro gb427 hg w5 hbox hb; have n0_ := Aside0.mk (below_step ax23 hb); have n1_ := Aside0.mk (hbox); have n2_ := Aside0.mk ((ax24 : w.heap.size ≤ gb427)); have n3_ := Aside0.mk ((ax24 : w.heap.size ≤ gb427)); clear HB; have HB := n0_; have BK427 := n1_; have GW427 := n2_; have GE427 := n3_; clear n0_ n1_ n2_ n3_; clear hb hbox hg; have hcz6_0 : w5.cell? ⟨gb427, 0, none⟩ = some (.slice A0_0 l0_0.length c0_0) := (blk_cell BK427.out 0).trans rfl; have hfz6_0 := blk_frozen BK427.out 0) | ((with_reducible refine gate_callee (f := 13) rfl ?_); refine goesL_ (some 13) rfl rfl Try.func13 (by kernel_rfl) rfl #[.agg #[.slice A0_0 l0_0.length c0_0], .int .i64 1048576] rfl ax25 ?_; (with_reducible refine (laws_szTrie.calls _ _ l0_0 1048576 t428 _ ?side1 ?side2 A3.out).mono ?_); (case side1 => exact ax26); (case side2 => exact ax27); rintro e w7 ⟨rfl, hb⟩; refine ⟨_, rfl, ?_⟩; have n0_ := Aside0.mk (blk_below (g := gb427) (o := .cells #[.slice A0_0 l0_0.length c0_0] 24 (0, 0)) ax216 hb); have n1_ := Aside0.mk (below_step ax217 hb); clear BK427; clear HB; have BK427 := n0_; have HB := n1_; clear n0_ n1_; (try clear hb); (try clear hb2); (try clear hk); (try clear hi)))
  go_ret
  exact ⟨by first | rfl | (simp [errW_none, errW_some] <;> rfl) | (simp [*, errW_none, errW_some] <;> rfl), by repeat (first | (with_reducible first | exact HB.out | apply below_alloc | apply pw_below_drewN | apply below_drew1 | refine below_set ?_ GE427.out) | exact HB.out)⟩
 ·rw [if_neg c4] at H
  have c4b0 : decide (t428 < 0) = false := decide_eq_false c4
  clear c4; replace H := Option.bind_eq_some_iff.mp H
  obtain ⟨t429, A80, H⟩ := H
  replace H : ((spec_BestGame.f k t429 a1).bind fun bt432 => ((laws_toTrie.f k l0_0).bind fun t434 => ((impl_BestGame.f k t434 a1).bind fun bt438 => (if bt438.1.toList = bt432.1.toList then (laws_FnExactBestGame.j0 k (bt438.2 != bt432.2) l0_0 t434) else (laws_FnExactBestGame.j0 k true l0_0 t434))))) = some r := H
  have A8 := Aside0.mk A80; clear A80; replace H := Option.bind_eq_some_iff.mp H
  obtain ⟨⟨t432, t433⟩, A90, H⟩ := H
  replace H : ((laws_toTrie.f k l0_0).bind fun t434 => ((impl_BestGame.f k t434 a1).bind fun bt438 => (if bt438.1.toList = t432.toList then (laws_FnExactBestGame.j0 k (bt438.2 != t433) l0_0 t434) else (laws_FnExactBestGame.j0 k true l0_0 t434)))) = some r := H
  have A9 := Aside0.mk A90; clear A90; replace H := Option.bind_eq_some_iff.mp H
  obtain ⟨t434, A100, H⟩ := H
  replace H : ((impl_BestGame.f k t434 a1).bind fun bt438 => (if bt438.1.toList = t432.toList then (laws_FnExactBestGame.j0 k (bt438.2 != t433) l0_0 t434) else (laws_FnExactBestGame.j0 k true l0_0 t434))) = some r := H
  have A10 := Aside0.mk A100; clear A100; replace H := Option.bind_eq_some_iff.mp H
  obtain ⟨⟨t438, t439⟩, A110, H⟩ := H
  replace H : (if t438.toList = t432.toList then (laws_FnExactBestGame.j0 k (t439 != t433) l0_0 t434) else (laws_FnExactBestGame.j0 k true l0_0 t434)) = some r := H
  have A11 := Aside0.mk A110; clear A110; have HC12 := Aside0.mk H; clear H
  go_enter Try.func12, Try.ntmps12
  go_upto_region 8 with (first | ((with_reducible refine gate_dst (N := 2) rfl ?_); refine box_event ?hg (N := 2) ?hd (cs := #[.slice A0_0 l0_0.length c0_0]) (t := 24) ?hr ?_; (case hd => rfl); (case hg => rfl); (case hr => exact ax22); intro gb427 hg w13 hbox hb; have n0_ := Aside0.mk (below_step ax23 hb); have n1_ := Aside0.mk (hbox); have n2_ := Aside0.mk ((ax24 : w.heap.size ≤ gb427)); have n3_ := Aside0.mk ((ax24 : w.heap.size ≤ gb427)); clear HB; have HB := n0_; have BK427 := n1_; have GW427 := n2_; have GE427 := n3_; clear n0_ n1_ n2_ n3_; clear hb hbox hg; have hcz14_0 : w13.cell? ⟨gb427, 0, none⟩ = some (.slice A0_0 l0_0.length c0_0) := (blk_cell BK427.out 0).trans rfl; have hfz14_0 := blk_frozen BK427.out 0) | ((with_reducible refine gate_callee (f := 13) rfl ?_); refine goesL_ (some 13) rfl rfl Try.func13 (by kernel_rfl) rfl #[.agg #[.slice A0_0 l0_0.length c0_0], .int .i64 1048576] rfl ax25 ?_; (with_reducible refine (laws_szTrie.calls _ _ l0_0 1048576 t428 _ ?side1 ?side2 A3.out).mono ?_); (case side1 => exact ax26); (case side2 => exact ax27); rintro e w15 ⟨rfl, hb⟩; refine ⟨_, rfl, ?_⟩; have n0_ := Aside0.mk (blk_below (g := gb427) (o := .cells #[.slice A0_0 l0_0.length c0_0] 24 (0, 0)) ax216 hb); have n1_ := Aside0.mk (below_step ax217 hb); clear BK427; clear HB; have BK427 := n0_; have HB := n1_; clear n0_ n1_; (try clear hb); (try clear hb2); (try clear hk); (try clear hi); have hcz16_0 : w15.cell? ⟨gb427, 0, none⟩ = some (.slice A0_0 l0_0.length c0_0) := (blk_cell BK427.out 0).trans rfl; have hfz16_0 := blk_frozen BK427.out 0) | ((with_reducible refine gate_callee (f := 15) rfl ?_); refine goesL_ (some 18) rfl rfl Try.func15 (by kernel_rfl) rfl #[.agg #[.slice A0_0 l0_0.length c0_0]] rfl ax25 ?_; (with_reducible refine (laws_toTrie.calls k _ _ l0_0 t429 _ ?side1 ?side2 A8.out).mono ?_); (case side1 => exact ax26); (case side2 => exact ax27); rintro e w17 ⟨v430, rfl, ho0, hb⟩; refine ⟨_, rfl, ?_⟩; have n0_ := Aside0.mk (Kd.R_lower ho0 (below_size ax217)); have n1_ := Aside0.mk (blk_below (g := gb427) (o := .cells #[.slice A0_0 l0_0.length c0_0] 24 (0, 0)) ax216 hb); have n2_ := Aside0.mk (below_step ax217 hb); clear BK427; clear HB; have HO431 := n0_; have BK427 := n1_; have HB := n2_; clear n0_ n1_ n2_; (try clear hb); (try clear hb2); (try clear hk); (try clear hi); (try clear ho0); obtain ⟨Ao18, co18, eo18⟩ := Kd.R_slice HO431.out; subst eo18) | ((with_reducible refine gate_callee (f := 38) rfl ?_); refine goesL_ (some 20) rfl rfl Try.func38 (by kernel_rfl) rfl #[.agg #[.slice Ao18 t429.length co18], .int .i64 a1] rfl ax25 ?_; (with_reducible refine (spec_BestGame.calls k _ _ t429 a1 t432 t433 _ ?side1 ?side2 A9.out).mono ?_); (case side1 => repeat (first | exact (Kd.R_reads' HO431.out).2.2 | (with_reducible refine Kd.C_alloc ?_ _) | (with_reducible refine Kd.C_drewN ?_ _) | (with_reducible refine Kd.C_drew ?_))); (case side2 => exact (Kd.R_reads' HO431.out).2.1); rintro e w19 ⟨rfl, hb⟩; refine ⟨_, rfl, ?_⟩; have n0_ := Aside0.mk (Kd.R_below ax218 hb); have n1_ := Aside0.mk (blk_below (g := gb427) (o := .cells #[.slice A0_0 l0_0.length c0_0] 24 (0, 0)) ax216 hb); have n2_ := Aside0.mk (below_step ax217 hb); clear HO431; clear BK427; clear HB; have HO431 := n0_; have BK427 := n1_; have HB := n2_; clear n0_ n1_ n2_; (try clear hb); (try clear hb2); (try clear hk); (try clear hi); have hcz20_0 : w19.cell? ⟨gb427, 0, none⟩ = some (.slice A0_0 l0_0.length c0_0) := (blk_cell BK427.out 0).trans rfl; have hfz20_0 := blk_frozen BK427.out 0) | ((with_reducible refine gate_callee (f := 15) rfl ?_); refine goesL_ (some 24) rfl rfl Try.func15 (by kernel_rfl) rfl #[.agg #[.slice A0_0 l0_0.length c0_0]] rfl ax25 ?_; (with_reducible refine (laws_toTrie.calls k _ _ l0_0 t434 _ ?side1 ?side2 A10.out).mono ?_); (case side1 => exact ax26); (case side2 => exact ax27); rintro e w21 ⟨v435, rfl, ho0, hb⟩; refine ⟨_, rfl, ?_⟩; have n0_ := Aside0.mk (Kd.R_elder' ax218 (Kd.R_base ho0) hb); have n1_ := Aside0.mk (Kd.R_lower (Kd.R_new' ho0 (Kd.R_lt ax218)) (below_size ax217)); have n2_ := Aside0.mk (blk_below (g := gb427) (o := .cells #[.slice A0_0 l0_0.length c0_0] 24 (0, 0)) ax216 hb); have n3_ := Aside0.mk (below_step ax217 hb); clear HO431; clear BK427; clear HB; have HO431 := n0_; have HO436 := n1_; have BK427 := n2_; have HB := n3_; clear n0_ n1_ n2_ n3_; (try clear hb); (try clear hb2); (try clear hk); (try clear hi); (try clear ho0)) | ((with_reducible refine gate_dst (N := 8) rfl ?_); refine box_event ?hg (N := 8) ?hd (cs := #[.slice none 0 0]) (t := 30) ?hr ?_; (case hd => rfl); (case hg => rfl); (case hr => exact ax22); intro gb437 hg w22 hbox hb; have n0_ := Aside0.mk (Kd.R_below ax218 hb); have n1_ := Aside0.mk (Kd.R_below (by (with_reducible repeat (first | apply Kd.R_alloc | apply Kd.R_drewN | apply Kd.R_drew)); exact HO436.out) hb); have n2_ := Aside0.mk (blk_below (g := gb427) (o := .cells #[.slice A0_0 l0_0.length c0_0] 24 (0, 0)) ax216 hb); have n3_ := Aside0.mk (below_step ax217 hb); have n4_ := Aside0.mk (hbox); have n5_ := Aside0.mk ((ax219 : w.heap.size ≤ gb437)); have n6_ := Aside0.mk ((ax219 : w.heap.size ≤ gb437)); have n7_ := Aside0.mk ((by rw [hg]; exact Nat.ne_of_lt (blk_lt (g := gb427) (o := .cells #[.slice A0_0 l0_0.length c0_0] 24 (0, 0)) ax216) : gb427 ≠ gb437)); have n8_ := Aside0.mk ((by rw [hg]; exact Nat.ne_of_gt (blk_lt (g := gb427) (o := .cells #[.slice A0_0 l0_0.length c0_0] 24 (0, 0)) ax216) : gb437 ≠ gb427)); clear HO431; clear HO436; clear BK427; clear HB; have HO431 := n0_; have HO436 := n1_; have BK427 := n2_; have HB := n3_; have BK437 := n4_; have GW437 := n5_; have GE437 := n6_; have NB427_437 := n7_; have NB437_427 := n8_; clear n0_ n1_ n2_ n3_ n4_ n5_ n6_ n7_ n8_; clear hb hbox hg; obtain ⟨Ao23, co23, eo23⟩ := Kd.R_slice HO436.out; subst eo23; have hnb24 := NB437_427.out; have hnc24 := NB427_437.out; have hcz25_0 : w22.cell? ⟨gb437, 0, none⟩ = some (.slice none 0 0) := (blk_cell BK437.out 0).trans rfl; have hfz25_0 := blk_frozen BK437.out 0) | ((with_reducible refine gate_callee (f := 39) rfl ?_); refine goesL_ (some 28) rfl rfl Try.func39 (by kernel_rfl) rfl #[.agg #[.slice Ao23 t434.length co23], .int .i64 a1] rfl ax25 ?_; (with_reducible refine (impl_BestGame.calls k _ _ t434 a1 t438 t439 _ ?side1 ?side2 A11.out).mono ?_); (case side1 => refine (Kd.R_reads' (e := 67) (base := w.heap.size) (ok := fun k_ => (True ∧ some k_ ≠ (.slice Ao18 t429.length co18 : Value).ownBlock)) (n := t434.length) (c := co23) ?_).2.2; exact ax220); (case side2 => exact (Kd.R_reads' HO436.out).2.1); rintro e w26 ⟨rfl, hb⟩; refine ⟨_, rfl, ?_⟩; have n0_ := Aside0.mk (Kd.R_below (by (with_reducible repeat (first | apply Kd.R_alloc | apply Kd.R_drewN | apply Kd.R_drew)); exact (Kd.R_mono (Kd.R_far (p := ⟨gb437, 0, none⟩) (Kd.R_types HO431.out BK437.out (by decide)) (fun _ hk => hk.2) (.slice Ao23 t434.length co23)) (fun _ h_ => h_.1))) hb); have n1_ := Aside0.mk (Kd.R_below ax220 hb); have n2_ := Aside0.mk (blk_below (g := gb427) (o := .cells #[.slice A0_0 l0_0.length c0_0] 24 (0, 0)) (by (with_reducible repeat (first | refine blk_drewN ?_ _ | refine blk_drew ?_ | refine blk_alloc ?_ _)); refine blk_far ?_ NB427_437.out _; (with_reducible repeat (first | refine blk_drewN ?_ _ | refine blk_drew ?_ | refine blk_alloc ?_ _)); exact BK427.out) hb); have n3_ := Aside0.mk (blk_below (g := gb437) (o := .cells #[.slice Ao23 t434.length co23] 30 (0, 0)) (by (with_reducible repeat (first | refine blk_drewN ?_ _ | refine blk_drew ?_ | refine blk_alloc ?_ _)); refine blk_put (cs := #[.slice none 0 0]) ?_ 0 _ rfl; (with_reducible repeat (first | refine blk_drewN ?_ _ | refine blk_drew ?_ | refine blk_alloc ?_ _)); exact BK437.out) hb); have n4_ := Aside0.mk (below_step ax221 hb); clear HO431; clear HO436; clear BK427; clear BK437; clear HB; have HO431 := n0_; have HO436 := n1_; have BK427 := n2_; have BK437 := n3_; have HB := n4_; clear n0_ n1_ n2_ n3_ n4_; (try clear hb); (try clear hb2); (try clear hk); (try clear hi)))
  (try simp only [Act.put, List.setIfInBounds_toArray, List.set_cons_zero, List.set_cons_succ])
  go_cut [38] (fun v38 wc => ∃ (kq : Nat) (x38_11 : Bool), v38 = .bool x38_11 ∧ Aside0 (laws_FnExactBestGame.j0 kq x38_11 l0_0 t434 = some r) ∧ Aside0 (kq ≤ k) ∧ Aside0 (Kd.R k67 67 wc w.heap.size (fun _ => True) (.slice Ao23 t434.length co23) t434) ∧ Aside0 (wc.heap[gb427]? = some (.cells #[(.slice A0_0 l0_0.length c0_0)] 24 (0, 0))) ∧ Aside0 (wc.heap[gb437]? = some (.cells #[(.slice Ao23 t434.length co23)] 30 (0, 0))) ∧ Aside0 (Below w.heap.size w wc))
  case first =>
   have H := HC12.out; clear HC12
   by_cases c27 : t438.toList = t432.toList
   ·rw [if_pos c27] at H
    have c27b0 : (t438.toList == t432.toList) = true := beq_iff_eq.mpr c27
    have c27b1 : (t438.toList != t432.toList) = false := bne_eq_false_iff_eq.mpr c27
    clear c27
    (first | rw [c27b0] | (simp only [i64_w, i32_w]; rw [c27b0]) | skip)
    have H' := Aside0.mk H
    clear H
    go_wp2
    go_meet
    case rel => exact ⟨_, ((t439 != t433)), ax37, H', ⟨by first | omega | exact Nat.le_refl _⟩, ⟨by (with_reducible repeat (first | apply Kd.R_alloc | apply Kd.R_drewN | apply Kd.R_drew)); exact Kd.R_mono HO436.out (fun _ hk => trivial)⟩, ⟨by (with_reducible repeat (first | refine blk_drewN ?_ _ | refine blk_drew ?_ | refine blk_alloc ?_ _)); exact BK427.out⟩, ⟨by (with_reducible repeat (first | refine blk_drewN ?_ _ | refine blk_drew ?_ | refine blk_alloc ?_ _)); exact BK437.out⟩, ⟨by repeat (first | (with_reducible first | exact HB.out | apply below_alloc | apply pw_below_drewN | apply below_drew1 | refine below_set ?_ GE427.out | refine below_set ?_ GE437.out) | exact HB.out)⟩⟩
   ·rw [if_neg c27] at H
    have c27b0 : (t438.toList == t432.toList) = false := beq_eq_false_iff_ne.mpr c27
    have c27b1 : (t438.toList != t432.toList) = true := bne_iff_ne.mpr c27
    (first | rw [c27b0] | (simp only [i64_w, i32_w]; rw [c27b0]) | skip)
    have H' := Aside0.mk H
    clear H
    go_wp2
    go_meet
    case rel => exact ⟨_, (true), ax37, H', ⟨by first | omega | exact Nat.le_refl _⟩, ⟨by (with_reducible repeat (first | apply Kd.R_alloc | apply Kd.R_drewN | apply Kd.R_drew)); exact Kd.R_mono HO436.out (fun _ hk => trivial)⟩, ⟨by (with_reducible repeat (first | refine blk_drewN ?_ _ | refine blk_drew ?_ | refine blk_alloc ?_ _)); exact BK427.out⟩, ⟨by (with_reducible repeat (first | refine blk_drewN ?_ _ | refine blk_drew ?_ | refine blk_alloc ?_ _)); exact BK437.out⟩, ⟨by repeat (first | (with_reducible first | exact HB.out | apply below_alloc | apply pw_below_drewN | apply below_drew1 | refine below_set ?_ GE427.out | refine below_set ?_ GE437.out) | exact HB.out)⟩⟩
  case rest =>
   clear HC12
   try clear c1
   try clear c2
   try clear p2
   try clear c3
   try clear c4
   try clear c4b0
   try clear c12
   try clear c13
   try clear c15
   try clear c24
   try clear c27
   try clear c27b0
   try clear c27b1
   try clear hcz14_0
   try clear hcz16_0
   try clear hcz20_0
   try clear hcz25_0
   try clear hcz6_0
   try clear hfz14_0
   try clear hfz16_0
   try clear hfz20_0
   try clear hfz25_0
   try clear hfz6_0
   obtain ⟨kq, x38_11, rfl, HA, HJ11, HO_438000, BK427, BK437, HB⟩ := hcut
   cases kq with
   | zero => exact absurd HA.out (by simp [laws_FnExactBestGame.j0])
   | succ kj11 =>
    have H := HA.out; clear HA
    simp only [laws_FnExactBestGame.j0] at H
    by_cases c28 : x38_11 = true
    ·subst c28
     have H1 : (some false) = some r := by rw [if_pos rfl] at H; exact H
     clear H; have H := H1; clear H1
     exact absurd ((Option.some.inj H).trans HRT.out) (by decide)
    ·replace c28 := Bool.eq_false_iff.mpr c28
     subst c28
     have H1 : ((laws_toTrie.f kj11 l0_0).bind fun t440 => ((laws_eqTrie.f kj11 t434 t440).bind fun t443 => (if t443 = true then (some true) else (some false)))) = some r := by rw [if_neg (show ¬ (false = true) by decide)] at H; exact H
     clear H; have H := H1; clear H1; replace H := Option.bind_eq_some_iff.mp H
     obtain ⟨t440, A290, H⟩ := H
     replace H : ((laws_eqTrie.f kj11 t434 t440).bind fun t443 => (if t443 = true then (some true) else (some false))) = some r := H
     have A29 := Aside0.mk A290; clear A290; replace H := Option.bind_eq_some_iff.mp H
     obtain ⟨t443, A300, H⟩ := H
     replace H : (if t443 = true then (some true) else (some false)) = some r := H
     have A30 := Aside0.mk A300; clear A300
     by_cases c31 : t443 = true
     ·subst c31
      have H1 : (some true) = some r := by rw [if_pos rfl] at H; exact H
      clear H; have H := H1; clear H1
      obtain rfl := Option.some.inj H
      try go_wp2
      have n0_ := Aside0.mk (Kd.R_drew HO_438000.out); have n1_ := Aside0.mk (blk_drew BK427.out); have n2_ := Aside0.mk (blk_drew BK437.out); have n3_ := Aside0.mk (below_drew1 HB.out); clear HO_438000; clear BK427; clear BK437; clear HB; have HO_438000 := n0_; have BK427 := n1_; have BK437 := n2_; have HB := n3_; clear n0_ n1_ n2_ n3_
      refine start_ (n := 5) (S := fun w' => w'.cell? ⟨gb437, 0, none⟩ = some (.slice Ao23 t434.length co23) ∧ w'.cell? ⟨gb427, 0, none⟩ = some (.slice A0_0 l0_0.length c0_0)) (ds := []) #[false, false, false, false, false] (by kernel_rfl) rfl rfl ⟨(blk_cell BK437.out 0).trans rfl, (blk_cell BK427.out 0).trans rfl⟩ (fun hHeld => ?_)
      generalize wc.drew = w32 at HO_438000 BK427 BK437 HB hHeld ⊢
      refine take_ (i := 0) (N := some 39) (v := ?_) (a' := ?_) #[true, false, false, false, false] rfl rfl (by kernel_rfl) (fun _ _ _ h => h) (Or.inl ⟨by rfl, ?_⟩) hHeld ?_ ?_; rotate_left; exact ax14; rotate_left; exact ax4
      refine take_ (i := 1) (N := some 40) (v := ?_) (a' := ?_) #[true, true, false, false, false] rfl rfl (by kernel_rfl) (fun _ _ _ h => h) (Or.inl ⟨by rfl, ?_⟩) hHeld ?_ ?_; rotate_left; exact ax14; rotate_left; exact ax4
      refine one_ (i := 2) (N := some 41) #[true, true, true, false, false] rfl rfl (by kernel_rfl) (by decide) (fun K hK => ?_)
      refine goes_ Try.func15 (by kernel_rfl) rfl #[.agg #[.slice A0_0 l0_0.length c0_0]] (by rfl) rfl rfl ax25 ?_
      with_reducible refine (laws_toTrie.calls kj11 _ _ l0_0 t440 _ ?side1 ?side2 A29.out).mono ?_
      (case side1 => exact ax26)
      (case side2 => exact ax27)
      rintro e w33 ⟨v441, rfl, ho0, hb⟩
      refine ⟨_, rfl, ?_⟩
      have n0_ := Aside0.mk (Kd.R_elder' ax222 (Kd.R_base ho0) hb); have n1_ := Aside0.mk (Kd.R_lower (Kd.R_new' ho0 (Kd.R_lt ax222)) (below_size ax221))
      have n2_ := Aside0.mk (blk_below (g := gb427) (o := .cells #[.slice A0_0 l0_0.length c0_0] 24 (0, 0)) ax216 hb)
      have n3_ := Aside0.mk (blk_below (g := gb437) (o := .cells #[.slice Ao23 t434.length co23] 30 (0, 0)) ax223 hb)
      have n4_ := Aside0.mk (below_step ax221 hb); clear HO_438000; clear BK427; clear BK437; clear HB; have HO_438000 := n0_; have HO442 := n1_; have BK427 := n2_; have BK437 := n3_; have HB := n4_; clear n0_ n1_ n2_ n3_ n4_; (try clear hb); (try clear hb2); (try clear hk); (try clear hi); (try clear ho0)
      obtain ⟨Ao34, co34, eo34⟩ := Kd.R_slice HO442.out
      (first | subst eo34 | (injection eo34 with f1_ f2_ f3_; have f4_ := f1_.symm; have f5_ := f3_.symm; clear f1_ f2_ f3_; subst f4_; subst f5_))
      refine hK.out _ _ ⟨(blk_cell BK437.out 0).trans rfl, (blk_cell BK427.out 0).trans rfl⟩ (fun hHeld => ?_)
      clear hK K
      refine norm_ (a' := ?_) ?_ ?_
      rotate_left
      ·exact ax20
      refine one_ (i := 3) (N := some 42) #[true, true, true, true, false] rfl rfl (by kernel_rfl) (by decide) (fun K hK => ?_)
      refine goes_ Try.func17 (by kernel_rfl) rfl #[.agg #[.slice Ao23 t434.length co23], .agg #[.slice Ao34 t440.length co34]] (by rfl) rfl rfl ax25 ?_
      with_reducible refine (laws_eqTrie.calls kj11 _ _ t434 _ _ t440 true _ ?side1 ?side2 ?side3 ?side4 A30.out).mono ?_
      (case side1 => repeat (first | exact (Kd.R_reads' HO_438000.out).2.2 | (with_reducible refine Kd.C_alloc ?_ _) | (with_reducible refine Kd.C_drewN ?_ _) | (with_reducible refine Kd.C_drew ?_)))
      (case side2 => exact (Kd.R_reads' HO_438000.out).2.1)
      (case side3 => repeat (first | exact (Kd.R_reads' HO442.out).2.2 | (with_reducible refine Kd.C_alloc ?_ _) | (with_reducible refine Kd.C_drewN ?_ _) | (with_reducible refine Kd.C_drew ?_)))
      (case side4 => exact (Kd.R_reads' HO442.out).2.1)
      rintro e w35 ⟨rfl, hb⟩
      refine ⟨_, rfl, ?_⟩
      have n0_ := Aside0.mk (Kd.R_below ax222 hb)
      have n1_ := Aside0.mk (Kd.R_below (by (with_reducible repeat (first | apply Kd.R_alloc | apply Kd.R_drewN | apply Kd.R_drew)); exact HO442.out) hb)
      have n2_ := Aside0.mk (blk_below (g := gb427) (o := .cells #[.slice A0_0 l0_0.length c0_0] 24 (0, 0)) ax216 hb)
      have n3_ := Aside0.mk (blk_below (g := gb437) (o := .cells #[.slice Ao23 t434.length co23] 30 (0, 0)) ax223 hb)
      have n4_ := Aside0.mk (below_step ax221 hb); clear HO_438000; clear HO442; clear BK427; clear BK437; clear HB; have HO_438000 := n0_; have HO442 := n1_; have BK427 := n2_; have BK437 := n3_; have HB := n4_; clear n0_ n1_ n2_ n3_ n4_; (try clear hb); (try clear hb2); (try clear hk); (try clear hi)
      refine hK.out _ _ ⟨(blk_cell BK437.out 0).trans rfl, (blk_cell BK427.out 0).trans rfl⟩ (fun hHeld => ?_)
      clear hK K
      refine norm_ (a' := ?_) ?_ ?_
      rotate_left
      ·show Act.put _ (some 42) _ = _
       simp only [Act.put, List.setIfInBounds_toArray, List.set_cons_zero, List.set_cons_succ, i64_w, i32_w]
       rfl
      refine pure_ (i := 4) (N := some 43) (v := ?_) (a' := ?_) #[true, true, true, true, true] rfl rfl (by kernel_rfl) (fun _ _ _ h => h) (Or.inl ⟨by rfl, ?_⟩) ?_ ?_; rotate_left; exact ax3; rotate_left; exact ax4
      refine done_ (by kernel_rfl) ?_
      try go_wp2
      go_ret
      exact ⟨by first | rfl | (simp [errW_none, errW_some] <;> rfl) | (simp [*, errW_none, errW_some] <;> rfl), by repeat (first | (with_reducible first | exact HB.out | apply below_alloc | apply pw_below_drewN | apply below_drew1 | refine below_set ?_ GE427.out | refine below_set ?_ GE437.out) | exact HB.out)⟩
     ·replace c31 := Bool.eq_false_iff.mpr c31
      subst c31
      have H1 : (some false) = some r := by rw [if_neg (show ¬ (false = true) by decide)] at H; exact H
      clear H; have H := H1; clear H1
      exact absurd ((Option.some.inj H).trans HRT.out) (by decide)

end Go.Proofs.Ytcbjfflaamlpcaa.X

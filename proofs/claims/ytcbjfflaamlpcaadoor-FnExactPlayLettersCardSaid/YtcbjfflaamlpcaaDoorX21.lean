-- By gen.py (the session's own program over the kit's printer): functions of the program, each with its contract. Lean checks it.
import Derived.Test.YtcbjfflaamlpcaaDoorX0
import Derived.Test.YtcbjfflaamlpcaaDoorX20
namespace Go.Proofs.YtcbjfflaamlpcaaDoor.X
open Go.RowKit Go.Proofs.YtcbjfflaamlpcaaDoorW.PrintWords Go.Proofs.YtcbjfflaamlpcaaDoorW.PrintLast Go.Proofs.YtcbjfflaamlpcaaDoorW.PrintMore
attribute [local go_sem] max2_int min2_int max_two min_two max_three min_three max_four min_four   -- for this text's walks alone
set_option linter.unusedVariables false
set_option linter.unusedSimpArgs false

/-! ### impl_PlayLetters: function 8 -/
mutual
def impl_PlayLetters.l0 : Nat → ByteArray → Int → Int → List (S53) → List (S53) → Int → List ByteArray → Option (Int × Int × Int × Bool)
 | 0, _, _, _, _, _, _, _ => none
 | k + 1, x2, x12, x13, x442000, x444000, x444001, x444002 => (impl_Trie_kids.f k x442000 x12).bind fun t449 => (if (t449.length : Int) = 0 then (some (x12, x13, Int.tmod x13 2, true)) else (if x13 = (x2.size : Int) then (some (x12, x13, (-1), true)) else (impl_PlayLetters.l1 k x2 x12 x13 (-1) t449 (t449.length : Int) 0 x442000 x444000 x444001 x444002)))
def impl_PlayLetters.l1 : Nat → ByteArray → Int → Int → Int → List Int → Int → Int → List (S53) → List (S53) → Int → List ByteArray → Option (Int × Int × Int × Bool)
 | 0, _, _, _, _, _, _, _, _, _, _, _ => none
 | k + 1, x2, x12, x13, x15, x51, x52, x53, x442000, x444000, x444001, x444002 => if x53 < x52 then (if 0 ≤ x53 then (if x53 < (x51.length : Int) then (if 0 ≤ (rd x51 x53) then (if (rd x51 x53) < (x442000.length : Int) then (if 0 ≤ x13 then (if x13 < (x2.size : Int) then (if ((rd_T53 x442000 (rd x51 x53)).f0) = (((bt x2 x13) - 97) % 256) then (impl_PlayLetters.l1 k x2 x12 x13 (rd x51 x53) x51 x52 (wrap64 (x53 + 1)) x442000 x444000 x444001 x444002) else (impl_PlayLetters.l1 k x2 x12 x13 x15 x51 x52 (wrap64 (x53 + 1)) x442000 x444000 x444001 x444002)) else (none)) else (none)) else (none)) else (none)) else (none)) else (none)) else (if x15 < 0 then (some (x12, x13, (-1), true)) else ((impl_game_isFatal.f x444000 x444001 x444002 x15).bind fun t454 => (if t454 = true then (some (x15, wrap64 (x13 + 1), Int.tmod x13 2, true)) else (impl_PlayLetters.l0 k x2 x15 (wrap64 (x13 + 1)) x442000 x444000 x444001 x444002))))
end
def impl_PlayLetters.f (k : Nat) (l0_0 : List (S53)) (a1 : Int) (a2 : ByteArray) : Option (Int × Int × Int × Bool) := (impl_newGame.f k l0_0 a1).bind fun bt442 => (if bt442.1 = true then ((impl_isWord.f a2).bind fun t448 => (if t448 = true then (impl_PlayLetters.l0 k a2 0 0 l0_0 l0_0 bt442.2.1 bt442.2.2) else (some (0, 0, 0, false)))) else (some (0, 0, 0, false)))
theorem impl_PlayLetters.mono_l : ∀ k, (∀ y0 y1 y2 y3 y4 y5 y6, LeO (impl_PlayLetters.l0 k y0 y1 y2 y3 y4 y5 y6) (impl_PlayLetters.l0 (k + 1) y0 y1 y2 y3 y4 y5 y6)) ∧ (∀ y0 y1 y2 y3 y4 y5 y6 y7 y8 y9 y10, LeO (impl_PlayLetters.l1 k y0 y1 y2 y3 y4 y5 y6 y7 y8 y9 y10) (impl_PlayLetters.l1 (k + 1) y0 y1 y2 y3 y4 y5 y6 y7 y8 y9 y10))
 | 0 => ⟨fun _ _ _ _ _ _ _ r h => by simp [impl_PlayLetters.l0] at h, fun _ _ _ _ _ _ _ _ _ _ _ r h => by simp [impl_PlayLetters.l1] at h⟩
 | k + 1 => by
  obtain ⟨ih0, ih1⟩ := impl_PlayLetters.mono_l k
  refine ⟨?_, ?_⟩
  ·intro y0 y1 y2 y3 y4 y5 y6
   unfold impl_PlayLetters.l0
   repeat' first
   | (with_reducible exact ih0 _ _ _ _ _ _ _)
   | (with_reducible exact ih1 _ _ _ _ _ _ _ _ _ _ _)
   | (with_reducible exact impl_Trie_kids.mono _ _ _)
   | (with_reducible exact impl_newGame.mono _ _ _)
   | (with_reducible exact LeO.refl _)
   | (with_reducible exact LeO.none _)
   | (with_reducible refine LeO.ite ?_ ?_)
   | (with_reducible refine LeO.bind ?_ (fun _ => ?_))
   | exact ih0 _ _ _ _ _ _ _
   | exact ih1 _ _ _ _ _ _ _ _ _ _ _
   | exact impl_Trie_kids.mono _ _ _
   | exact impl_newGame.mono _ _ _
   | exact LeO.none _
   | refine LeO.ite ?_ ?_
   | refine LeO.bind ?_ (fun _ => ?_)
  ·intro y0 y1 y2 y3 y4 y5 y6 y7 y8 y9 y10
   unfold impl_PlayLetters.l1
   repeat' first
   | (with_reducible exact ih0 _ _ _ _ _ _ _)
   | (with_reducible exact ih1 _ _ _ _ _ _ _ _ _ _ _)
   | (with_reducible exact impl_Trie_kids.mono _ _ _)
   | (with_reducible exact impl_newGame.mono _ _ _)
   | (with_reducible exact LeO.refl _)
   | (with_reducible exact LeO.none _)
   | (with_reducible refine LeO.ite ?_ ?_)
   | (with_reducible refine LeO.bind ?_ (fun _ => ?_))
   | exact ih0 _ _ _ _ _ _ _
   | exact ih1 _ _ _ _ _ _ _ _ _ _ _
   | exact impl_Trie_kids.mono _ _ _
   | exact impl_newGame.mono _ _ _
   | exact LeO.none _
   | refine LeO.ite ?_ ?_
   | refine LeO.bind ?_ (fun _ => ?_)
theorem impl_PlayLetters.mono : ∀ a0 a1 a2 k, LeO (impl_PlayLetters.f k a0 a1 a2) (impl_PlayLetters.f (k + 1) a0 a1 a2) := by
 intro a0 a1 a2 k
 obtain ⟨ih0, ih1⟩ := impl_PlayLetters.mono_l k
 unfold impl_PlayLetters.f
 repeat' first
   | (with_reducible exact ih0 _ _ _ _ _ _ _)
   | (with_reducible exact ih1 _ _ _ _ _ _ _ _ _ _ _)
   | (with_reducible exact impl_Trie_kids.mono _ _ _)
   | (with_reducible exact impl_newGame.mono _ _ _)
   | (with_reducible exact LeO.refl _)
   | (with_reducible exact LeO.none _)
   | (with_reducible refine LeO.ite ?_ ?_)
   | (with_reducible refine LeO.bind ?_ (fun _ => ?_))
   | exact ih0 _ _ _ _ _ _ _
   | exact ih1 _ _ _ _ _ _ _ _ _ _ _
   | exact impl_Trie_kids.mono _ _ _
   | exact impl_newGame.mono _ _ _
   | exact LeO.none _
   | refine LeO.ite ?_ ?_
   | refine LeO.bind ?_ (fun _ => ?_)
set_option maxHeartbeats 8000000 in
set_option maxRecDepth 100000 in
theorem impl_PlayLetters.calls (k : Nat) (A0_0 : Option Addr) (c0_0 : Nat) (l0_0 : List (S53)) (a1 : Int) (a2 : ByteArray) (r1 : Int) (r2 : Int) (r3 : Int) (r4 : Bool) (w : World) (hr0_0 : Kd.C k53 w A0_0 l0_0.length l0_0) (hc0_0 : l0_0.length ≤ c0_0) (h : impl_PlayLetters.f k l0_0 a1 a2 = some (r1, r2, r3, r4)) :
  Calls Tryd.prog 8 #[.agg #[.slice A0_0 l0_0.length c0_0], .int .i64 a1, .string a2] w fun e w' => e = .returned (.tuple #[.int .i64 r1, .int .i64 r2, .int .i64 r3, .bool r4]) ∧ Below w.heap.size w w' := by
 have hu30 := Tryd.underlying30; have HR0_0 := Aside0.mk hr0_0; have HC0_0 := Aside0.mk hc0_0; clear hr0_0 hc0_0; have HB := Aside0.mk (Below.refl w.heap.size w)
 have H : ((impl_newGame.f k l0_0 a1).bind fun bt442 => (if bt442.1 = true then ((impl_isWord.f a2).bind fun t448 => (if t448 = true then (impl_PlayLetters.l0 k a2 0 0 l0_0 l0_0 bt442.2.1 bt442.2.2) else (some (0, 0, 0, false)))) else (some (0, 0, 0, false)))) = some (r1, r2, r3, r4) := h
 clear h; replace H := Option.bind_eq_some_iff.mp H
 obtain ⟨⟨t442, t444, t445⟩, A40, H⟩ := H
 replace H : (if t442 = true then ((impl_isWord.f a2).bind fun t448 => (if t448 = true then (impl_PlayLetters.l0 k a2 0 0 l0_0 l0_0 t444 t445) else (some (0, 0, 0, false)))) else (some (0, 0, 0, false))) = some (r1, r2, r3, r4) := H
 have A4 := Aside0.mk A40; clear A40
 by_cases c5 : t442 = true
 ·subst c5
  have H1 : ((impl_isWord.f a2).bind fun t448 => (if t448 = true then (impl_PlayLetters.l0 k a2 0 0 l0_0 l0_0 t444 t445) else (some (0, 0, 0, false)))) = some (r1, r2, r3, r4) := by rw [if_pos rfl] at H; exact H
  clear H; have H := H1; clear H1; replace H := Option.bind_eq_some_iff.mp H
  obtain ⟨t448, A60, H⟩ := H
  replace H : (if t448 = true then (impl_PlayLetters.l0 k a2 0 0 l0_0 l0_0 t444 t445) else (some (0, 0, 0, false))) = some (r1, r2, r3, r4) := H
  have A6 := Aside0.mk A60; clear A60
  by_cases c7 : t448 = true
  ·subst c7
   have H1 : (impl_PlayLetters.l0 k a2 0 0 l0_0 l0_0 t444 t445) = some (r1, r2, r3, r4) := by rw [if_pos rfl] at H; exact H
   clear H; have H := H1; clear H1
   have H' := Aside0.mk H
   clear H
   go_enter Tryd.func8, Tryd.ntmps8
   go_wp2_with (first | ((with_reducible refine gate_dst (N := 3) rfl ?_); refine box_event ?hg (N := 3) ?hd (cs := #[.slice A0_0 l0_0.length c0_0]) (t := 30) ?hr ?_; (case hd => rfl); (case hg => rfl); (case hr => exact ax22); intro gb441 hg w8 hbox hb; have n0_ := Aside0.mk (below_step ax24 hb); have n1_ := Aside0.mk (hbox); have n2_ := Aside0.mk ((ax58 : w.heap.size ≤ gb441)); have n3_ := Aside0.mk ((ax58 : w.heap.size ≤ gb441)); clear HB; have HB := n0_; have BK441 := n1_; have GW441 := n2_; have GE441 := n3_; clear n0_ n1_ n2_ n3_; clear hb hbox hg; have hcz9_0 : w8.cell? ⟨gb441, 0, none⟩ = some (.slice A0_0 l0_0.length c0_0) := (blk_cell BK441.out 0).trans rfl; have hfz9_0 := blk_frozen BK441.out 0) | (go_at_call 22; (with_reducible refine (impl_newGame.calls k _ _ l0_0 a1 true t444 t445 _ ?side1 ?side2 A4.out).mono ?_); (case side1 => exact ax59); (case side2 => exact ax60); (rintro e w10 ⟨hb, hno_, hyes_⟩; obtain ⟨gb443, v446, rfl, hbox, hgb, ho0⟩ := hyes_ rfl; clear hno_); have n0_ := Aside0.mk (Kd.R_lower ho0 (below_size ax189)); have n1_ := Aside0.mk (blk_below (g := gb441) (o := .cells #[.slice A0_0 l0_0.length c0_0] 30 (0, 0)) ax190 hb); have n2_ := Aside0.mk (below_step ax189 hb); have n3_ := Aside0.mk (hbox); have n4_ := Aside0.mk ((Nat.le_trans (below_size ax189) hgb : w.heap.size ≤ gb443)); have n5_ := Aside0.mk ((Nat.le_trans (below_size ax189) hgb : w.heap.size ≤ gb443)); have n6_ := Aside0.mk ((Nat.ne_of_lt (Nat.lt_of_lt_of_le (blk_lt (g := gb441) (o := .cells #[.slice A0_0 l0_0.length c0_0] 30 (0, 0)) ax190) hgb) : gb441 ≠ gb443)); have n7_ := Aside0.mk ((Nat.ne_of_gt (Nat.lt_of_lt_of_le (blk_lt (g := gb441) (o := .cells #[.slice A0_0 l0_0.length c0_0] 30 (0, 0)) ax190) hgb) : gb443 ≠ gb441)); clear BK441; clear HB; have HO447 := n0_; have BK441 := n1_; have HB := n2_; have BK443 := n3_; have GW443 := n4_; have GE443 := n5_; have NB441_443 := n6_; have NB443_441 := n7_; clear n0_ n1_ n2_ n3_ n4_ n5_ n6_ n7_; (try clear hb); (try clear hbox); (try clear hgb); (try clear ho0)) | (go_at_call 23; (with_reducible refine (impl_isWord.calls a2 true _ A6.out).mono ?_); rintro e w11 ⟨rfl, hb⟩; have n0_ := Aside0.mk (Kd.R_below ax191 hb); have n1_ := Aside0.mk (blk_below (g := gb441) (o := .cells #[.slice A0_0 l0_0.length c0_0] 30 (0, 0)) ax190 hb); have n2_ := Aside0.mk (blk_below (g := gb443) (o := .cells #[.slice A0_0 l0_0.length c0_0, .int .i64 t444, v446] 66 (0, 0)) ax192 hb); have n3_ := Aside0.mk (below_step ax193 hb); clear HO447; clear BK441; clear BK443; clear HB; have HO447 := n0_; have BK441 := n1_; have BK443 := n2_; have HB := n3_; clear n0_ n1_ n2_ n3_; (try clear hb); (try clear hb2); (try clear hk); (try clear hi)))
   repeat (go_quiet (first | ((with_reducible refine gate_dst (N := 3) rfl ?_); refine box_event ?hg (N := 3) ?hd (cs := #[.slice A0_0 l0_0.length c0_0]) (t := 30) ?hr ?_; (case hd => rfl); (case hg => rfl); (case hr => exact ax22); intro gb441 hg w8 hbox hb; have n0_ := Aside0.mk (below_step ax24 hb); have n1_ := Aside0.mk (hbox); have n2_ := Aside0.mk ((ax58 : w.heap.size ≤ gb441)); have n3_ := Aside0.mk ((ax58 : w.heap.size ≤ gb441)); clear HB; have HB := n0_; have BK441 := n1_; have GW441 := n2_; have GE441 := n3_; clear n0_ n1_ n2_ n3_; clear hb hbox hg; have hcz9_0 : w8.cell? ⟨gb441, 0, none⟩ = some (.slice A0_0 l0_0.length c0_0) := (blk_cell BK441.out 0).trans rfl; have hfz9_0 := blk_frozen BK441.out 0) | (go_at_call 22; (with_reducible refine (impl_newGame.calls k _ _ l0_0 a1 true t444 t445 _ ?side1 ?side2 A4.out).mono ?_); (case side1 => exact ax59); (case side2 => exact ax60); (rintro e w10 ⟨hb, hno_, hyes_⟩; obtain ⟨gb443, v446, rfl, hbox, hgb, ho0⟩ := hyes_ rfl; clear hno_); have n0_ := Aside0.mk (Kd.R_lower ho0 (below_size ax189)); have n1_ := Aside0.mk (blk_below (g := gb441) (o := .cells #[.slice A0_0 l0_0.length c0_0] 30 (0, 0)) ax190 hb); have n2_ := Aside0.mk (below_step ax189 hb); have n3_ := Aside0.mk (hbox); have n4_ := Aside0.mk ((Nat.le_trans (below_size ax189) hgb : w.heap.size ≤ gb443)); have n5_ := Aside0.mk ((Nat.le_trans (below_size ax189) hgb : w.heap.size ≤ gb443)); have n6_ := Aside0.mk ((Nat.ne_of_lt (Nat.lt_of_lt_of_le (blk_lt (g := gb441) (o := .cells #[.slice A0_0 l0_0.length c0_0] 30 (0, 0)) ax190) hgb) : gb441 ≠ gb443)); have n7_ := Aside0.mk ((Nat.ne_of_gt (Nat.lt_of_lt_of_le (blk_lt (g := gb441) (o := .cells #[.slice A0_0 l0_0.length c0_0] 30 (0, 0)) ax190) hgb) : gb443 ≠ gb441)); clear BK441; clear HB; have HO447 := n0_; have BK441 := n1_; have HB := n2_; have BK443 := n3_; have GW443 := n4_; have GE443 := n5_; have NB441_443 := n6_; have NB443_441 := n7_; clear n0_ n1_ n2_ n3_ n4_ n5_ n6_ n7_; (try clear hb); (try clear hbox); (try clear hgb); (try clear ho0)) | (go_at_call 23; (with_reducible refine (impl_isWord.calls a2 true _ A6.out).mono ?_); rintro e w11 ⟨rfl, hb⟩; have n0_ := Aside0.mk (Kd.R_below ax191 hb); have n1_ := Aside0.mk (blk_below (g := gb441) (o := .cells #[.slice A0_0 l0_0.length c0_0] 30 (0, 0)) ax190 hb); have n2_ := Aside0.mk (blk_below (g := gb443) (o := .cells #[.slice A0_0 l0_0.length c0_0, .int .i64 t444, v446] 66 (0, 0)) ax192 hb); have n3_ := Aside0.mk (below_step ax193 hb); clear HO447; clear BK441; clear BK443; clear HB; have HO447 := n0_; have BK441 := n1_; have BK443 := n2_; have HB := n3_; clear n0_ n1_ n2_ n3_; (try clear hb); (try clear hb2); (try clear hk); (try clear hi))); try go_wp2_with (first | ((with_reducible refine gate_dst (N := 3) rfl ?_); refine box_event ?hg (N := 3) ?hd (cs := #[.slice A0_0 l0_0.length c0_0]) (t := 30) ?hr ?_; (case hd => rfl); (case hg => rfl); (case hr => exact ax22); intro gb441 hg w8 hbox hb; have n0_ := Aside0.mk (below_step ax24 hb); have n1_ := Aside0.mk (hbox); have n2_ := Aside0.mk ((ax58 : w.heap.size ≤ gb441)); have n3_ := Aside0.mk ((ax58 : w.heap.size ≤ gb441)); clear HB; have HB := n0_; have BK441 := n1_; have GW441 := n2_; have GE441 := n3_; clear n0_ n1_ n2_ n3_; clear hb hbox hg; have hcz9_0 : w8.cell? ⟨gb441, 0, none⟩ = some (.slice A0_0 l0_0.length c0_0) := (blk_cell BK441.out 0).trans rfl; have hfz9_0 := blk_frozen BK441.out 0) | (go_at_call 22; (with_reducible refine (impl_newGame.calls k _ _ l0_0 a1 true t444 t445 _ ?side1 ?side2 A4.out).mono ?_); (case side1 => exact ax59); (case side2 => exact ax60); (rintro e w10 ⟨hb, hno_, hyes_⟩; obtain ⟨gb443, v446, rfl, hbox, hgb, ho0⟩ := hyes_ rfl; clear hno_); have n0_ := Aside0.mk (Kd.R_lower ho0 (below_size ax189)); have n1_ := Aside0.mk (blk_below (g := gb441) (o := .cells #[.slice A0_0 l0_0.length c0_0] 30 (0, 0)) ax190 hb); have n2_ := Aside0.mk (below_step ax189 hb); have n3_ := Aside0.mk (hbox); have n4_ := Aside0.mk ((Nat.le_trans (below_size ax189) hgb : w.heap.size ≤ gb443)); have n5_ := Aside0.mk ((Nat.le_trans (below_size ax189) hgb : w.heap.size ≤ gb443)); have n6_ := Aside0.mk ((Nat.ne_of_lt (Nat.lt_of_lt_of_le (blk_lt (g := gb441) (o := .cells #[.slice A0_0 l0_0.length c0_0] 30 (0, 0)) ax190) hgb) : gb441 ≠ gb443)); have n7_ := Aside0.mk ((Nat.ne_of_gt (Nat.lt_of_lt_of_le (blk_lt (g := gb441) (o := .cells #[.slice A0_0 l0_0.length c0_0] 30 (0, 0)) ax190) hgb) : gb443 ≠ gb441)); clear BK441; clear HB; have HO447 := n0_; have BK441 := n1_; have HB := n2_; have BK443 := n3_; have GW443 := n4_; have GE443 := n5_; have NB441_443 := n6_; have NB443_441 := n7_; clear n0_ n1_ n2_ n3_ n4_ n5_ n6_ n7_; (try clear hb); (try clear hbox); (try clear hgb); (try clear ho0)) | (go_at_call 23; (with_reducible refine (impl_isWord.calls a2 true _ A6.out).mono ?_); rintro e w11 ⟨rfl, hb⟩; have n0_ := Aside0.mk (Kd.R_below ax191 hb); have n1_ := Aside0.mk (blk_below (g := gb441) (o := .cells #[.slice A0_0 l0_0.length c0_0] 30 (0, 0)) ax190 hb); have n2_ := Aside0.mk (blk_below (g := gb443) (o := .cells #[.slice A0_0 l0_0.length c0_0, .int .i64 t444, v446] 66 (0, 0)) ax192 hb); have n3_ := Aside0.mk (below_step ax193 hb); clear HO447; clear BK441; clear BK443; clear HB; have HO447 := n0_; have BK441 := n1_; have BK443 := n2_; have HB := n3_; clear n0_ n1_ n2_ n3_; (try clear hb); (try clear hb2); (try clear hk); (try clear hi))))
   go_loopg [12, 13] k (fun kq v12 v13 w' => ∃ (x12_1 : Int) (x13_1 : Int), v12 = .int .i64 x12_1 ∧ v13 = .int .i64 x13_1 ∧ Aside0 (impl_PlayLetters.l0 kq a2 x12_1 x13_1 l0_0 l0_0 t444 t445 = some (r1, r2, r3, r4)) ∧ Aside0 (kq ≤ k) ∧ Aside0 (Kd.R Kd.string 9 w' w.heap.size (fun _ => True) v446 t445) ∧ Aside0 (w'.heap[gb441]? = some (.cells #[(.slice A0_0 l0_0.length c0_0)] 30 (0, 0))) ∧ Aside0 (w'.heap[gb443]? = some (.cells #[(.slice A0_0 l0_0.length c0_0), .int .i64 t444, v446] 66 (0, 0))) ∧ Aside0 (Below w.heap.size w w'))
   case atStart => exact ⟨(0), (0), ax20, ax20, H', ⟨Nat.le_refl _⟩, ⟨by (with_reducible repeat (first | apply Kd.R_alloc | apply Kd.R_drewN | apply Kd.R_drew)); exact HO447.out⟩, ⟨by (with_reducible repeat (first | refine blk_drewN ?_ _ | refine blk_drew ?_ | refine blk_alloc ?_ _)); exact BK441.out⟩, ⟨by (with_reducible repeat (first | refine blk_drewN ?_ _ | refine blk_drew ?_ | refine blk_alloc ?_ _)); exact BK443.out⟩, ⟨by repeat (first | (with_reducible first | exact HB.out | apply below_alloc | apply pw_below_drewN | apply below_drew1 | refine below_set ?_ GE441.out | refine below_set ?_ GE443.out) | exact HB.out)⟩⟩
   case round =>
    clear H'
    try clear p2
    try clear c5
    try clear c7
    try clear c8
    try clear hcz9_0
    try clear hfz9_0
    obtain ⟨x12_1, x13_1, rfl, rfl, HA, HK1, HO_444002, BK441, BK443, HB⟩ := hrel
    cases gk with
    | zero => exact absurd HA.out (by simp [impl_PlayLetters.l0])
    | succ k1 =>
     have H := HA.out; clear HA
     simp only [impl_PlayLetters.l0] at H
     replace H := Option.bind_eq_some_iff.mp H
     obtain ⟨t449, A120, H⟩ := H
     replace H : (if (t449.length : Int) = 0 then (some (x12_1, x13_1, Int.tmod x13_1 2, true)) else (if x13_1 = (a2.size : Int) then (some (x12_1, x13_1, (-1), true)) else (impl_PlayLetters.l1 k1 a2 x12_1 x13_1 (-1) t449 (t449.length : Int) 0 l0_0 l0_0 t444 t445))) = some (r1, r2, r3, r4) := H
     have A12 := Aside0.mk A120; clear A120
     by_cases c13 : (t449.length : Int) = 0
     ·rw [if_pos c13] at H
      have c13b0 : ((t449.length : Int) == 0) = true := beq_iff_eq.mpr c13
      have c13b1 : ((t449.length : Int) != 0) = false := bne_eq_false_iff_eq.mpr c13
      clear c13
      simp only [Option.some.injEq, Prod.mk.injEq] at H
      obtain ⟨rfl, rfl, rfl, rfl⟩ := H
      have hnb14 := NB441_443.out; have hnc14 := NB443_441.out
      have hcz15_0 : wr.cell? ⟨gb441, 0, none⟩ = some (.slice A0_0 l0_0.length c0_0) := (blk_cell BK441.out 0).trans rfl
      have hfz15_0 := blk_frozen BK441.out 0
      go_wp2_with (first | (go_at_call 24; (with_reducible refine (impl_Trie_kids.calls k1 _ _ l0_0 x12_1 t449 _ ?side1 ?side2 A12.out).mono ?_); (case side1 => exact ax59); (case side2 => exact ax60); rintro e w16 ⟨v450, rfl, ho0, hb⟩; have n0_ := Aside0.mk (Kd.R_below ax194 hb); have n1_ := Aside0.mk (Kd.R_lower ho0 (below_size ax193)); have n2_ := Aside0.mk (blk_below (g := gb441) (o := .cells #[.slice A0_0 l0_0.length c0_0] 30 (0, 0)) ax190 hb); have n3_ := Aside0.mk (blk_below (g := gb443) (o := .cells #[.slice A0_0 l0_0.length c0_0, .int .i64 t444, v446] 66 (0, 0)) ax192 hb); have n4_ := Aside0.mk (below_step ax193 hb); clear HO_444002; clear BK441; clear BK443; clear HB; have HO_444002 := n0_; have HO451 := n1_; have BK441 := n2_; have BK443 := n3_; have HB := n4_; clear n0_ n1_ n2_ n3_ n4_; (try clear hb); (try clear hb2); (try clear hk); (try clear hi); (try clear ho0); obtain ⟨Ao17, co17, eo17⟩ := Kd.R_slice HO451.out; subst eo17))
      repeat (go_quiet (first | (go_at_call 24; (with_reducible refine (impl_Trie_kids.calls k1 _ _ l0_0 x12_1 t449 _ ?side1 ?side2 A12.out).mono ?_); (case side1 => exact ax59); (case side2 => exact ax60); rintro e w16 ⟨v450, rfl, ho0, hb⟩; have n0_ := Aside0.mk (Kd.R_below ax194 hb); have n1_ := Aside0.mk (Kd.R_lower ho0 (below_size ax193)); have n2_ := Aside0.mk (blk_below (g := gb441) (o := .cells #[.slice A0_0 l0_0.length c0_0] 30 (0, 0)) ax190 hb); have n3_ := Aside0.mk (blk_below (g := gb443) (o := .cells #[.slice A0_0 l0_0.length c0_0, .int .i64 t444, v446] 66 (0, 0)) ax192 hb); have n4_ := Aside0.mk (below_step ax193 hb); clear HO_444002; clear BK441; clear BK443; clear HB; have HO_444002 := n0_; have HO451 := n1_; have BK441 := n2_; have BK443 := n3_; have HB := n4_; clear n0_ n1_ n2_ n3_ n4_; (try clear hb); (try clear hb2); (try clear hk); (try clear hi); (try clear ho0); obtain ⟨Ao17, co17, eo17⟩ := Kd.R_slice HO451.out; subst eo17)); try go_wp2_with (first | (go_at_call 24; (with_reducible refine (impl_Trie_kids.calls k1 _ _ l0_0 x12_1 t449 _ ?side1 ?side2 A12.out).mono ?_); (case side1 => exact ax59); (case side2 => exact ax60); rintro e w16 ⟨v450, rfl, ho0, hb⟩; have n0_ := Aside0.mk (Kd.R_below ax194 hb); have n1_ := Aside0.mk (Kd.R_lower ho0 (below_size ax193)); have n2_ := Aside0.mk (blk_below (g := gb441) (o := .cells #[.slice A0_0 l0_0.length c0_0] 30 (0, 0)) ax190 hb); have n3_ := Aside0.mk (blk_below (g := gb443) (o := .cells #[.slice A0_0 l0_0.length c0_0, .int .i64 t444, v446] 66 (0, 0)) ax192 hb); have n4_ := Aside0.mk (below_step ax193 hb); clear HO_444002; clear BK441; clear BK443; clear HB; have HO_444002 := n0_; have HO451 := n1_; have BK441 := n2_; have BK443 := n3_; have HB := n4_; clear n0_ n1_ n2_ n3_ n4_; (try clear hb); (try clear hb2); (try clear hk); (try clear hi); (try clear ho0); obtain ⟨Ao17, co17, eo17⟩ := Kd.R_slice HO451.out; subst eo17)))
      refine bodyPost_ret (results_list (rs := [.tmp 6, .tmp 7, .tmp 8, .tmp 9]) rfl (by simp) (.tmp (.tmp (.tmp (.tmp .nil))))) rfl ?_
      exact ⟨by first | rfl | (simp [errW_none, errW_some] <;> rfl) | (simp [*, errW_none, errW_some] <;> rfl), by repeat (first | (with_reducible first | exact HB.out | apply below_alloc | apply pw_below_drewN | apply below_drew1 | refine below_set ?_ GE441.out | refine below_set ?_ GE443.out) | exact HB.out)⟩
     ·rw [if_neg c13] at H
      have c13b0 : ((t449.length : Int) == 0) = false := beq_eq_false_iff_ne.mpr c13
      have c13b1 : ((t449.length : Int) != 0) = true := bne_iff_ne.mpr c13
      have c13b2 : ¬ (t449 = []) := fun h_ => c13 (by rw [h_]; rfl)
      by_cases c18 : x13_1 = (a2.size : Int)
      ·rw [if_pos c18] at H
       have c18b0 : (x13_1 == (a2.size : Int)) = true := beq_iff_eq.mpr c18
       have c18b1 : (x13_1 != (a2.size : Int)) = false := bne_eq_false_iff_eq.mpr c18
       clear c18
       simp only [Option.some.injEq, Prod.mk.injEq] at H
       obtain ⟨rfl, rfl, rfl, rfl⟩ := H
       have hnb19 := NB441_443.out; have hnc19 := NB443_441.out
       have hcz20_0 : wr.cell? ⟨gb441, 0, none⟩ = some (.slice A0_0 l0_0.length c0_0) := (blk_cell BK441.out 0).trans rfl
       have hfz20_0 := blk_frozen BK441.out 0
       go_wp2_with (first | (go_at_call 24; (with_reducible refine (impl_Trie_kids.calls k1 _ _ l0_0 x12_1 t449 _ ?side1 ?side2 A12.out).mono ?_); (case side1 => exact ax59); (case side2 => exact ax60); rintro e w21 ⟨v450, rfl, ho0, hb⟩; have n0_ := Aside0.mk (Kd.R_below ax194 hb); have n1_ := Aside0.mk (Kd.R_lower ho0 (below_size ax193)); have n2_ := Aside0.mk (blk_below (g := gb441) (o := .cells #[.slice A0_0 l0_0.length c0_0] 30 (0, 0)) ax190 hb); have n3_ := Aside0.mk (blk_below (g := gb443) (o := .cells #[.slice A0_0 l0_0.length c0_0, .int .i64 t444, v446] 66 (0, 0)) ax192 hb); have n4_ := Aside0.mk (below_step ax193 hb); clear HO_444002; clear BK441; clear BK443; clear HB; have HO_444002 := n0_; have HO451 := n1_; have BK441 := n2_; have BK443 := n3_; have HB := n4_; clear n0_ n1_ n2_ n3_ n4_; (try clear hb); (try clear hb2); (try clear hk); (try clear hi); (try clear ho0); obtain ⟨Ao22, co22, eo22⟩ := Kd.R_slice HO451.out; subst eo22))
       repeat (go_quiet (first | (go_at_call 24; (with_reducible refine (impl_Trie_kids.calls k1 _ _ l0_0 x12_1 t449 _ ?side1 ?side2 A12.out).mono ?_); (case side1 => exact ax59); (case side2 => exact ax60); rintro e w21 ⟨v450, rfl, ho0, hb⟩; have n0_ := Aside0.mk (Kd.R_below ax194 hb); have n1_ := Aside0.mk (Kd.R_lower ho0 (below_size ax193)); have n2_ := Aside0.mk (blk_below (g := gb441) (o := .cells #[.slice A0_0 l0_0.length c0_0] 30 (0, 0)) ax190 hb); have n3_ := Aside0.mk (blk_below (g := gb443) (o := .cells #[.slice A0_0 l0_0.length c0_0, .int .i64 t444, v446] 66 (0, 0)) ax192 hb); have n4_ := Aside0.mk (below_step ax193 hb); clear HO_444002; clear BK441; clear BK443; clear HB; have HO_444002 := n0_; have HO451 := n1_; have BK441 := n2_; have BK443 := n3_; have HB := n4_; clear n0_ n1_ n2_ n3_ n4_; (try clear hb); (try clear hb2); (try clear hk); (try clear hi); (try clear ho0); obtain ⟨Ao22, co22, eo22⟩ := Kd.R_slice HO451.out; subst eo22)); try go_wp2_with (first | (go_at_call 24; (with_reducible refine (impl_Trie_kids.calls k1 _ _ l0_0 x12_1 t449 _ ?side1 ?side2 A12.out).mono ?_); (case side1 => exact ax59); (case side2 => exact ax60); rintro e w21 ⟨v450, rfl, ho0, hb⟩; have n0_ := Aside0.mk (Kd.R_below ax194 hb); have n1_ := Aside0.mk (Kd.R_lower ho0 (below_size ax193)); have n2_ := Aside0.mk (blk_below (g := gb441) (o := .cells #[.slice A0_0 l0_0.length c0_0] 30 (0, 0)) ax190 hb); have n3_ := Aside0.mk (blk_below (g := gb443) (o := .cells #[.slice A0_0 l0_0.length c0_0, .int .i64 t444, v446] 66 (0, 0)) ax192 hb); have n4_ := Aside0.mk (below_step ax193 hb); clear HO_444002; clear BK441; clear BK443; clear HB; have HO_444002 := n0_; have HO451 := n1_; have BK441 := n2_; have BK443 := n3_; have HB := n4_; clear n0_ n1_ n2_ n3_ n4_; (try clear hb); (try clear hb2); (try clear hk); (try clear hi); (try clear ho0); obtain ⟨Ao22, co22, eo22⟩ := Kd.R_slice HO451.out; subst eo22)))
       refine bodyPost_ret (results_list (rs := [.tmp 6, .tmp 7, .tmp 8, .tmp 9]) rfl (by simp) (.tmp (.tmp (.tmp (.tmp .nil))))) rfl ?_
       exact ⟨by first | rfl | (simp [errW_none, errW_some] <;> rfl) | (simp [*, errW_none, errW_some] <;> rfl), by repeat (first | (with_reducible first | exact HB.out | apply below_alloc | apply pw_below_drewN | apply below_drew1 | refine below_set ?_ GE441.out | refine below_set ?_ GE443.out) | exact HB.out)⟩
      ·rw [if_neg c18] at H
       have c18b0 : (x13_1 == (a2.size : Int)) = false := beq_eq_false_iff_ne.mpr c18
       have c18b1 : (x13_1 != (a2.size : Int)) = true := bne_iff_ne.mpr c18
       have H' := Aside0.mk H
       clear H; have hnb23 := NB441_443.out; have hnc23 := NB443_441.out
       have hcz24_0 : wr.cell? ⟨gb441, 0, none⟩ = some (.slice A0_0 l0_0.length c0_0) := (blk_cell BK441.out 0).trans rfl
       have hfz24_0 := blk_frozen BK441.out 0
       go_wp2_with (first | (go_at_call 24; (with_reducible refine (impl_Trie_kids.calls k1 _ _ l0_0 x12_1 t449 _ ?side1 ?side2 A12.out).mono ?_); (case side1 => exact ax59); (case side2 => exact ax60); rintro e w25 ⟨v450, rfl, ho0, hb⟩; have n0_ := Aside0.mk (Kd.R_below ax194 hb); have n1_ := Aside0.mk (Kd.R_lower ho0 (below_size ax193)); have n2_ := Aside0.mk (blk_below (g := gb441) (o := .cells #[.slice A0_0 l0_0.length c0_0] 30 (0, 0)) ax190 hb); have n3_ := Aside0.mk (blk_below (g := gb443) (o := .cells #[.slice A0_0 l0_0.length c0_0, .int .i64 t444, v446] 66 (0, 0)) ax192 hb); have n4_ := Aside0.mk (below_step ax193 hb); clear HO_444002; clear BK441; clear BK443; clear HB; have HO_444002 := n0_; have HO451 := n1_; have BK441 := n2_; have BK443 := n3_; have HB := n4_; clear n0_ n1_ n2_ n3_ n4_; (try clear hb); (try clear hb2); (try clear hk); (try clear hi); (try clear ho0); obtain ⟨Ao26, co26, eo26⟩ := Kd.R_slice HO451.out; subst eo26))
       repeat (go_quiet (first | (go_at_call 24; (with_reducible refine (impl_Trie_kids.calls k1 _ _ l0_0 x12_1 t449 _ ?side1 ?side2 A12.out).mono ?_); (case side1 => exact ax59); (case side2 => exact ax60); rintro e w25 ⟨v450, rfl, ho0, hb⟩; have n0_ := Aside0.mk (Kd.R_below ax194 hb); have n1_ := Aside0.mk (Kd.R_lower ho0 (below_size ax193)); have n2_ := Aside0.mk (blk_below (g := gb441) (o := .cells #[.slice A0_0 l0_0.length c0_0] 30 (0, 0)) ax190 hb); have n3_ := Aside0.mk (blk_below (g := gb443) (o := .cells #[.slice A0_0 l0_0.length c0_0, .int .i64 t444, v446] 66 (0, 0)) ax192 hb); have n4_ := Aside0.mk (below_step ax193 hb); clear HO_444002; clear BK441; clear BK443; clear HB; have HO_444002 := n0_; have HO451 := n1_; have BK441 := n2_; have BK443 := n3_; have HB := n4_; clear n0_ n1_ n2_ n3_ n4_; (try clear hb); (try clear hb2); (try clear hk); (try clear hi); (try clear ho0); obtain ⟨Ao26, co26, eo26⟩ := Kd.R_slice HO451.out; subst eo26)); try go_wp2_with (first | (go_at_call 24; (with_reducible refine (impl_Trie_kids.calls k1 _ _ l0_0 x12_1 t449 _ ?side1 ?side2 A12.out).mono ?_); (case side1 => exact ax59); (case side2 => exact ax60); rintro e w25 ⟨v450, rfl, ho0, hb⟩; have n0_ := Aside0.mk (Kd.R_below ax194 hb); have n1_ := Aside0.mk (Kd.R_lower ho0 (below_size ax193)); have n2_ := Aside0.mk (blk_below (g := gb441) (o := .cells #[.slice A0_0 l0_0.length c0_0] 30 (0, 0)) ax190 hb); have n3_ := Aside0.mk (blk_below (g := gb443) (o := .cells #[.slice A0_0 l0_0.length c0_0, .int .i64 t444, v446] 66 (0, 0)) ax192 hb); have n4_ := Aside0.mk (below_step ax193 hb); clear HO_444002; clear BK441; clear BK443; clear HB; have HO_444002 := n0_; have HO451 := n1_; have BK441 := n2_; have BK443 := n3_; have HB := n4_; clear n0_ n1_ n2_ n3_ n4_; (try clear hb); (try clear hb2); (try clear hk); (try clear hi); (try clear ho0); obtain ⟨Ao26, co26, eo26⟩ := Kd.R_slice HO451.out; subst eo26)))
       go_loopg [15, 53] k1 (fun kq v15 v53 w' => ∃ (x15_2 : Int) (x53_2 : Int), v15 = .int .i64 x15_2 ∧ v53 = .int .i64 x53_2 ∧ Aside0 (impl_PlayLetters.l1 kq a2 x12_1 x13_1 x15_2 t449 (t449.length : Int) x53_2 l0_0 l0_0 t444 t445 = some (r1, r2, r3, r4)) ∧ Aside0 (kq ≤ k1) ∧ Aside0 (Kd.R (Kd.int .i64) 3 w' w.heap.size (fun _ => True) (.slice Ao26 t449.length co26) t449) ∧ Aside0 (Kd.R Kd.string 9 w' w.heap.size (fun _ => True) v446 t445) ∧ Aside0 (w'.heap[gb441]? = some (.cells #[(.slice A0_0 l0_0.length c0_0)] 30 (0, 0))) ∧ Aside0 (w'.heap[gb443]? = some (.cells #[(.slice A0_0 l0_0.length c0_0), .int .i64 t444, v446] 66 (0, 0))) ∧ Aside0 (Below w.heap.size w w'))
       case atStart => exact ⟨((-1)), (0), ax20, ax20, H', ⟨Nat.le_refl _⟩, ⟨by (with_reducible repeat (first | apply Kd.R_alloc | apply Kd.R_drewN | apply Kd.R_drew)); exact HO451.out⟩, ⟨by (with_reducible repeat (first | apply Kd.R_alloc | apply Kd.R_drewN | apply Kd.R_drew)); exact HO_444002.out⟩, ⟨by (with_reducible repeat (first | refine blk_drewN ?_ _ | refine blk_drew ?_ | refine blk_alloc ?_ _)); exact BK441.out⟩, ⟨by (with_reducible repeat (first | refine blk_drewN ?_ _ | refine blk_drew ?_ | refine blk_alloc ?_ _)); exact BK443.out⟩, ⟨by repeat (first | (with_reducible first | exact HB.out | apply below_alloc | apply pw_below_drewN | apply below_drew1 | refine below_set ?_ GE441.out | refine below_set ?_ GE443.out) | exact HB.out)⟩⟩
       case round =>
        clear H'
        try clear c1
        try clear c2
        try clear p2
        try clear c5
        try clear c7
        try clear c8
        try clear c13
        try clear c13b0
        try clear c13b1
        try clear c13b2
        try clear c14
        try clear c18
        try clear c18b0
        try clear c18b1
        try clear c19
        try clear c23
        try clear hcz15_0
        try clear hcz20_0
        try clear hcz24_0
        try clear hcz9_0
        try clear hfz15_0
        try clear hfz20_0
        try clear hfz24_0
        try clear hfz9_0
        try clear p2
        obtain ⟨x15_2, x53_2, rfl, rfl, HA, HK2, HO_51, HO_444002, BK441, BK443, HB⟩ := hrel
        cases gk with
        | zero => exact absurd HA.out (by simp [impl_PlayLetters.l1])
        | succ k2 =>
         have H := HA.out; clear HA
         simp only [impl_PlayLetters.l1] at H
         by_cases c27 : x53_2 < (t449.length : Int)
         ·rw [if_pos c27] at H
          have c27b0 : decide (x53_2 < (t449.length : Int)) = true := decide_eq_true c27
          clear c27
          by_cases c28 : 0 ≤ x53_2
          ·rw [if_pos c28] at H
           have c28b0 : decide (0 ≤ x53_2) = true := decide_eq_true c28
           clear c28
           by_cases c29 : x53_2 < (t449.length : Int)
           ·rw [if_pos c29] at H
            have c29b0 : decide (x53_2 < (t449.length : Int)) = true := decide_eq_true c29
            clear c29
            by_cases c30 : 0 ≤ (rd t449 x53_2)
            ·rw [if_pos c30] at H
             have c30b0 : decide (0 ≤ (rd t449 x53_2)) = true := decide_eq_true c30
             clear c30
             by_cases c31 : (rd t449 x53_2) < (l0_0.length : Int)
             ·rw [if_pos c31] at H
              have c31b0 : decide ((rd t449 x53_2) < (l0_0.length : Int)) = true := decide_eq_true c31
              clear c31
              by_cases c32 : 0 ≤ x13_1
              ·rw [if_pos c32] at H
               have c32b0 : decide (0 ≤ x13_1) = true := decide_eq_true c32
               clear c32
               by_cases c33 : x13_1 < (a2.size : Int)
               ·rw [if_pos c33] at H
                have c33b0 : decide (x13_1 < (a2.size : Int)) = true := decide_eq_true c33
                clear c33
                by_cases c35 : ((rd_T53 l0_0 (rd t449 x53_2)).f0) = (((bt a2 x13_1) - 97) % 256)
                ·rw [if_pos c35] at H
                 have c35b0 : (((rd_T53 l0_0 (rd t449 x53_2)).f0) == (((bt a2 x13_1) - 97) % 256)) = true := beq_iff_eq.mpr c35
                 have c35b1 : (((rd_T53 l0_0 (rd t449 x53_2)).f0) != (((bt a2 x13_1) - 97) % 256)) = false := bne_eq_false_iff_eq.mpr c35
                 clear c35
                 have H' := Aside0.mk H
                 clear H
                 have p452 : 0 ≤ (x53_2 : Int) := of_decide_eq_true ax21
                 have q452 : x53_2 < (t449.length : Int) := of_decide_eq_true ax21
                 obtain ⟨ad452, e452, hx452_0⟩ := Kd.at_int (Kd.R_reads' HO_51.out).2.2 x53_2 p452 q452
                 cases e452; replace p452 := eq_true p452; replace q452 := eq_true q452; have hnb36 := NB441_443.out; have hnc36 := NB443_441.out
                 have hcz37_0 : wr.cell? ⟨gb441, 0, none⟩ = some (.slice A0_0 l0_0.length c0_0) := (blk_cell BK441.out 0).trans rfl
                 have hfz37_0 := blk_frozen BK441.out 0
                 have p453 : 0 ≤ ((rd t449 x53_2) : Int) := of_decide_eq_true ax21
                 have q453 : (rd t449 x53_2) < (l0_0.length : Int) := of_decide_eq_true ax21
                 obtain ⟨ad453, e453, hx453_0, hx453_1, hx453_2⟩ := at_T53 HR0_0.out (rd t449 x53_2) p453 q453
                 cases e453; replace hx453_0 := (HB.out.cell (World.block_lt_of_cell? w _ hx453_0)).trans hx453_0; replace hx453_1 := (HB.out.cell (World.block_lt_of_cell? w _ hx453_1)).trans hx453_1; replace hx453_2 := (HB.out.cell (World.block_lt_of_cell? w _ hx453_2)).trans hx453_2; replace p453 := eq_true p453; replace q453 := eq_true q453
                 have p34 : 0 ≤ (x13_1 : Int) := of_decide_eq_true ax21
                 have q34 : x13_1 < (a2.size : Int) := of_decide_eq_true ax21
                 have hx34 := bt_at a2 x13_1; replace p34 := eq_true p34; replace q34 := eq_true q34
                 go_wp2
                 repeat (go_quiet (fail); try go_wp2)
                 go_roundg k2
                 case measure => have := HK1.out; have := HK2.out; omega
                 case rel => exact ⟨(rd t449 x53_2), (wrap64 (x53_2 + 1)), ax20, ax20, H', ⟨by have := HK1.out; have := HK2.out; omega⟩, ⟨by (with_reducible repeat (first | apply Kd.R_alloc | apply Kd.R_drewN | apply Kd.R_drew)); exact HO_51.out⟩, ⟨by (with_reducible repeat (first | apply Kd.R_alloc | apply Kd.R_drewN | apply Kd.R_drew)); exact HO_444002.out⟩, ⟨by (with_reducible repeat (first | refine blk_drewN ?_ _ | refine blk_drew ?_ | refine blk_alloc ?_ _)); exact BK441.out⟩, ⟨by (with_reducible repeat (first | refine blk_drewN ?_ _ | refine blk_drew ?_ | refine blk_alloc ?_ _)); exact BK443.out⟩, ⟨by repeat (first | (with_reducible first | exact HB.out | apply below_alloc | apply pw_below_drewN | apply below_drew1 | refine below_set ?_ GE441.out | refine below_set ?_ GE443.out) | exact HB.out)⟩⟩
                ·rw [if_neg c35] at H
                 have c35b0 : (((rd_T53 l0_0 (rd t449 x53_2)).f0) == (((bt a2 x13_1) - 97) % 256)) = false := beq_eq_false_iff_ne.mpr c35
                 have c35b1 : (((rd_T53 l0_0 (rd t449 x53_2)).f0) != (((bt a2 x13_1) - 97) % 256)) = true := bne_iff_ne.mpr c35
                 have H' := Aside0.mk H
                 clear H
                 have p452 : 0 ≤ (x53_2 : Int) := of_decide_eq_true ax21
                 have q452 : x53_2 < (t449.length : Int) := of_decide_eq_true ax21
                 obtain ⟨ad452, e452, hx452_0⟩ := Kd.at_int (Kd.R_reads' HO_51.out).2.2 x53_2 p452 q452
                 cases e452; replace p452 := eq_true p452; replace q452 := eq_true q452; have hnb38 := NB441_443.out; have hnc38 := NB443_441.out
                 have hcz39_0 : wr.cell? ⟨gb441, 0, none⟩ = some (.slice A0_0 l0_0.length c0_0) := (blk_cell BK441.out 0).trans rfl
                 have hfz39_0 := blk_frozen BK441.out 0
                 have p453 : 0 ≤ ((rd t449 x53_2) : Int) := of_decide_eq_true ax21
                 have q453 : (rd t449 x53_2) < (l0_0.length : Int) := of_decide_eq_true ax21
                 obtain ⟨ad453, e453, hx453_0, hx453_1, hx453_2⟩ := at_T53 HR0_0.out (rd t449 x53_2) p453 q453
                 cases e453; replace hx453_0 := (HB.out.cell (World.block_lt_of_cell? w _ hx453_0)).trans hx453_0; replace hx453_1 := (HB.out.cell (World.block_lt_of_cell? w _ hx453_1)).trans hx453_1; replace hx453_2 := (HB.out.cell (World.block_lt_of_cell? w _ hx453_2)).trans hx453_2; replace p453 := eq_true p453; replace q453 := eq_true q453
                 have p34 : 0 ≤ (x13_1 : Int) := of_decide_eq_true ax21
                 have q34 : x13_1 < (a2.size : Int) := of_decide_eq_true ax21
                 have hx34 := bt_at a2 x13_1; replace p34 := eq_true p34; replace q34 := eq_true q34
                 go_wp2
                 repeat (go_quiet (fail); try go_wp2)
                 go_roundg k2
                 case measure => have := HK1.out; have := HK2.out; omega
                 case rel => exact ⟨(x15_2), (wrap64 (x53_2 + 1)), ax20, ax20, H', ⟨by have := HK1.out; have := HK2.out; omega⟩, ⟨by (with_reducible repeat (first | apply Kd.R_alloc | apply Kd.R_drewN | apply Kd.R_drew)); exact HO_51.out⟩, ⟨by (with_reducible repeat (first | apply Kd.R_alloc | apply Kd.R_drewN | apply Kd.R_drew)); exact HO_444002.out⟩, ⟨by (with_reducible repeat (first | refine blk_drewN ?_ _ | refine blk_drew ?_ | refine blk_alloc ?_ _)); exact BK441.out⟩, ⟨by (with_reducible repeat (first | refine blk_drewN ?_ _ | refine blk_drew ?_ | refine blk_alloc ?_ _)); exact BK443.out⟩, ⟨by repeat (first | (with_reducible first | exact HB.out | apply below_alloc | apply pw_below_drewN | apply below_drew1 | refine below_set ?_ GE441.out | refine below_set ?_ GE443.out) | exact HB.out)⟩⟩
               ·rw [if_neg c33] at H
                exact absurd H (by simp)
              ·rw [if_neg c32] at H
               exact absurd H (by simp)
             ·rw [if_neg c31] at H
              exact absurd H (by simp)
            ·rw [if_neg c30] at H
             exact absurd H (by simp)
           ·rw [if_neg c29] at H
            exact absurd H (by simp)
          ·rw [if_neg c28] at H
           exact absurd H (by simp)
         ·rw [if_neg c27] at H
          have c27b0 : decide (x53_2 < (t449.length : Int)) = false := decide_eq_false c27
          clear c27
          by_cases c40 : x15_2 < 0
          ·rw [if_pos c40] at H
           have c40b0 : decide (x15_2 < 0) = true := decide_eq_true c40
           clear c40
           simp only [Option.some.injEq, Prod.mk.injEq] at H
           obtain ⟨rfl, rfl, rfl, rfl⟩ := H
           go_wp2
           repeat (go_quiet (fail); try go_wp2)
           refine bodyPost_ret (results_list (rs := [.tmp 6, .tmp 7, .tmp 8, .tmp 9]) rfl (by simp) (.tmp (.tmp (.tmp (.tmp .nil))))) rfl ?_
           exact ⟨by first | rfl | (simp [errW_none, errW_some] <;> rfl) | (simp [*, errW_none, errW_some] <;> rfl), by repeat (first | (with_reducible first | exact HB.out | apply below_alloc | apply pw_below_drewN | apply below_drew1 | refine below_set ?_ GE441.out | refine below_set ?_ GE443.out) | exact HB.out)⟩
          ·rw [if_neg c40] at H
           have c40b0 : decide (x15_2 < 0) = false := decide_eq_false c40
           clear c40; replace H := Option.bind_eq_some_iff.mp H
           obtain ⟨t454, A410, H⟩ := H
           replace H : (if t454 = true then (some (x15_2, wrap64 (x13_1 + 1), Int.tmod x13_1 2, true)) else (impl_PlayLetters.l0 k2 a2 x15_2 (wrap64 (x13_1 + 1)) l0_0 l0_0 t444 t445)) = some (r1, r2, r3, r4) := H
           have A41 := Aside0.mk A410; clear A410
           by_cases c42 : t454 = true
           ·subst c42
            have H1 : (some (x15_2, wrap64 (x13_1 + 1), Int.tmod x13_1 2, true)) = some (r1, r2, r3, r4) := by rw [if_pos rfl] at H; exact H
            clear H; have H := H1; clear H1
            simp only [Option.some.injEq, Prod.mk.injEq] at H
            obtain ⟨rfl, rfl, rfl, rfl⟩ := H
            obtain ⟨Ao43, co43, eo43⟩ := Kd.R_slice HO_444002.out
            subst eo43
            go_wp2_with (first | (go_at_call 25; (with_reducible refine (impl_game_isFatal.calls gb443 A0_0 c0_0 l0_0 t444 Ao43 co43 t445 x15_2 true _ ?side1 ?side2 ?side3 ?side4 ?side5 A41.out).mono ?_); (case side1 => exact ax59); (case side2 => exact ax60); (case side3 => exact ax195); (case side4 => exact ax196); (case side5 => exact ax192); rintro e w44 ⟨rfl, hb⟩; have n0_ := Aside0.mk (Kd.R_below ax197 hb); have n1_ := Aside0.mk (Kd.R_below ax194 hb); have n2_ := Aside0.mk (blk_below (g := gb441) (o := .cells #[.slice A0_0 l0_0.length c0_0] 30 (0, 0)) ax190 hb); have n3_ := Aside0.mk (blk_below (g := gb443) (o := .cells #[.slice A0_0 l0_0.length c0_0, .int .i64 t444, .slice Ao43 t445.length co43] 66 (0, 0)) ax192 hb); have n4_ := Aside0.mk (below_step ax193 hb); clear HO_51; clear HO_444002; clear BK441; clear BK443; clear HB; have HO_51 := n0_; have HO_444002 := n1_; have BK441 := n2_; have BK443 := n3_; have HB := n4_; clear n0_ n1_ n2_ n3_ n4_; (try clear hb); (try clear hb2); (try clear hk); (try clear hi)))
            repeat (go_quiet (first | (go_at_call 25; (with_reducible refine (impl_game_isFatal.calls gb443 A0_0 c0_0 l0_0 t444 Ao43 co43 t445 x15_2 true _ ?side1 ?side2 ?side3 ?side4 ?side5 A41.out).mono ?_); (case side1 => exact ax59); (case side2 => exact ax60); (case side3 => exact ax195); (case side4 => exact ax196); (case side5 => exact ax192); rintro e w44 ⟨rfl, hb⟩; have n0_ := Aside0.mk (Kd.R_below ax197 hb); have n1_ := Aside0.mk (Kd.R_below ax194 hb); have n2_ := Aside0.mk (blk_below (g := gb441) (o := .cells #[.slice A0_0 l0_0.length c0_0] 30 (0, 0)) ax190 hb); have n3_ := Aside0.mk (blk_below (g := gb443) (o := .cells #[.slice A0_0 l0_0.length c0_0, .int .i64 t444, .slice Ao43 t445.length co43] 66 (0, 0)) ax192 hb); have n4_ := Aside0.mk (below_step ax193 hb); clear HO_51; clear HO_444002; clear BK441; clear BK443; clear HB; have HO_51 := n0_; have HO_444002 := n1_; have BK441 := n2_; have BK443 := n3_; have HB := n4_; clear n0_ n1_ n2_ n3_ n4_; (try clear hb); (try clear hb2); (try clear hk); (try clear hi))); try go_wp2_with (first | (go_at_call 25; (with_reducible refine (impl_game_isFatal.calls gb443 A0_0 c0_0 l0_0 t444 Ao43 co43 t445 x15_2 true _ ?side1 ?side2 ?side3 ?side4 ?side5 A41.out).mono ?_); (case side1 => exact ax59); (case side2 => exact ax60); (case side3 => exact ax195); (case side4 => exact ax196); (case side5 => exact ax192); rintro e w44 ⟨rfl, hb⟩; have n0_ := Aside0.mk (Kd.R_below ax197 hb); have n1_ := Aside0.mk (Kd.R_below ax194 hb); have n2_ := Aside0.mk (blk_below (g := gb441) (o := .cells #[.slice A0_0 l0_0.length c0_0] 30 (0, 0)) ax190 hb); have n3_ := Aside0.mk (blk_below (g := gb443) (o := .cells #[.slice A0_0 l0_0.length c0_0, .int .i64 t444, .slice Ao43 t445.length co43] 66 (0, 0)) ax192 hb); have n4_ := Aside0.mk (below_step ax193 hb); clear HO_51; clear HO_444002; clear BK441; clear BK443; clear HB; have HO_51 := n0_; have HO_444002 := n1_; have BK441 := n2_; have BK443 := n3_; have HB := n4_; clear n0_ n1_ n2_ n3_ n4_; (try clear hb); (try clear hb2); (try clear hk); (try clear hi))))
            refine bodyPost_ret (results_list (rs := [.tmp 6, .tmp 7, .tmp 8, .tmp 9]) rfl (by simp) (.tmp (.tmp (.tmp (.tmp .nil))))) rfl ?_
            exact ⟨by first | rfl | (simp [errW_none, errW_some] <;> rfl) | (simp [*, errW_none, errW_some] <;> rfl), by repeat (first | (with_reducible first | exact HB.out | apply below_alloc | apply pw_below_drewN | apply below_drew1 | refine below_set ?_ GE441.out | refine below_set ?_ GE443.out) | exact HB.out)⟩
           ·replace c42 := Bool.eq_false_iff.mpr c42
            subst c42
            have H1 : (impl_PlayLetters.l0 k2 a2 x15_2 (wrap64 (x13_1 + 1)) l0_0 l0_0 t444 t445) = some (r1, r2, r3, r4) := by rw [if_neg (show ¬ (false = true) by decide)] at H; exact H
            clear H; have H := H1; clear H1
            have H' := Aside0.mk H
            clear H
            obtain ⟨Ao45, co45, eo45⟩ := Kd.R_slice HO_444002.out
            subst eo45
            go_wp2_with (first | (go_at_call 25; (with_reducible refine (impl_game_isFatal.calls gb443 A0_0 c0_0 l0_0 t444 Ao45 co45 t445 x15_2 false _ ?side1 ?side2 ?side3 ?side4 ?side5 A41.out).mono ?_); (case side1 => exact ax59); (case side2 => exact ax60); (case side3 => exact ax195); (case side4 => exact ax196); (case side5 => exact ax192); rintro e w46 ⟨rfl, hb⟩; have n0_ := Aside0.mk (Kd.R_below ax197 hb); have n1_ := Aside0.mk (Kd.R_below ax194 hb); have n2_ := Aside0.mk (blk_below (g := gb441) (o := .cells #[.slice A0_0 l0_0.length c0_0] 30 (0, 0)) ax190 hb); have n3_ := Aside0.mk (blk_below (g := gb443) (o := .cells #[.slice A0_0 l0_0.length c0_0, .int .i64 t444, .slice Ao45 t445.length co45] 66 (0, 0)) ax192 hb); have n4_ := Aside0.mk (below_step ax193 hb); clear HO_51; clear HO_444002; clear BK441; clear BK443; clear HB; have HO_51 := n0_; have HO_444002 := n1_; have BK441 := n2_; have BK443 := n3_; have HB := n4_; clear n0_ n1_ n2_ n3_ n4_; (try clear hb); (try clear hb2); (try clear hk); (try clear hi)))
            repeat (go_quiet (first | (go_at_call 25; (with_reducible refine (impl_game_isFatal.calls gb443 A0_0 c0_0 l0_0 t444 Ao45 co45 t445 x15_2 false _ ?side1 ?side2 ?side3 ?side4 ?side5 A41.out).mono ?_); (case side1 => exact ax59); (case side2 => exact ax60); (case side3 => exact ax195); (case side4 => exact ax196); (case side5 => exact ax192); rintro e w46 ⟨rfl, hb⟩; have n0_ := Aside0.mk (Kd.R_below ax197 hb); have n1_ := Aside0.mk (Kd.R_below ax194 hb); have n2_ := Aside0.mk (blk_below (g := gb441) (o := .cells #[.slice A0_0 l0_0.length c0_0] 30 (0, 0)) ax190 hb); have n3_ := Aside0.mk (blk_below (g := gb443) (o := .cells #[.slice A0_0 l0_0.length c0_0, .int .i64 t444, .slice Ao45 t445.length co45] 66 (0, 0)) ax192 hb); have n4_ := Aside0.mk (below_step ax193 hb); clear HO_51; clear HO_444002; clear BK441; clear BK443; clear HB; have HO_51 := n0_; have HO_444002 := n1_; have BK441 := n2_; have BK443 := n3_; have HB := n4_; clear n0_ n1_ n2_ n3_ n4_; (try clear hb); (try clear hb2); (try clear hk); (try clear hi))); try go_wp2_with (first | (go_at_call 25; (with_reducible refine (impl_game_isFatal.calls gb443 A0_0 c0_0 l0_0 t444 Ao45 co45 t445 x15_2 false _ ?side1 ?side2 ?side3 ?side4 ?side5 A41.out).mono ?_); (case side1 => exact ax59); (case side2 => exact ax60); (case side3 => exact ax195); (case side4 => exact ax196); (case side5 => exact ax192); rintro e w46 ⟨rfl, hb⟩; have n0_ := Aside0.mk (Kd.R_below ax197 hb); have n1_ := Aside0.mk (Kd.R_below ax194 hb); have n2_ := Aside0.mk (blk_below (g := gb441) (o := .cells #[.slice A0_0 l0_0.length c0_0] 30 (0, 0)) ax190 hb); have n3_ := Aside0.mk (blk_below (g := gb443) (o := .cells #[.slice A0_0 l0_0.length c0_0, .int .i64 t444, .slice Ao45 t445.length co45] 66 (0, 0)) ax192 hb); have n4_ := Aside0.mk (below_step ax193 hb); clear HO_51; clear HO_444002; clear BK441; clear BK443; clear HB; have HO_51 := n0_; have HO_444002 := n1_; have BK441 := n2_; have BK443 := n3_; have HB := n4_; clear n0_ n1_ n2_ n3_ n4_; (try clear hb); (try clear hb2); (try clear hk); (try clear hi))))
            go_roundg k2
            case measure => have := HK1.out; have := HK2.out; omega
            case rel => exact ⟨(x15_2), (wrap64 (x13_1 + 1)), ax20, ax20, H', ⟨by have := HK1.out; have := HK2.out; omega⟩, ⟨by (with_reducible repeat (first | apply Kd.R_alloc | apply Kd.R_drewN | apply Kd.R_drew)); exact HO_444002.out⟩, ⟨by (with_reducible repeat (first | refine blk_drewN ?_ _ | refine blk_drew ?_ | refine blk_alloc ?_ _)); exact BK441.out⟩, ⟨by (with_reducible repeat (first | refine blk_drewN ?_ _ | refine blk_drew ?_ | refine blk_alloc ?_ _)); exact BK443.out⟩, ⟨by repeat (first | (with_reducible first | exact HB.out | apply below_alloc | apply pw_below_drewN | apply below_drew1 | refine below_set ?_ GE441.out | refine below_set ?_ GE443.out) | exact HB.out)⟩⟩
  ·replace c7 := Bool.eq_false_iff.mpr c7
   subst c7
   have H1 : (some (0, 0, 0, false)) = some (r1, r2, r3, r4) := by rw [if_neg (show ¬ (false = true) by decide)] at H; exact H
   clear H; have H := H1; clear H1
   simp only [Option.some.injEq, Prod.mk.injEq] at H
   obtain ⟨rfl, rfl, rfl, rfl⟩ := H
   go_enter Tryd.func8, Tryd.ntmps8
   go_wp2_with (first | ((with_reducible refine gate_dst (N := 3) rfl ?_); refine box_event ?hg (N := 3) ?hd (cs := #[.slice A0_0 l0_0.length c0_0]) (t := 30) ?hr ?_; (case hd => rfl); (case hg => rfl); (case hr => exact ax22); intro gb441 hg w47 hbox hb; have n0_ := Aside0.mk (below_step ax24 hb); have n1_ := Aside0.mk (hbox); have n2_ := Aside0.mk ((ax58 : w.heap.size ≤ gb441)); have n3_ := Aside0.mk ((ax58 : w.heap.size ≤ gb441)); clear HB; have HB := n0_; have BK441 := n1_; have GW441 := n2_; have GE441 := n3_; clear n0_ n1_ n2_ n3_; clear hb hbox hg; have hcz48_0 : w47.cell? ⟨gb441, 0, none⟩ = some (.slice A0_0 l0_0.length c0_0) := (blk_cell BK441.out 0).trans rfl; have hfz48_0 := blk_frozen BK441.out 0) | (go_at_call 22; (with_reducible refine (impl_newGame.calls k _ _ l0_0 a1 true t444 t445 _ ?side1 ?side2 A4.out).mono ?_); (case side1 => exact ax59); (case side2 => exact ax60); (rintro e w49 ⟨hb, hno_, hyes_⟩; obtain ⟨gb443, v446, rfl, hbox, hgb, ho0⟩ := hyes_ rfl; clear hno_); have n0_ := Aside0.mk (Kd.R_lower ho0 (below_size ax189)); have n1_ := Aside0.mk (blk_below (g := gb441) (o := .cells #[.slice A0_0 l0_0.length c0_0] 30 (0, 0)) ax190 hb); have n2_ := Aside0.mk (below_step ax189 hb); have n3_ := Aside0.mk (hbox); have n4_ := Aside0.mk ((Nat.le_trans (below_size ax189) hgb : w.heap.size ≤ gb443)); have n5_ := Aside0.mk ((Nat.le_trans (below_size ax189) hgb : w.heap.size ≤ gb443)); have n6_ := Aside0.mk ((Nat.ne_of_lt (Nat.lt_of_lt_of_le (blk_lt (g := gb441) (o := .cells #[.slice A0_0 l0_0.length c0_0] 30 (0, 0)) ax190) hgb) : gb441 ≠ gb443)); have n7_ := Aside0.mk ((Nat.ne_of_gt (Nat.lt_of_lt_of_le (blk_lt (g := gb441) (o := .cells #[.slice A0_0 l0_0.length c0_0] 30 (0, 0)) ax190) hgb) : gb443 ≠ gb441)); clear BK441; clear HB; have HO447 := n0_; have BK441 := n1_; have HB := n2_; have BK443 := n3_; have GW443 := n4_; have GE443 := n5_; have NB441_443 := n6_; have NB443_441 := n7_; clear n0_ n1_ n2_ n3_ n4_ n5_ n6_ n7_; (try clear hb); (try clear hbox); (try clear hgb); (try clear ho0)) | (go_at_call 23; (with_reducible refine (impl_isWord.calls a2 false _ A6.out).mono ?_); rintro e w50 ⟨rfl, hb⟩; have n0_ := Aside0.mk (Kd.R_below ax191 hb); have n1_ := Aside0.mk (blk_below (g := gb441) (o := .cells #[.slice A0_0 l0_0.length c0_0] 30 (0, 0)) ax190 hb); have n2_ := Aside0.mk (blk_below (g := gb443) (o := .cells #[.slice A0_0 l0_0.length c0_0, .int .i64 t444, v446] 66 (0, 0)) ax192 hb); have n3_ := Aside0.mk (below_step ax193 hb); clear HO447; clear BK441; clear BK443; clear HB; have HO447 := n0_; have BK441 := n1_; have BK443 := n2_; have HB := n3_; clear n0_ n1_ n2_ n3_; (try clear hb); (try clear hb2); (try clear hk); (try clear hi)))
   repeat (go_quiet (first | ((with_reducible refine gate_dst (N := 3) rfl ?_); refine box_event ?hg (N := 3) ?hd (cs := #[.slice A0_0 l0_0.length c0_0]) (t := 30) ?hr ?_; (case hd => rfl); (case hg => rfl); (case hr => exact ax22); intro gb441 hg w47 hbox hb; have n0_ := Aside0.mk (below_step ax24 hb); have n1_ := Aside0.mk (hbox); have n2_ := Aside0.mk ((ax58 : w.heap.size ≤ gb441)); have n3_ := Aside0.mk ((ax58 : w.heap.size ≤ gb441)); clear HB; have HB := n0_; have BK441 := n1_; have GW441 := n2_; have GE441 := n3_; clear n0_ n1_ n2_ n3_; clear hb hbox hg; have hcz48_0 : w47.cell? ⟨gb441, 0, none⟩ = some (.slice A0_0 l0_0.length c0_0) := (blk_cell BK441.out 0).trans rfl; have hfz48_0 := blk_frozen BK441.out 0) | (go_at_call 22; (with_reducible refine (impl_newGame.calls k _ _ l0_0 a1 true t444 t445 _ ?side1 ?side2 A4.out).mono ?_); (case side1 => exact ax59); (case side2 => exact ax60); (rintro e w49 ⟨hb, hno_, hyes_⟩; obtain ⟨gb443, v446, rfl, hbox, hgb, ho0⟩ := hyes_ rfl; clear hno_); have n0_ := Aside0.mk (Kd.R_lower ho0 (below_size ax189)); have n1_ := Aside0.mk (blk_below (g := gb441) (o := .cells #[.slice A0_0 l0_0.length c0_0] 30 (0, 0)) ax190 hb); have n2_ := Aside0.mk (below_step ax189 hb); have n3_ := Aside0.mk (hbox); have n4_ := Aside0.mk ((Nat.le_trans (below_size ax189) hgb : w.heap.size ≤ gb443)); have n5_ := Aside0.mk ((Nat.le_trans (below_size ax189) hgb : w.heap.size ≤ gb443)); have n6_ := Aside0.mk ((Nat.ne_of_lt (Nat.lt_of_lt_of_le (blk_lt (g := gb441) (o := .cells #[.slice A0_0 l0_0.length c0_0] 30 (0, 0)) ax190) hgb) : gb441 ≠ gb443)); have n7_ := Aside0.mk ((Nat.ne_of_gt (Nat.lt_of_lt_of_le (blk_lt (g := gb441) (o := .cells #[.slice A0_0 l0_0.length c0_0] 30 (0, 0)) ax190) hgb) : gb443 ≠ gb441)); clear BK441; clear HB; have HO447 := n0_; have BK441 := n1_; have HB := n2_; have BK443 := n3_; have GW443 := n4_; have GE443 := n5_; have NB441_443 := n6_; have NB443_441 := n7_; clear n0_ n1_ n2_ n3_ n4_ n5_ n6_ n7_; (try clear hb); (try clear hbox); (try clear hgb); (try clear ho0)) | (go_at_call 23; (with_reducible refine (impl_isWord.calls a2 false _ A6.out).mono ?_); rintro e w50 ⟨rfl, hb⟩; have n0_ := Aside0.mk (Kd.R_below ax191 hb); have n1_ := Aside0.mk (blk_below (g := gb441) (o := .cells #[.slice A0_0 l0_0.length c0_0] 30 (0, 0)) ax190 hb); have n2_ := Aside0.mk (blk_below (g := gb443) (o := .cells #[.slice A0_0 l0_0.length c0_0, .int .i64 t444, v446] 66 (0, 0)) ax192 hb); have n3_ := Aside0.mk (below_step ax193 hb); clear HO447; clear BK441; clear BK443; clear HB; have HO447 := n0_; have BK441 := n1_; have BK443 := n2_; have HB := n3_; clear n0_ n1_ n2_ n3_; (try clear hb); (try clear hb2); (try clear hk); (try clear hi))); try go_wp2_with (first | ((with_reducible refine gate_dst (N := 3) rfl ?_); refine box_event ?hg (N := 3) ?hd (cs := #[.slice A0_0 l0_0.length c0_0]) (t := 30) ?hr ?_; (case hd => rfl); (case hg => rfl); (case hr => exact ax22); intro gb441 hg w47 hbox hb; have n0_ := Aside0.mk (below_step ax24 hb); have n1_ := Aside0.mk (hbox); have n2_ := Aside0.mk ((ax58 : w.heap.size ≤ gb441)); have n3_ := Aside0.mk ((ax58 : w.heap.size ≤ gb441)); clear HB; have HB := n0_; have BK441 := n1_; have GW441 := n2_; have GE441 := n3_; clear n0_ n1_ n2_ n3_; clear hb hbox hg; have hcz48_0 : w47.cell? ⟨gb441, 0, none⟩ = some (.slice A0_0 l0_0.length c0_0) := (blk_cell BK441.out 0).trans rfl; have hfz48_0 := blk_frozen BK441.out 0) | (go_at_call 22; (with_reducible refine (impl_newGame.calls k _ _ l0_0 a1 true t444 t445 _ ?side1 ?side2 A4.out).mono ?_); (case side1 => exact ax59); (case side2 => exact ax60); (rintro e w49 ⟨hb, hno_, hyes_⟩; obtain ⟨gb443, v446, rfl, hbox, hgb, ho0⟩ := hyes_ rfl; clear hno_); have n0_ := Aside0.mk (Kd.R_lower ho0 (below_size ax189)); have n1_ := Aside0.mk (blk_below (g := gb441) (o := .cells #[.slice A0_0 l0_0.length c0_0] 30 (0, 0)) ax190 hb); have n2_ := Aside0.mk (below_step ax189 hb); have n3_ := Aside0.mk (hbox); have n4_ := Aside0.mk ((Nat.le_trans (below_size ax189) hgb : w.heap.size ≤ gb443)); have n5_ := Aside0.mk ((Nat.le_trans (below_size ax189) hgb : w.heap.size ≤ gb443)); have n6_ := Aside0.mk ((Nat.ne_of_lt (Nat.lt_of_lt_of_le (blk_lt (g := gb441) (o := .cells #[.slice A0_0 l0_0.length c0_0] 30 (0, 0)) ax190) hgb) : gb441 ≠ gb443)); have n7_ := Aside0.mk ((Nat.ne_of_gt (Nat.lt_of_lt_of_le (blk_lt (g := gb441) (o := .cells #[.slice A0_0 l0_0.length c0_0] 30 (0, 0)) ax190) hgb) : gb443 ≠ gb441)); clear BK441; clear HB; have HO447 := n0_; have BK441 := n1_; have HB := n2_; have BK443 := n3_; have GW443 := n4_; have GE443 := n5_; have NB441_443 := n6_; have NB443_441 := n7_; clear n0_ n1_ n2_ n3_ n4_ n5_ n6_ n7_; (try clear hb); (try clear hbox); (try clear hgb); (try clear ho0)) | (go_at_call 23; (with_reducible refine (impl_isWord.calls a2 false _ A6.out).mono ?_); rintro e w50 ⟨rfl, hb⟩; have n0_ := Aside0.mk (Kd.R_below ax191 hb); have n1_ := Aside0.mk (blk_below (g := gb441) (o := .cells #[.slice A0_0 l0_0.length c0_0] 30 (0, 0)) ax190 hb); have n2_ := Aside0.mk (blk_below (g := gb443) (o := .cells #[.slice A0_0 l0_0.length c0_0, .int .i64 t444, v446] 66 (0, 0)) ax192 hb); have n3_ := Aside0.mk (below_step ax193 hb); clear HO447; clear BK441; clear BK443; clear HB; have HO447 := n0_; have BK441 := n1_; have BK443 := n2_; have HB := n3_; clear n0_ n1_ n2_ n3_; (try clear hb); (try clear hb2); (try clear hk); (try clear hi))))
   refine bodyPost_ret (results_list (rs := [.tmp 6, .tmp 7, .tmp 8, .tmp 9]) rfl (by simp) (.tmp (.tmp (.tmp (.tmp .nil))))) rfl ?_
   exact ⟨by first | rfl | (simp [errW_none, errW_some] <;> rfl) | (simp [*, errW_none, errW_some] <;> rfl), by repeat (first | (with_reducible first | exact HB.out | apply below_alloc | apply pw_below_drewN | apply below_drew1 | refine below_set ?_ GE441.out | refine below_set ?_ GE443.out) | exact HB.out)⟩
 ·replace c5 := Bool.eq_false_iff.mpr c5
  subst c5
  have H1 : (some (0, 0, 0, false)) = some (r1, r2, r3, r4) := by rw [if_neg (show ¬ (false = true) by decide)] at H; exact H
  clear H; have H := H1; clear H1
  simp only [Option.some.injEq, Prod.mk.injEq] at H
  obtain ⟨rfl, rfl, rfl, rfl⟩ := H
  go_enter Tryd.func8, Tryd.ntmps8
  go_wp2_with (first | ((with_reducible refine gate_dst (N := 3) rfl ?_); refine box_event ?hg (N := 3) ?hd (cs := #[.slice A0_0 l0_0.length c0_0]) (t := 30) ?hr ?_; (case hd => rfl); (case hg => rfl); (case hr => exact ax22); intro gb441 hg w51 hbox hb; have n0_ := Aside0.mk (below_step ax24 hb); have n1_ := Aside0.mk (hbox); have n2_ := Aside0.mk ((ax58 : w.heap.size ≤ gb441)); have n3_ := Aside0.mk ((ax58 : w.heap.size ≤ gb441)); clear HB; have HB := n0_; have BK441 := n1_; have GW441 := n2_; have GE441 := n3_; clear n0_ n1_ n2_ n3_; clear hb hbox hg; have hcz52_0 : w51.cell? ⟨gb441, 0, none⟩ = some (.slice A0_0 l0_0.length c0_0) := (blk_cell BK441.out 0).trans rfl; have hfz52_0 := blk_frozen BK441.out 0) | (go_at_call 22; (with_reducible refine (impl_newGame.calls k _ _ l0_0 a1 false t444 t445 _ ?side1 ?side2 A4.out).mono ?_); (case side1 => exact ax59); (case side2 => exact ax60); (rintro e w53 ⟨hb, hno_, hyes_⟩; obtain rfl := hno_ rfl; clear hyes_); have n0_ := Aside0.mk (blk_below (g := gb441) (o := .cells #[.slice A0_0 l0_0.length c0_0] 30 (0, 0)) ax190 hb); have n1_ := Aside0.mk (below_step ax189 hb); clear BK441; clear HB; have BK441 := n0_; have HB := n1_; clear n0_ n1_; (try clear hb); (try clear hb2); (try clear hk); (try clear hi); (try clear ho0)))
  repeat (go_quiet (first | ((with_reducible refine gate_dst (N := 3) rfl ?_); refine box_event ?hg (N := 3) ?hd (cs := #[.slice A0_0 l0_0.length c0_0]) (t := 30) ?hr ?_; (case hd => rfl); (case hg => rfl); (case hr => exact ax22); intro gb441 hg w51 hbox hb; have n0_ := Aside0.mk (below_step ax24 hb); have n1_ := Aside0.mk (hbox); have n2_ := Aside0.mk ((ax58 : w.heap.size ≤ gb441)); have n3_ := Aside0.mk ((ax58 : w.heap.size ≤ gb441)); clear HB; have HB := n0_; have BK441 := n1_; have GW441 := n2_; have GE441 := n3_; clear n0_ n1_ n2_ n3_; clear hb hbox hg; have hcz52_0 : w51.cell? ⟨gb441, 0, none⟩ = some (.slice A0_0 l0_0.length c0_0) := (blk_cell BK441.out 0).trans rfl; have hfz52_0 := blk_frozen BK441.out 0) | (go_at_call 22; (with_reducible refine (impl_newGame.calls k _ _ l0_0 a1 false t444 t445 _ ?side1 ?side2 A4.out).mono ?_); (case side1 => exact ax59); (case side2 => exact ax60); (rintro e w53 ⟨hb, hno_, hyes_⟩; obtain rfl := hno_ rfl; clear hyes_); have n0_ := Aside0.mk (blk_below (g := gb441) (o := .cells #[.slice A0_0 l0_0.length c0_0] 30 (0, 0)) ax190 hb); have n1_ := Aside0.mk (below_step ax189 hb); clear BK441; clear HB; have BK441 := n0_; have HB := n1_; clear n0_ n1_; (try clear hb); (try clear hb2); (try clear hk); (try clear hi); (try clear ho0))); try go_wp2_with (first | ((with_reducible refine gate_dst (N := 3) rfl ?_); refine box_event ?hg (N := 3) ?hd (cs := #[.slice A0_0 l0_0.length c0_0]) (t := 30) ?hr ?_; (case hd => rfl); (case hg => rfl); (case hr => exact ax22); intro gb441 hg w51 hbox hb; have n0_ := Aside0.mk (below_step ax24 hb); have n1_ := Aside0.mk (hbox); have n2_ := Aside0.mk ((ax58 : w.heap.size ≤ gb441)); have n3_ := Aside0.mk ((ax58 : w.heap.size ≤ gb441)); clear HB; have HB := n0_; have BK441 := n1_; have GW441 := n2_; have GE441 := n3_; clear n0_ n1_ n2_ n3_; clear hb hbox hg; have hcz52_0 : w51.cell? ⟨gb441, 0, none⟩ = some (.slice A0_0 l0_0.length c0_0) := (blk_cell BK441.out 0).trans rfl; have hfz52_0 := blk_frozen BK441.out 0) | (go_at_call 22; (with_reducible refine (impl_newGame.calls k _ _ l0_0 a1 false t444 t445 _ ?side1 ?side2 A4.out).mono ?_); (case side1 => exact ax59); (case side2 => exact ax60); (rintro e w53 ⟨hb, hno_, hyes_⟩; obtain rfl := hno_ rfl; clear hyes_); have n0_ := Aside0.mk (blk_below (g := gb441) (o := .cells #[.slice A0_0 l0_0.length c0_0] 30 (0, 0)) ax190 hb); have n1_ := Aside0.mk (below_step ax189 hb); clear BK441; clear HB; have BK441 := n0_; have HB := n1_; clear n0_ n1_; (try clear hb); (try clear hb2); (try clear hk); (try clear hi); (try clear ho0))))
  refine bodyPost_ret (results_list (rs := [.tmp 6, .tmp 7, .tmp 8, .tmp 9]) rfl (by simp) (.tmp (.tmp (.tmp (.tmp .nil))))) rfl ?_
  exact ⟨by first | rfl | (simp [errW_none, errW_some] <;> rfl) | (simp [*, errW_none, errW_some] <;> rfl), by repeat (first | (with_reducible first | exact HB.out | apply below_alloc | apply pw_below_drewN | apply below_drew1 | refine below_set ?_ GE441.out) | exact HB.out)⟩

/-! ### laws_eqNode: function 39 -/
def laws_eqNode.f (a0_0 : Int) (a0_1 : Int) (a0_2 : Bool) (a1_0 : Int) (a1_1 : Int) (a1_2 : Bool) : Option (Bool) := if a0_0 = a1_0 then (if a0_1 = a1_1 then (if (a0_2 != a1_2) = true then (some false) else (some true)) else (some false)) else (some false)
set_option maxHeartbeats 8000000 in
set_option maxRecDepth 100000 in
theorem laws_eqNode.calls (a0_0 : Int) (a0_1 : Int) (a0_2 : Bool) (a1_0 : Int) (a1_1 : Int) (a1_2 : Bool) (r : Bool) (w : World) (h : laws_eqNode.f a0_0 a0_1 a0_2 a1_0 a1_1 a1_2 = some r) :
  Calls Tryd.prog 39 #[.agg #[.int .i64 a0_0, .int .i64 a0_1, .bool a0_2], .agg #[.int .i64 a1_0, .int .i64 a1_1, .bool a1_2]] w fun e w' => e = .returned (.bool r) ∧ Below w.heap.size w w' := by
 have hu53 := Tryd.underlying53; have HB := Aside0.mk (Below.refl w.heap.size w)
 have H : (if a0_0 = a1_0 then (if a0_1 = a1_1 then (if (a0_2 != a1_2) = true then (some false) else (some true)) else (some false)) else (some false)) = some r := h
 clear h
 by_cases c3 : a0_0 = a1_0
 ·rw [if_pos c3] at H
  have c3b0 : (a0_0 == a1_0) = true := beq_iff_eq.mpr c3
  have c3b1 : (a0_0 != a1_0) = false := bne_eq_false_iff_eq.mpr c3
  clear c3
  by_cases c4 : a0_1 = a1_1
  ·rw [if_pos c4] at H
   have c4b0 : (a0_1 == a1_1) = true := beq_iff_eq.mpr c4
   have c4b1 : (a0_1 != a1_1) = false := bne_eq_false_iff_eq.mpr c4
   clear c4
   by_cases c5 : (a0_2 != a1_2) = true
   ·rw [if_pos c5] at H
    have c5b0 : (a0_2 != a1_2) = true := c5
    (try (have c5b1 : decide (a0_2 = a1_2) = false := by simpa using c5))
    (try (have c5b2 : (a0_2 == a1_2) = false := by simpa using c5))
    (try (have c5b3 : ¬ (a0_2 = a1_2) := by simpa using c5))
    clear c5
    obtain rfl := Option.some.inj H
    go_enter Tryd.func39, Tryd.ntmps39
    go_wp2_with (first | ((with_reducible refine gate_dst (N := 2) rfl ?_); refine box_event ?hg (N := 2) ?hd (cs := #[.int .i64 a0_0, .int .i64 a0_1, .bool a0_2]) (t := 53) ?hr ?_; (case hd => rfl); (case hg => rfl); (case hr => exact ax22); intro gb455 hg w6 hbox hb; have n0_ := Aside0.mk (below_step ax24 hb); have n1_ := Aside0.mk (hbox); have n2_ := Aside0.mk ((ax58 : w.heap.size ≤ gb455)); have n3_ := Aside0.mk ((ax58 : w.heap.size ≤ gb455)); clear HB; have HB := n0_; have BK455 := n1_; have GW455 := n2_; have GE455 := n3_; clear n0_ n1_ n2_ n3_; clear hb hbox hg) | ((with_reducible refine gate_dst (N := 3) rfl ?_); refine box_event ?hg (N := 3) ?hd (cs := #[.int .i64 a1_0, .int .i64 a1_1, .bool a1_2]) (t := 53) ?hr ?_; (case hd => rfl); (case hg => rfl); (case hr => exact ax22); intro gb456 hg w7 hbox hb; have n0_ := Aside0.mk (blk_below (g := gb455) (o := .cells #[.int .i64 a0_0, .int .i64 a0_1, .bool a0_2] 53 (0, 0)) ax198 hb); have n1_ := Aside0.mk (below_step ax199 hb); have n2_ := Aside0.mk (hbox); have n3_ := Aside0.mk ((ax200 : w.heap.size ≤ gb456)); have n4_ := Aside0.mk ((ax200 : w.heap.size ≤ gb456)); have n5_ := Aside0.mk ((ax201 : gb455 ≠ gb456)); have n6_ := Aside0.mk ((ax202 : gb456 ≠ gb455)); clear BK455; clear HB; have BK455 := n0_; have HB := n1_; have BK456 := n2_; have GW456 := n3_; have GE456 := n4_; have NB455_456 := n5_; have NB456_455 := n6_; clear n0_ n1_ n2_ n3_ n4_ n5_ n6_; clear hb hbox hg; have hnb8 := NB455_456.out; have hnc8 := NB456_455.out; have hcz9_0 : w7.cell? ⟨gb455, 0, none⟩ = some (.int .i64 a0_0) := (blk_cell BK455.out 0).trans rfl; have hcz9_1 : w7.cell? ⟨gb455, 1, none⟩ = some (.int .i64 a0_1) := (blk_cell BK455.out 1).trans rfl; have hcz9_2 : w7.cell? ⟨gb455, 2, none⟩ = some (.bool a0_2) := (blk_cell BK455.out 2).trans rfl; have hfz9_0 := blk_frozen BK455.out 0; have hfz9_1 := blk_frozen BK455.out 1; have hfz9_2 := blk_frozen BK455.out 2; have hcz10_0 : w7.cell? ⟨gb456, 0, none⟩ = some (.int .i64 a1_0) := (blk_cell BK456.out 0).trans rfl; have hcz10_1 : w7.cell? ⟨gb456, 1, none⟩ = some (.int .i64 a1_1) := (blk_cell BK456.out 1).trans rfl; have hcz10_2 : w7.cell? ⟨gb456, 2, none⟩ = some (.bool a1_2) := (blk_cell BK456.out 2).trans rfl; have hfz10_0 := blk_frozen BK456.out 0; have hfz10_1 := blk_frozen BK456.out 1; have hfz10_2 := blk_frozen BK456.out 2))
    go_ret
    exact ⟨by first | rfl | (simp [errW_none, errW_some] <;> rfl) | (simp [*, errW_none, errW_some] <;> rfl), by repeat (first | (with_reducible first | exact HB.out | apply below_alloc | apply pw_below_drewN | apply below_drew1 | refine below_set ?_ GE455.out | refine below_set ?_ GE456.out) | exact HB.out)⟩
   ·rw [if_neg c5] at H
    have c5b0 : (a0_2 != a1_2) = false := by simpa using c5
    (try (have c5b1 : decide (a0_2 = a1_2) = true := by simpa using c5))
    (try (have c5b2 : (a0_2 == a1_2) = true := by simpa using c5))
    clear c5
    obtain rfl := Option.some.inj H
    go_enter Tryd.func39, Tryd.ntmps39
    go_wp2_with (first | ((with_reducible refine gate_dst (N := 2) rfl ?_); refine box_event ?hg (N := 2) ?hd (cs := #[.int .i64 a0_0, .int .i64 a0_1, .bool a0_2]) (t := 53) ?hr ?_; (case hd => rfl); (case hg => rfl); (case hr => exact ax22); intro gb455 hg w11 hbox hb; have n0_ := Aside0.mk (below_step ax24 hb); have n1_ := Aside0.mk (hbox); have n2_ := Aside0.mk ((ax58 : w.heap.size ≤ gb455)); have n3_ := Aside0.mk ((ax58 : w.heap.size ≤ gb455)); clear HB; have HB := n0_; have BK455 := n1_; have GW455 := n2_; have GE455 := n3_; clear n0_ n1_ n2_ n3_; clear hb hbox hg) | ((with_reducible refine gate_dst (N := 3) rfl ?_); refine box_event ?hg (N := 3) ?hd (cs := #[.int .i64 a1_0, .int .i64 a1_1, .bool a1_2]) (t := 53) ?hr ?_; (case hd => rfl); (case hg => rfl); (case hr => exact ax22); intro gb456 hg w12 hbox hb; have n0_ := Aside0.mk (blk_below (g := gb455) (o := .cells #[.int .i64 a0_0, .int .i64 a0_1, .bool a0_2] 53 (0, 0)) ax198 hb); have n1_ := Aside0.mk (below_step ax199 hb); have n2_ := Aside0.mk (hbox); have n3_ := Aside0.mk ((ax200 : w.heap.size ≤ gb456)); have n4_ := Aside0.mk ((ax200 : w.heap.size ≤ gb456)); have n5_ := Aside0.mk ((ax201 : gb455 ≠ gb456)); have n6_ := Aside0.mk ((ax202 : gb456 ≠ gb455)); clear BK455; clear HB; have BK455 := n0_; have HB := n1_; have BK456 := n2_; have GW456 := n3_; have GE456 := n4_; have NB455_456 := n5_; have NB456_455 := n6_; clear n0_ n1_ n2_ n3_ n4_ n5_ n6_; clear hb hbox hg; have hnb13 := NB455_456.out; have hnc13 := NB456_455.out; have hcz14_0 : w12.cell? ⟨gb455, 0, none⟩ = some (.int .i64 a0_0) := (blk_cell BK455.out 0).trans rfl; have hcz14_1 : w12.cell? ⟨gb455, 1, none⟩ = some (.int .i64 a0_1) := (blk_cell BK455.out 1).trans rfl; have hcz14_2 : w12.cell? ⟨gb455, 2, none⟩ = some (.bool a0_2) := (blk_cell BK455.out 2).trans rfl; have hfz14_0 := blk_frozen BK455.out 0; have hfz14_1 := blk_frozen BK455.out 1; have hfz14_2 := blk_frozen BK455.out 2; have hcz15_0 : w12.cell? ⟨gb456, 0, none⟩ = some (.int .i64 a1_0) := (blk_cell BK456.out 0).trans rfl; have hcz15_1 : w12.cell? ⟨gb456, 1, none⟩ = some (.int .i64 a1_1) := (blk_cell BK456.out 1).trans rfl; have hcz15_2 : w12.cell? ⟨gb456, 2, none⟩ = some (.bool a1_2) := (blk_cell BK456.out 2).trans rfl; have hfz15_0 := blk_frozen BK456.out 0; have hfz15_1 := blk_frozen BK456.out 1; have hfz15_2 := blk_frozen BK456.out 2))
    go_ret
    exact ⟨by first | rfl | (simp [errW_none, errW_some] <;> rfl) | (simp [*, errW_none, errW_some] <;> rfl), by repeat (first | (with_reducible first | exact HB.out | apply below_alloc | apply pw_below_drewN | apply below_drew1 | refine below_set ?_ GE455.out | refine below_set ?_ GE456.out) | exact HB.out)⟩
  ·rw [if_neg c4] at H
   have c4b0 : (a0_1 == a1_1) = false := beq_eq_false_iff_ne.mpr c4
   have c4b1 : (a0_1 != a1_1) = true := bne_iff_ne.mpr c4
   obtain rfl := Option.some.inj H
   go_enter Tryd.func39, Tryd.ntmps39
   go_wp2_with (first | ((with_reducible refine gate_dst (N := 2) rfl ?_); refine box_event ?hg (N := 2) ?hd (cs := #[.int .i64 a0_0, .int .i64 a0_1, .bool a0_2]) (t := 53) ?hr ?_; (case hd => rfl); (case hg => rfl); (case hr => exact ax22); intro gb455 hg w16 hbox hb; have n0_ := Aside0.mk (below_step ax24 hb); have n1_ := Aside0.mk (hbox); have n2_ := Aside0.mk ((ax58 : w.heap.size ≤ gb455)); have n3_ := Aside0.mk ((ax58 : w.heap.size ≤ gb455)); clear HB; have HB := n0_; have BK455 := n1_; have GW455 := n2_; have GE455 := n3_; clear n0_ n1_ n2_ n3_; clear hb hbox hg) | ((with_reducible refine gate_dst (N := 3) rfl ?_); refine box_event ?hg (N := 3) ?hd (cs := #[.int .i64 a1_0, .int .i64 a1_1, .bool a1_2]) (t := 53) ?hr ?_; (case hd => rfl); (case hg => rfl); (case hr => exact ax22); intro gb456 hg w17 hbox hb; have n0_ := Aside0.mk (blk_below (g := gb455) (o := .cells #[.int .i64 a0_0, .int .i64 a0_1, .bool a0_2] 53 (0, 0)) ax198 hb); have n1_ := Aside0.mk (below_step ax199 hb); have n2_ := Aside0.mk (hbox); have n3_ := Aside0.mk ((ax200 : w.heap.size ≤ gb456)); have n4_ := Aside0.mk ((ax200 : w.heap.size ≤ gb456)); have n5_ := Aside0.mk ((ax201 : gb455 ≠ gb456)); have n6_ := Aside0.mk ((ax202 : gb456 ≠ gb455)); clear BK455; clear HB; have BK455 := n0_; have HB := n1_; have BK456 := n2_; have GW456 := n3_; have GE456 := n4_; have NB455_456 := n5_; have NB456_455 := n6_; clear n0_ n1_ n2_ n3_ n4_ n5_ n6_; clear hb hbox hg; have hnb18 := NB455_456.out; have hnc18 := NB456_455.out; have hcz19_0 : w17.cell? ⟨gb455, 0, none⟩ = some (.int .i64 a0_0) := (blk_cell BK455.out 0).trans rfl; have hcz19_1 : w17.cell? ⟨gb455, 1, none⟩ = some (.int .i64 a0_1) := (blk_cell BK455.out 1).trans rfl; have hcz19_2 : w17.cell? ⟨gb455, 2, none⟩ = some (.bool a0_2) := (blk_cell BK455.out 2).trans rfl; have hfz19_0 := blk_frozen BK455.out 0; have hfz19_1 := blk_frozen BK455.out 1; have hfz19_2 := blk_frozen BK455.out 2; have hcz20_0 : w17.cell? ⟨gb456, 0, none⟩ = some (.int .i64 a1_0) := (blk_cell BK456.out 0).trans rfl; have hcz20_1 : w17.cell? ⟨gb456, 1, none⟩ = some (.int .i64 a1_1) := (blk_cell BK456.out 1).trans rfl; have hcz20_2 : w17.cell? ⟨gb456, 2, none⟩ = some (.bool a1_2) := (blk_cell BK456.out 2).trans rfl; have hfz20_0 := blk_frozen BK456.out 0; have hfz20_1 := blk_frozen BK456.out 1; have hfz20_2 := blk_frozen BK456.out 2))
   go_ret
   exact ⟨by first | rfl | (simp [errW_none, errW_some] <;> rfl) | (simp [*, errW_none, errW_some] <;> rfl), by repeat (first | (with_reducible first | exact HB.out | apply below_alloc | apply pw_below_drewN | apply below_drew1 | refine below_set ?_ GE455.out | refine below_set ?_ GE456.out) | exact HB.out)⟩
 ·rw [if_neg c3] at H
  have c3b0 : (a0_0 == a1_0) = false := beq_eq_false_iff_ne.mpr c3
  have c3b1 : (a0_0 != a1_0) = true := bne_iff_ne.mpr c3
  obtain rfl := Option.some.inj H
  go_enter Tryd.func39, Tryd.ntmps39
  go_wp2_with (first | ((with_reducible refine gate_dst (N := 2) rfl ?_); refine box_event ?hg (N := 2) ?hd (cs := #[.int .i64 a0_0, .int .i64 a0_1, .bool a0_2]) (t := 53) ?hr ?_; (case hd => rfl); (case hg => rfl); (case hr => exact ax22); intro gb455 hg w21 hbox hb; have n0_ := Aside0.mk (below_step ax24 hb); have n1_ := Aside0.mk (hbox); have n2_ := Aside0.mk ((ax58 : w.heap.size ≤ gb455)); have n3_ := Aside0.mk ((ax58 : w.heap.size ≤ gb455)); clear HB; have HB := n0_; have BK455 := n1_; have GW455 := n2_; have GE455 := n3_; clear n0_ n1_ n2_ n3_; clear hb hbox hg) | ((with_reducible refine gate_dst (N := 3) rfl ?_); refine box_event ?hg (N := 3) ?hd (cs := #[.int .i64 a1_0, .int .i64 a1_1, .bool a1_2]) (t := 53) ?hr ?_; (case hd => rfl); (case hg => rfl); (case hr => exact ax22); intro gb456 hg w22 hbox hb; have n0_ := Aside0.mk (blk_below (g := gb455) (o := .cells #[.int .i64 a0_0, .int .i64 a0_1, .bool a0_2] 53 (0, 0)) ax198 hb); have n1_ := Aside0.mk (below_step ax199 hb); have n2_ := Aside0.mk (hbox); have n3_ := Aside0.mk ((ax200 : w.heap.size ≤ gb456)); have n4_ := Aside0.mk ((ax200 : w.heap.size ≤ gb456)); have n5_ := Aside0.mk ((ax201 : gb455 ≠ gb456)); have n6_ := Aside0.mk ((ax202 : gb456 ≠ gb455)); clear BK455; clear HB; have BK455 := n0_; have HB := n1_; have BK456 := n2_; have GW456 := n3_; have GE456 := n4_; have NB455_456 := n5_; have NB456_455 := n6_; clear n0_ n1_ n2_ n3_ n4_ n5_ n6_; clear hb hbox hg; have hnb23 := NB455_456.out; have hnc23 := NB456_455.out; have hcz24_0 : w22.cell? ⟨gb455, 0, none⟩ = some (.int .i64 a0_0) := (blk_cell BK455.out 0).trans rfl; have hcz24_1 : w22.cell? ⟨gb455, 1, none⟩ = some (.int .i64 a0_1) := (blk_cell BK455.out 1).trans rfl; have hcz24_2 : w22.cell? ⟨gb455, 2, none⟩ = some (.bool a0_2) := (blk_cell BK455.out 2).trans rfl; have hfz24_0 := blk_frozen BK455.out 0; have hfz24_1 := blk_frozen BK455.out 1; have hfz24_2 := blk_frozen BK455.out 2; have hcz25_0 : w22.cell? ⟨gb456, 0, none⟩ = some (.int .i64 a1_0) := (blk_cell BK456.out 0).trans rfl; have hcz25_1 : w22.cell? ⟨gb456, 1, none⟩ = some (.int .i64 a1_1) := (blk_cell BK456.out 1).trans rfl; have hcz25_2 : w22.cell? ⟨gb456, 2, none⟩ = some (.bool a1_2) := (blk_cell BK456.out 2).trans rfl; have hfz25_0 := blk_frozen BK456.out 0; have hfz25_1 := blk_frozen BK456.out 1; have hfz25_2 := blk_frozen BK456.out 2))
  go_ret
  exact ⟨by first | rfl | (simp [errW_none, errW_some] <;> rfl) | (simp [*, errW_none, errW_some] <;> rfl), by repeat (first | (with_reducible first | exact HB.out | apply below_alloc | apply pw_below_drewN | apply below_drew1 | refine below_set ?_ GE455.out | refine below_set ?_ GE456.out) | exact HB.out)⟩

end Go.Proofs.YtcbjfflaamlpcaaDoor.X

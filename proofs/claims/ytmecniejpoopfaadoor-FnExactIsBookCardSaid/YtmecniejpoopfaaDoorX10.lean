-- By gen.py (the session's own program over the kit's printer): functions of the program, each with its contract. Lean checks it.
import Derived.Test.YtmecniejpoopfaaDoorX0
import Derived.Test.YtmecniejpoopfaaDoorX1
import Derived.Test.YtmecniejpoopfaaDoorX6
import Derived.Test.YtmecniejpoopfaaDoorX9
namespace Go.Proofs.YtmecniejpoopfaaDoor.X
open Go.RowKit Go.Proofs.YtmecniejpoopfaaDoorW.PrintWords Go.Proofs.YtmecniejpoopfaaDoorW.PrintLast Go.Proofs.YtmecniejpoopfaaDoorW.PrintMore
attribute [local go_sem] max2_int min2_int max_two min_two max_three min_three max_four min_four   -- for this text's walks alone
set_option linter.unusedVariables false
set_option linter.unusedSimpArgs false

/-! ### slices_Contains_string_string: function 18 -/
def slices_Contains_string_string.f (k : Nat) (l0 : List ByteArray) (a1 : ByteArray) : Option (Bool) := (slices_Index_string_string.f k l0 a1).bind fun t313 => (some (decide (t313 ≥ 0)))
theorem slices_Contains_string_string.mono : ∀ a0 a1 k, LeO (slices_Contains_string_string.f k a0 a1) (slices_Contains_string_string.f (k + 1) a0 a1) := by
 intro a0 a1 k
 unfold slices_Contains_string_string.f
 repeat' first
   | (with_reducible exact slices_Index_string_string.mono _ _ _)
   | (with_reducible exact LeO.refl _)
   | (with_reducible exact LeO.none _)
   | (with_reducible refine LeO.ite ?_ ?_)
   | (with_reducible refine LeO.bind ?_ (fun _ => ?_))
   | exact slices_Index_string_string.mono _ _ _
   | exact LeO.none _
   | refine LeO.ite ?_ ?_
   | refine LeO.bind ?_ (fun _ => ?_)
set_option maxHeartbeats 8000000 in
set_option maxRecDepth 100000 in
theorem slices_Contains_string_string.calls (k : Nat) (A0 : Option Addr) (c0 : Nat) (l0 : List ByteArray) (a1 : ByteArray) (r : Bool) (w : World) (hr0 : Kd.C Kd.string w A0 l0.length l0) (hc0 : l0.length ≤ c0) (h : slices_Contains_string_string.f k l0 a1 = some r) :
  Calls Tryd.prog 18 #[.slice A0 l0.length c0, .string a1] w fun e w' => e = .returned (.bool r) ∧ Drawn0 w w' := by
 have HR0 := Aside0.mk hr0; have HC0 := Aside0.mk hc0; clear hr0 hc0
 have H : ((slices_Index_string_string.f k l0 a1).bind fun t313 => (some (decide (t313 ≥ 0)))) = some r := h
 clear h; replace H := Option.bind_eq_some_iff.mp H
 obtain ⟨t313, A30, H⟩ := H
 replace H : (some (decide (t313 ≥ 0))) = some r := H
 have A3 := Aside0.mk A30; clear A30
 obtain rfl := Option.some.inj H
 go_enter Tryd.func18, Tryd.ntmps18
 go_wp2_with (first | ((with_reducible refine gate_callee (f := 34) rfl ?_); refine goesL_ (some 7) rfl rfl Tryd.func34 (by kernel_rfl) rfl #[.slice A0 l0.length c0, .string a1] rfl ax24 ?_; (with_reducible refine (slices_Index_string_string.calls k _ _ l0 a1 t313 _ ?side1 ?side2 A3.out).mono ?_); (case side1 => repeat (first | exact HR0.out | (with_reducible refine Kd.C_alloc ?_ _) | (with_reducible refine Kd.C_drewN ?_ _) | (with_reducible refine Kd.C_drew ?_))); (case side2 => exact HC0.out); rintro e w' ⟨rfl, ⟨nd, rfl⟩⟩; refine ⟨_, rfl, ?_⟩))
 go_ret
 exact ⟨by first | rfl | (simp; done) | (simp [*]; done), by repeat (first | exact Drawn0.refl _ | apply Drawn0.step)⟩

/-! ### impl_Book_isBook: function 9 -/
def impl_Book_isBook.j0 : Nat → Bool → ByteArray → ByteArray → Int → List (S50) → Option (Bool)
 | 0, _, _, _, _, _ => none
 | k + 1, x19, x315000, x315001, x315002, x320000 => if x19 = true then (some false) else ((impl_Trie_prefixes.f k x320000).bind fun bt321 => ((slices_Contains_string_string.f k bt321.1 x315001).bind fun t325 => (some t325)))
def impl_Book_isBook.f (k : Nat) (a0_0 : ByteArray) (a0_1 : ByteArray) (a0_2 : Int) : Option (Bool) := (impl_Book_trie.f k a0_0 a0_1 a0_2).bind fun bt315 => (if bt315.2 = true then ((impl_in.f a0_2 0 1000).bind fun t320 => (impl_Book_isBook.j0 k (!t320) a0_0 a0_1 a0_2 bt315.1)) else (impl_Book_isBook.j0 k true a0_0 a0_1 a0_2 bt315.1))
theorem impl_Book_isBook.mono_l : ∀ k, (∀ y0 y1 y2 y3 y4, LeO (impl_Book_isBook.j0 k y0 y1 y2 y3 y4) (impl_Book_isBook.j0 (k + 1) y0 y1 y2 y3 y4))
 | 0 => fun _ _ _ _ _ r h => by simp [impl_Book_isBook.j0] at h
 | k + 1 => by
  have ih0 := impl_Book_isBook.mono_l k
  ·intro y0 y1 y2 y3 y4
   unfold impl_Book_isBook.j0
   repeat' first
   | (with_reducible exact ih0 _ _ _ _ _)
   | (with_reducible exact impl_Book_trie.mono _ _ _ _)
   | (with_reducible exact impl_Trie_prefixes.mono _ _)
   | (with_reducible exact slices_Contains_string_string.mono _ _ _)
   | (with_reducible exact LeO.refl _)
   | (with_reducible exact LeO.none _)
   | (with_reducible refine LeO.ite ?_ ?_)
   | (with_reducible refine LeO.bind ?_ (fun _ => ?_))
   | exact ih0 _ _ _ _ _
   | exact impl_Book_trie.mono _ _ _ _
   | exact impl_Trie_prefixes.mono _ _
   | exact slices_Contains_string_string.mono _ _ _
   | exact LeO.none _
   | refine LeO.ite ?_ ?_
   | refine LeO.bind ?_ (fun _ => ?_)
theorem impl_Book_isBook.mono : ∀ a0 a1 a2 k, LeO (impl_Book_isBook.f k a0 a1 a2) (impl_Book_isBook.f (k + 1) a0 a1 a2) := by
 intro a0 a1 a2 k
 have ih0 := impl_Book_isBook.mono_l k
 unfold impl_Book_isBook.f
 repeat' first
   | (with_reducible exact ih0 _ _ _ _ _)
   | (with_reducible exact impl_Book_trie.mono _ _ _ _)
   | (with_reducible exact impl_Trie_prefixes.mono _ _)
   | (with_reducible exact slices_Contains_string_string.mono _ _ _)
   | (with_reducible exact LeO.refl _)
   | (with_reducible exact LeO.none _)
   | (with_reducible refine LeO.ite ?_ ?_)
   | (with_reducible refine LeO.bind ?_ (fun _ => ?_))
   | exact ih0 _ _ _ _ _
   | exact impl_Book_trie.mono _ _ _ _
   | exact impl_Trie_prefixes.mono _ _
   | exact slices_Contains_string_string.mono _ _ _
   | exact LeO.none _
   | refine LeO.ite ?_ ?_
   | refine LeO.bind ?_ (fun _ => ?_)
set_option maxHeartbeats 8000000 in
set_option maxRecDepth 100000 in
theorem impl_Book_isBook.calls (k : Nat) (a0_0 : ByteArray) (a0_1 : ByteArray) (a0_2 : Int) (r : Bool) (w : World) (hG : GL w) (h : impl_Book_isBook.f k a0_0 a0_1 a0_2 = some r) :
  Calls Tryd.prog 9 #[.agg #[.string a0_0, .string a0_1, .int .i64 a0_2]] w fun e w' => e = .returned (.bool r) ∧ Below w.heap.size w w' := by
 have hu26 := Tryd.underlying26; have hu38 := Tryd.underlying38; have HB := Aside0.mk (Below.refl w.heap.size w); have HG := Aside0.mk hG; clear hG
 have H : ((impl_Book_trie.f k a0_0 a0_1 a0_2).bind fun bt315 => (if bt315.2 = true then ((impl_in.f a0_2 0 1000).bind fun t320 => (impl_Book_isBook.j0 k (!t320) a0_0 a0_1 a0_2 bt315.1)) else (impl_Book_isBook.j0 k true a0_0 a0_1 a0_2 bt315.1))) = some r := h
 clear h; replace H := Option.bind_eq_some_iff.mp H
 obtain ⟨⟨t315, t318⟩, A20, H⟩ := H
 replace H : (if t318 = true then ((impl_in.f a0_2 0 1000).bind fun t320 => (impl_Book_isBook.j0 k (!t320) a0_0 a0_1 a0_2 t315)) else (impl_Book_isBook.j0 k true a0_0 a0_1 a0_2 t315)) = some r := H
 have A2 := Aside0.mk A20; clear A20; have HC3 := Aside0.mk H; clear H
 go_enter Tryd.func9, Tryd.ntmps9
 go_upto_region 2 with (first | ((with_reducible refine gate_dst (N := 1) rfl ?_); refine box_event ?hg (N := 1) ?hd (cs := #[.string a0_0, .string a0_1, .int .i64 a0_2]) (t := 26) ?hr ?_; (case hd => rfl); (case hg => rfl); (case hr => exact ax12); intro gb314 hg w4 hbox hb; have n0_ := Aside0.mk (below_step ax13 hb); have n1_ := Aside0.mk (hbox); have n2_ := Aside0.mk ((ax14 : w.heap.size ≤ gb314)); have n3_ := Aside0.mk ((ax14 : w.heap.size ≤ gb314)); clear HB; have HB := n0_; have BK314 := n1_; have GW314 := n2_; have GE314 := n3_; clear n0_ n1_ n2_ n3_; clear hb hbox hg; have hcz5_0 : w4.cell? ⟨gb314, 0, none⟩ = some (.string a0_0) := (blk_cell BK314.out 0).trans rfl; have hcz5_1 : w4.cell? ⟨gb314, 1, none⟩ = some (.string a0_1) := (blk_cell BK314.out 1).trans rfl; have hcz5_2 : w4.cell? ⟨gb314, 2, none⟩ = some (.int .i64 a0_2) := (blk_cell BK314.out 2).trans rfl; have hfz5_0 := blk_frozen BK314.out 0; have hfz5_1 := blk_frozen BK314.out 1; have hfz5_2 := blk_frozen BK314.out 2) | ((with_reducible refine gate_callee (f := 15) rfl ?_); refine goesL_ (some 9) rfl rfl Tryd.func15 (by kernel_rfl) rfl #[.agg #[.string a0_0, .string a0_1, .int .i64 a0_2]] rfl ax24 ?_; (with_reducible refine (impl_Book_trie.calls k a0_0 a0_1 a0_2 t315 t318 _ ?side1 A2.out).mono ?_); (case side1 => exact GL.below HG.out ax141); rintro e w6 ⟨v316, rfl, ho0, hb⟩; refine ⟨_, rfl, ?_⟩; have n0_ := Aside0.mk (Kd.R_lower ho0 (below_size ax141)); have n1_ := Aside0.mk (blk_below (g := gb314) (o := .cells #[.string a0_0, .string a0_1, .int .i64 a0_2] 26 (0, 0)) ax142 hb); have n2_ := Aside0.mk (below_step ax141 hb); clear BK314; clear HB; have HO317 := n0_; have BK314 := n1_; have HB := n2_; clear n0_ n1_ n2_; (try clear hb); (try clear hb2); (try clear hk); (try clear hi); (try clear ho0)) | ((with_reducible refine gate_dst (N := 3) rfl ?_); refine box_event ?hg (N := 3) ?hd (cs := #[.slice none 0 0]) (t := 38) ?hr ?_; (case hd => rfl); (case hg => rfl); (case hr => exact ax12); intro gb319 hg w7 hbox hb; have n0_ := Aside0.mk (Kd.R_below (by (with_reducible repeat (first | apply Kd.R_alloc | apply Kd.R_drewN | apply Kd.R_drew)); exact HO317.out) hb); have n1_ := Aside0.mk (blk_below (g := gb314) (o := .cells #[.string a0_0, .string a0_1, .int .i64 a0_2] 26 (0, 0)) ax142 hb); have n2_ := Aside0.mk (below_step ax141 hb); have n3_ := Aside0.mk (hbox); have n4_ := Aside0.mk ((ax143 : w.heap.size ≤ gb319)); have n5_ := Aside0.mk ((ax143 : w.heap.size ≤ gb319)); have n6_ := Aside0.mk ((by rw [hg]; exact Nat.ne_of_lt (blk_lt (g := gb314) (o := .cells #[.string a0_0, .string a0_1, .int .i64 a0_2] 26 (0, 0)) ax142) : gb314 ≠ gb319)); have n7_ := Aside0.mk ((by rw [hg]; exact Nat.ne_of_gt (blk_lt (g := gb314) (o := .cells #[.string a0_0, .string a0_1, .int .i64 a0_2] 26 (0, 0)) ax142) : gb319 ≠ gb314)); clear HO317; clear BK314; clear HB; have HO317 := n0_; have BK314 := n1_; have HB := n2_; have BK319 := n3_; have GW319 := n4_; have GE319 := n5_; have NB314_319 := n6_; have NB319_314 := n7_; clear n0_ n1_ n2_ n3_ n4_ n5_ n6_ n7_; clear hb hbox hg; obtain ⟨Ao8, co8, eo8⟩ := Kd.R_slice HO317.out; subst eo8; have hnb9 := NB319_314.out; have hnc9 := NB314_319.out; have hcz10_0 : w7.cell? ⟨gb319, 0, none⟩ = some (.slice none 0 0) := (blk_cell BK319.out 0).trans rfl; have hfz10_0 := blk_frozen BK319.out 0))
 (try simp only [Act.put, List.setIfInBounds_toArray, List.set_cons_zero, List.set_cons_succ])
 go_cut [19] (fun v19 wc => ∃ (kq : Nat) (x19_2 : Bool), v19 = .bool x19_2 ∧ Aside0 (impl_Book_isBook.j0 kq x19_2 a0_0 a0_1 a0_2 t315 = some r) ∧ Aside0 (kq ≤ k) ∧ Aside0 (Kd.R k50 50 wc w.heap.size (fun _ => True) (.slice Ao8 t315.length co8) t315) ∧ Aside0 (wc.heap[gb314]? = some (.cells #[.string a0_0, .string a0_1, .int .i64 a0_2] 26 (0, 0))) ∧ Aside0 (wc.heap[gb319]? = some (.cells #[(.slice Ao8 t315.length co8)] 38 (0, 0))) ∧ Aside0 (Below w.heap.size w wc))
 case first =>
  have H := HC3.out; clear HC3
  by_cases c11 : t318 = true
  ·subst c11
   have H1 : ((impl_in.f a0_2 0 1000).bind fun t320 => (impl_Book_isBook.j0 k (!t320) a0_0 a0_1 a0_2 t315)) = some r := by rw [if_pos rfl] at H; exact H
   clear H; have H := H1; clear H1; replace H := Option.bind_eq_some_iff.mp H
   obtain ⟨t320, A120, H⟩ := H
   replace H : (impl_Book_isBook.j0 k (!t320) a0_0 a0_1 a0_2 t315) = some r := H
   have A12 := Aside0.mk A120; clear A120
   have H' := Aside0.mk H
   clear H; have hnb13 := NB314_319.out; have hnc13 := NB319_314.out
   have hcz14_0 : w7.cell? ⟨gb314, 0, none⟩ = some (.string a0_0) := (blk_cell BK314.out 0).trans rfl
   have hcz14_1 : w7.cell? ⟨gb314, 1, none⟩ = some (.string a0_1) := (blk_cell BK314.out 1).trans rfl
   have hcz14_2 : w7.cell? ⟨gb314, 2, none⟩ = some (.int .i64 a0_2) := (blk_cell BK314.out 2).trans rfl
   have hfz14_0 := blk_frozen BK314.out 0; have hfz14_1 := blk_frozen BK314.out 1; have hfz14_2 := blk_frozen BK314.out 2
   go_wp2_with (first | (go_at_call 16; (with_reducible refine (impl_in.calls a0_2 0 1000 t320 _ A12.out).mono ?_); rintro e w' ⟨rfl, ⟨nd, rfl⟩⟩))
   go_meet
   case rel => exact ⟨_, (!t320), ax15, H', ⟨by first | omega | exact Nat.le_refl _⟩, ⟨by (with_reducible repeat (first | apply Kd.R_alloc | apply Kd.R_drewN | apply Kd.R_drew)); exact Kd.R_mono (Kd.R_far (p := ⟨gb319, 0, none⟩) (Kd.R_types HO317.out BK319.out (by decide)) (fun _ hk => hk.2) (.slice Ao8 t315.length co8)) (fun _ hk => trivial)⟩, ⟨by (with_reducible repeat (first | refine blk_drewN ?_ _ | refine blk_drew ?_ | refine blk_alloc ?_ _)); refine blk_far ?_ NB314_319.out _; (with_reducible repeat (first | refine blk_drewN ?_ _ | refine blk_drew ?_ | refine blk_alloc ?_ _)); exact BK314.out⟩, ⟨by (with_reducible repeat (first | refine blk_drewN ?_ _ | refine blk_drew ?_ | refine blk_alloc ?_ _)); refine blk_put (cs := #[.slice none 0 0]) ?_ 0 _ rfl; (with_reducible repeat (first | refine blk_drewN ?_ _ | refine blk_drew ?_ | refine blk_alloc ?_ _)); exact BK319.out⟩, ⟨by repeat (first | (with_reducible first | exact HB.out | apply below_alloc | apply pw_below_drewN | apply below_drew1 | refine below_set ?_ GE314.out | refine below_set ?_ GE319.out) | exact HB.out)⟩⟩
  ·replace c11 := Bool.eq_false_iff.mpr c11
   subst c11
   have H1 : (impl_Book_isBook.j0 k true a0_0 a0_1 a0_2 t315) = some r := by rw [if_neg (show ¬ (false = true) by decide)] at H; exact H
   clear H; have H := H1; clear H1
   have H' := Aside0.mk H
   clear H
   go_wp2
   go_meet
   case rel => exact ⟨_, (true), ax15, H', ⟨by first | omega | exact Nat.le_refl _⟩, ⟨by (with_reducible repeat (first | apply Kd.R_alloc | apply Kd.R_drewN | apply Kd.R_drew)); exact Kd.R_mono (Kd.R_far (p := ⟨gb319, 0, none⟩) (Kd.R_types HO317.out BK319.out (by decide)) (fun _ hk => hk.2) (.slice Ao8 t315.length co8)) (fun _ hk => trivial)⟩, ⟨by (with_reducible repeat (first | refine blk_drewN ?_ _ | refine blk_drew ?_ | refine blk_alloc ?_ _)); refine blk_far ?_ NB314_319.out _; (with_reducible repeat (first | refine blk_drewN ?_ _ | refine blk_drew ?_ | refine blk_alloc ?_ _)); exact BK314.out⟩, ⟨by (with_reducible repeat (first | refine blk_drewN ?_ _ | refine blk_drew ?_ | refine blk_alloc ?_ _)); refine blk_put (cs := #[.slice none 0 0]) ?_ 0 _ rfl; (with_reducible repeat (first | refine blk_drewN ?_ _ | refine blk_drew ?_ | refine blk_alloc ?_ _)); exact BK319.out⟩, ⟨by repeat (first | (with_reducible first | exact HB.out | apply below_alloc | apply pw_below_drewN | apply below_drew1 | refine below_set ?_ GE314.out | refine below_set ?_ GE319.out) | exact HB.out)⟩⟩
 case rest =>
  clear HC3
  try clear c1
  try clear p2
  try clear c9
  try clear c11
  try clear c13
  try clear hcz10_0
  try clear hcz14_0
  try clear hcz14_1
  try clear hcz14_2
  try clear hcz5_0
  try clear hcz5_1
  try clear hcz5_2
  try clear hfz10_0
  try clear hfz14_0
  try clear hfz14_1
  try clear hfz14_2
  try clear hfz5_0
  try clear hfz5_1
  try clear hfz5_2
  obtain ⟨kq, x19_2, rfl, HA, HJ2, HO_320000, BK314, BK319, HB⟩ := hcut
  cases kq with
  | zero => exact absurd HA.out (by simp [impl_Book_isBook.j0])
  | succ kj2 =>
   have H := HA.out; clear HA
   simp only [impl_Book_isBook.j0] at H
   by_cases c15 : x19_2 = true
   ·subst c15
    have H1 : (some false) = some r := by rw [if_pos rfl] at H; exact H
    clear H; have H := H1; clear H1
    obtain rfl := Option.some.inj H
    go_wp2
    go_ret
    exact ⟨by first | rfl | (simp [errW_none, errW_some] <;> rfl) | (simp [*, errW_none, errW_some] <;> rfl), by repeat (first | (with_reducible first | exact HB.out | apply below_alloc | apply pw_below_drewN | apply below_drew1 | refine below_set ?_ GE314.out | refine below_set ?_ GE319.out) | exact HB.out)⟩
   ·replace c15 := Bool.eq_false_iff.mpr c15
    subst c15
    have H1 : ((impl_Trie_prefixes.f kj2 t315).bind fun bt321 => ((slices_Contains_string_string.f kj2 bt321.1 a0_1).bind fun t325 => (some t325))) = some r := by rw [if_neg (show ¬ (false = true) by decide)] at H; exact H
    clear H; have H := H1; clear H1; replace H := Option.bind_eq_some_iff.mp H
    obtain ⟨⟨t321, t324⟩, A160, H⟩ := H
    replace H : ((slices_Contains_string_string.f kj2 t321 a0_1).bind fun t325 => (some t325)) = some r := H
    have A16 := Aside0.mk A160; clear A160; replace H := Option.bind_eq_some_iff.mp H
    obtain ⟨t325, A170, H⟩ := H
    replace H : (some t325) = some r := H
    have A17 := Aside0.mk A170; clear A170
    obtain rfl := Option.some.inj H
    have hnb18 := NB319_314.out; have hnc18 := NB314_319.out
    have hcz19_0 : wc.cell? ⟨gb319, 0, none⟩ = some (.slice Ao8 t315.length co8) := (blk_cell BK319.out 0).trans rfl
    have hfz19_0 := blk_frozen BK319.out 0
    go_wp2_with (first | ((with_reducible refine gate_callee (f := 17) rfl ?_); refine goesL_ (some 22) rfl rfl Tryd.func17 (by kernel_rfl) rfl #[.agg #[.slice Ao8 t315.length co8]] rfl ax24 ?_; (with_reducible refine (impl_Trie_prefixes.calls kj2 _ _ t315 t321 t324 _ ?side1 ?side2 A16.out).mono ?_); (case side1 => repeat (first | exact (Kd.R_reads' HO_320000.out).2.2 | (with_reducible refine Kd.C_alloc ?_ _) | (with_reducible refine Kd.C_drewN ?_ _) | (with_reducible refine Kd.C_drew ?_))); (case side2 => exact (Kd.R_reads' HO_320000.out).2.1); rintro e w20 ⟨v322, rfl, ho0, hb⟩; refine ⟨_, rfl, ?_⟩; have n0_ := Aside0.mk (Kd.R_below (by (with_reducible repeat (first | apply Kd.R_alloc | apply Kd.R_drewN | apply Kd.R_drew)); exact HO_320000.out) hb); have n1_ := Aside0.mk (Kd.R_lower ho0 (below_size ax144)); have n2_ := Aside0.mk (blk_below (g := gb314) (o := .cells #[.string a0_0, .string a0_1, .int .i64 a0_2] 26 (0, 0)) ax142 hb); have n3_ := Aside0.mk (blk_below (g := gb319) (o := .cells #[.slice Ao8 t315.length co8] 38 (0, 0)) (by (with_reducible repeat (first | refine blk_drewN ?_ _ | refine blk_drew ?_ | refine blk_alloc ?_ _)); exact BK319.out) hb); have n4_ := Aside0.mk (below_step ax144 hb); clear HO_320000; clear BK314; clear BK319; clear HB; have HO_320000 := n0_; have HO323 := n1_; have BK314 := n2_; have BK319 := n3_; have HB := n4_; clear n0_ n1_ n2_ n3_ n4_; (try clear hb); (try clear hb2); (try clear hk); (try clear hi); (try clear ho0); have hcz21_0 : w20.cell? ⟨gb314, 0, none⟩ = some (.string a0_0) := (blk_cell BK314.out 0).trans rfl; have hcz21_1 : w20.cell? ⟨gb314, 1, none⟩ = some (.string a0_1) := (blk_cell BK314.out 1).trans rfl; have hcz21_2 : w20.cell? ⟨gb314, 2, none⟩ = some (.int .i64 a0_2) := (blk_cell BK314.out 2).trans rfl; have hfz21_0 := blk_frozen BK314.out 0; have hfz21_1 := blk_frozen BK314.out 1; have hfz21_2 := blk_frozen BK314.out 2; obtain ⟨Ao22, co22, eo22⟩ := Kd.R_slice HO323.out; subst eo22) | ((with_reducible refine gate_callee (f := 18) rfl ?_); refine goesL_ (some 28) rfl rfl Tryd.func18 (by kernel_rfl) rfl #[.slice Ao22 t321.length co22, .string a0_1] rfl ax24 ?_; (with_reducible refine (slices_Contains_string_string.calls kj2 _ _ t321 a0_1 t325 _ ?side1 ?side2 A17.out).mono ?_); (case side1 => repeat (first | exact (Kd.R_reads' HO323.out).2.2 | (with_reducible refine Kd.C_alloc ?_ _) | (with_reducible refine Kd.C_drewN ?_ _) | (with_reducible refine Kd.C_drew ?_))); (case side2 => exact (Kd.R_reads' HO323.out).2.1); rintro e w' ⟨rfl, ⟨nd, rfl⟩⟩; refine ⟨_, rfl, ?_⟩))
    go_ret
    exact ⟨by first | rfl | (simp [errW_none, errW_some] <;> rfl) | (simp [*, errW_none, errW_some] <;> rfl), by repeat (first | (with_reducible first | exact HB.out | apply below_alloc | apply pw_below_drewN | apply below_drew1 | refine below_set ?_ GE314.out | refine below_set ?_ GE319.out) | exact HB.out)⟩

/-! ### impl_IsBook: function 7 -/
def impl_IsBook.f (k : Nat) (a0_0 : ByteArray) (a0_1 : ByteArray) (a0_2 : Int) : Option (Bool) := (impl_Book_isBook.f k a0_0 a0_1 a0_2).bind fun t327 => (some t327)
theorem impl_IsBook.mono : ∀ a0 a1 a2 k, LeO (impl_IsBook.f k a0 a1 a2) (impl_IsBook.f (k + 1) a0 a1 a2) := by
 intro a0 a1 a2 k
 unfold impl_IsBook.f
 repeat' first
   | (with_reducible exact impl_Book_isBook.mono _ _ _ _)
   | (with_reducible exact LeO.refl _)
   | (with_reducible exact LeO.none _)
   | (with_reducible refine LeO.ite ?_ ?_)
   | (with_reducible refine LeO.bind ?_ (fun _ => ?_))
   | exact impl_Book_isBook.mono _ _ _ _
   | exact LeO.none _
   | refine LeO.ite ?_ ?_
   | refine LeO.bind ?_ (fun _ => ?_)
set_option maxHeartbeats 8000000 in
set_option maxRecDepth 100000 in
theorem impl_IsBook.calls (k : Nat) (a0_0 : ByteArray) (a0_1 : ByteArray) (a0_2 : Int) (r : Bool) (w : World) (hG : GL w) (h : impl_IsBook.f k a0_0 a0_1 a0_2 = some r) :
  Calls Tryd.prog 7 #[.agg #[.string a0_0, .string a0_1, .int .i64 a0_2]] w fun e w' => e = .returned (.bool r) ∧ Below w.heap.size w w' := by
 have hu26 := Tryd.underlying26; have HB := Aside0.mk (Below.refl w.heap.size w); have HG := Aside0.mk hG; clear hG
 have H : ((impl_Book_isBook.f k a0_0 a0_1 a0_2).bind fun t327 => (some t327)) = some r := h
 clear h; replace H := Option.bind_eq_some_iff.mp H
 obtain ⟨t327, A20, H⟩ := H
 replace H : (some t327) = some r := H
 have A2 := Aside0.mk A20; clear A20
 obtain rfl := Option.some.inj H
 go_enter Tryd.func7, Tryd.ntmps7
 go_wp2_with (first | ((with_reducible refine gate_dst (N := 1) rfl ?_); refine box_event ?hg (N := 1) ?hd (cs := #[.string a0_0, .string a0_1, .int .i64 a0_2]) (t := 26) ?hr ?_; (case hd => rfl); (case hg => rfl); (case hr => exact ax12); intro gb326 hg w3 hbox hb; have n0_ := Aside0.mk (below_step ax13 hb); have n1_ := Aside0.mk (hbox); have n2_ := Aside0.mk ((ax14 : w.heap.size ≤ gb326)); have n3_ := Aside0.mk ((ax14 : w.heap.size ≤ gb326)); clear HB; have HB := n0_; have BK326 := n1_; have GW326 := n2_; have GE326 := n3_; clear n0_ n1_ n2_ n3_; clear hb hbox hg; have hcz4_0 : w3.cell? ⟨gb326, 0, none⟩ = some (.string a0_0) := (blk_cell BK326.out 0).trans rfl; have hcz4_1 : w3.cell? ⟨gb326, 1, none⟩ = some (.string a0_1) := (blk_cell BK326.out 1).trans rfl; have hcz4_2 : w3.cell? ⟨gb326, 2, none⟩ = some (.int .i64 a0_2) := (blk_cell BK326.out 2).trans rfl; have hfz4_0 := blk_frozen BK326.out 0; have hfz4_1 := blk_frozen BK326.out 1; have hfz4_2 := blk_frozen BK326.out 2) | ((with_reducible refine gate_callee (f := 9) rfl ?_); refine goesL_ (some 4) rfl rfl Tryd.func9 (by kernel_rfl) rfl #[.agg #[.string a0_0, .string a0_1, .int .i64 a0_2]] rfl ax24 ?_; (with_reducible refine (impl_Book_isBook.calls k a0_0 a0_1 a0_2 t327 _ ?side1 A2.out).mono ?_); (case side1 => exact GL.below HG.out ax145); rintro e w5 ⟨rfl, hb⟩; refine ⟨_, rfl, ?_⟩; have n0_ := Aside0.mk (blk_below (g := gb326) (o := .cells #[.string a0_0, .string a0_1, .int .i64 a0_2] 26 (0, 0)) (by (with_reducible repeat (first | refine blk_drewN ?_ _ | refine blk_drew ?_ | refine blk_alloc ?_ _)); exact BK326.out) hb); have n1_ := Aside0.mk (below_step ax145 hb); clear BK326; clear HB; have BK326 := n0_; have HB := n1_; clear n0_ n1_; (try clear hb); (try clear hb2); (try clear hk); (try clear hi)))
 go_ret
 exact ⟨by first | rfl | (simp [errW_none, errW_some] <;> rfl) | (simp [*, errW_none, errW_some] <;> rfl), by repeat (first | (with_reducible first | exact HB.out | apply below_alloc | apply pw_below_drewN | apply below_drew1 | refine below_set ?_ GE326.out) | exact HB.out)⟩

/-! ### laws_FnExactIsBook: function 3 -/
def laws_FnExactIsBook.f (k : Nat) (a0_0 : ByteArray) (a0_1 : ByteArray) (a0_2 : Int) : Option (Bool) := (laws_szBook.f a0_0 a0_1 a0_2 1048576).bind fun t329 => (if t329 < 0 then (some true) else ((laws_toBook.f a0_0 a0_1 a0_2).bind fun bt330 => ((spec_IsBook.f k bt330.1 bt330.2.1 bt330.2.2).bind fun t333 => ((laws_toBook.f a0_0 a0_1 a0_2).bind fun bt334 => ((impl_IsBook.f k bt334.1 bt334.2.1 bt334.2.2).bind fun t337 => (if (t337 != t333) = true then (some false) else (some true)))))))
theorem laws_FnExactIsBook.mono : ∀ a0 a1 a2 k, LeO (laws_FnExactIsBook.f k a0 a1 a2) (laws_FnExactIsBook.f (k + 1) a0 a1 a2) := by
 intro a0 a1 a2 k
 unfold laws_FnExactIsBook.f
 repeat' first
   | (with_reducible exact impl_IsBook.mono _ _ _ _)
   | (with_reducible exact spec_IsBook.mono _ _ _ _)
   | (with_reducible exact LeO.refl _)
   | (with_reducible exact LeO.none _)
   | (with_reducible refine LeO.ite ?_ ?_)
   | (with_reducible refine LeO.bind ?_ (fun _ => ?_))
   | exact impl_IsBook.mono _ _ _ _
   | exact spec_IsBook.mono _ _ _ _
   | exact LeO.none _
   | refine LeO.ite ?_ ?_
   | refine LeO.bind ?_ (fun _ => ?_)
set_option maxHeartbeats 8000000 in
set_option maxRecDepth 100000 in
theorem laws_FnExactIsBook.calls (k : Nat) (a0_0 : ByteArray) (a0_1 : ByteArray) (a0_2 : Int) (r : Bool) (w : World) (hG : GL w) (h : laws_FnExactIsBook.f k a0_0 a0_1 a0_2 = some r) (hr_ : r = true) :
  Calls Tryd.prog 3 #[.agg #[.string a0_0, .string a0_1, .int .i64 a0_2]] w fun e w' => e = .returned (.bool r) ∧ Below w.heap.size w w' := by
 have hu23 := Tryd.underlying23; have HB := Aside0.mk (Below.refl w.heap.size w); have HG := Aside0.mk hG; clear hG; have HRT := Aside0.mk hr_; clear hr_
 have H : ((laws_szBook.f a0_0 a0_1 a0_2 1048576).bind fun t329 => (if t329 < 0 then (some true) else ((laws_toBook.f a0_0 a0_1 a0_2).bind fun bt330 => ((spec_IsBook.f k bt330.1 bt330.2.1 bt330.2.2).bind fun t333 => ((laws_toBook.f a0_0 a0_1 a0_2).bind fun bt334 => ((impl_IsBook.f k bt334.1 bt334.2.1 bt334.2.2).bind fun t337 => (if (t337 != t333) = true then (some false) else (some true)))))))) = some r := h
 clear h; replace H := Option.bind_eq_some_iff.mp H
 obtain ⟨t329, A20, H⟩ := H
 replace H : (if t329 < 0 then (some true) else ((laws_toBook.f a0_0 a0_1 a0_2).bind fun bt330 => ((spec_IsBook.f k bt330.1 bt330.2.1 bt330.2.2).bind fun t333 => ((laws_toBook.f a0_0 a0_1 a0_2).bind fun bt334 => ((impl_IsBook.f k bt334.1 bt334.2.1 bt334.2.2).bind fun t337 => (if (t337 != t333) = true then (some false) else (some true))))))) = some r := H
 have A2 := Aside0.mk A20; clear A20
 by_cases c3 : t329 < 0
 ·rw [if_pos c3] at H
  have c3b0 : decide (t329 < 0) = true := decide_eq_true c3
  clear c3
  obtain rfl := Option.some.inj H
  go_enter Tryd.func3, Tryd.ntmps3
  go_wp2_with (first | ((with_reducible refine gate_dst (N := 1) rfl ?_); refine box_event ?hg (N := 1) ?hd (cs := #[.string a0_0, .string a0_1, .int .i64 a0_2]) (t := 23) ?hr ?_; (case hd => rfl); (case hg => rfl); (case hr => exact ax12); intro gb328 hg w4 hbox hb; have n0_ := Aside0.mk (below_step ax13 hb); have n1_ := Aside0.mk (hbox); have n2_ := Aside0.mk ((ax14 : w.heap.size ≤ gb328)); have n3_ := Aside0.mk ((ax14 : w.heap.size ≤ gb328)); clear HB; have HB := n0_; have BK328 := n1_; have GW328 := n2_; have GE328 := n3_; clear n0_ n1_ n2_ n3_; clear hb hbox hg; have hcz5_0 : w4.cell? ⟨gb328, 0, none⟩ = some (.string a0_0) := (blk_cell BK328.out 0).trans rfl; have hcz5_1 : w4.cell? ⟨gb328, 1, none⟩ = some (.string a0_1) := (blk_cell BK328.out 1).trans rfl; have hcz5_2 : w4.cell? ⟨gb328, 2, none⟩ = some (.int .i64 a0_2) := (blk_cell BK328.out 2).trans rfl; have hfz5_0 := blk_frozen BK328.out 0; have hfz5_1 := blk_frozen BK328.out 1; have hfz5_2 := blk_frozen BK328.out 2) | ((with_reducible refine gate_callee (f := 4) rfl ?_); refine goesL_ (some 8) rfl rfl Tryd.func4 (by kernel_rfl) rfl #[.agg #[.string a0_0, .string a0_1, .int .i64 a0_2], .int .i64 1048576] rfl ax24 ?_; (with_reducible refine (laws_szBook.calls a0_0 a0_1 a0_2 1048576 t329 _ A2.out).mono ?_); rintro e w6 ⟨rfl, hb⟩; refine ⟨_, rfl, ?_⟩; have n0_ := Aside0.mk (blk_below (g := gb328) (o := .cells #[.string a0_0, .string a0_1, .int .i64 a0_2] 23 (0, 0)) ax146 hb); have n1_ := Aside0.mk (below_step ax147 hb); clear BK328; clear HB; have BK328 := n0_; have HB := n1_; clear n0_ n1_; (try clear hb); (try clear hb2); (try clear hk); (try clear hi)))
  go_ret
  exact ⟨by first | rfl | (simp [errW_none, errW_some] <;> rfl) | (simp [*, errW_none, errW_some] <;> rfl), by repeat (first | (with_reducible first | exact HB.out | apply below_alloc | apply pw_below_drewN | apply below_drew1 | refine below_set ?_ GE328.out) | exact HB.out)⟩
 ·rw [if_neg c3] at H
  have c3b0 : decide (t329 < 0) = false := decide_eq_false c3
  clear c3; replace H := Option.bind_eq_some_iff.mp H
  obtain ⟨⟨t330, t331, t332⟩, A70, H⟩ := H
  replace H : ((spec_IsBook.f k t330 t331 t332).bind fun t333 => ((laws_toBook.f a0_0 a0_1 a0_2).bind fun bt334 => ((impl_IsBook.f k bt334.1 bt334.2.1 bt334.2.2).bind fun t337 => (if (t337 != t333) = true then (some false) else (some true))))) = some r := H
  have A7 := Aside0.mk A70; clear A70; replace H := Option.bind_eq_some_iff.mp H
  obtain ⟨t333, A80, H⟩ := H
  replace H : ((laws_toBook.f a0_0 a0_1 a0_2).bind fun bt334 => ((impl_IsBook.f k bt334.1 bt334.2.1 bt334.2.2).bind fun t337 => (if (t337 != t333) = true then (some false) else (some true)))) = some r := H
  have A8 := Aside0.mk A80; clear A80; replace H := Option.bind_eq_some_iff.mp H
  obtain ⟨⟨t334, t335, t336⟩, A90, H⟩ := H
  replace H : ((impl_IsBook.f k t334 t335 t336).bind fun t337 => (if (t337 != t333) = true then (some false) else (some true))) = some r := H
  have A9 := Aside0.mk A90; clear A90; replace H := Option.bind_eq_some_iff.mp H
  obtain ⟨t337, A100, H⟩ := H
  replace H : (if (t337 != t333) = true then (some false) else (some true)) = some r := H
  have A10 := Aside0.mk A100; clear A100
  by_cases c11 : (t337 != t333) = true
  ·rw [if_pos c11] at H
   have c11b0 : (t337 != t333) = true := c11
   (try (have c11b1 : decide (t337 = t333) = false := by simpa using c11))
   (try (have c11b2 : (t337 == t333) = false := by simpa using c11))
   (try (have c11b3 : ¬ (t337 = t333) := by simpa using c11))
   clear c11
   exact absurd ((Option.some.inj H).trans HRT.out) (by decide)
  ·rw [if_neg c11] at H
   have c11b0 : (t337 != t333) = false := by simpa using c11
   (try (have c11b1 : decide (t337 = t333) = true := by simpa using c11))
   (try (have c11b2 : (t337 == t333) = true := by simpa using c11))
   clear c11
   obtain rfl := Option.some.inj H
   go_enter Tryd.func3, Tryd.ntmps3
   go_wp2_with (first | ((with_reducible refine gate_dst (N := 1) rfl ?_); refine box_event ?hg (N := 1) ?hd (cs := #[.string a0_0, .string a0_1, .int .i64 a0_2]) (t := 23) ?hr ?_; (case hd => rfl); (case hg => rfl); (case hr => exact ax12); intro gb328 hg w12 hbox hb; have n0_ := Aside0.mk (below_step ax13 hb); have n1_ := Aside0.mk (hbox); have n2_ := Aside0.mk ((ax14 : w.heap.size ≤ gb328)); have n3_ := Aside0.mk ((ax14 : w.heap.size ≤ gb328)); clear HB; have HB := n0_; have BK328 := n1_; have GW328 := n2_; have GE328 := n3_; clear n0_ n1_ n2_ n3_; clear hb hbox hg; have hcz13_0 : w12.cell? ⟨gb328, 0, none⟩ = some (.string a0_0) := (blk_cell BK328.out 0).trans rfl; have hcz13_1 : w12.cell? ⟨gb328, 1, none⟩ = some (.string a0_1) := (blk_cell BK328.out 1).trans rfl; have hcz13_2 : w12.cell? ⟨gb328, 2, none⟩ = some (.int .i64 a0_2) := (blk_cell BK328.out 2).trans rfl; have hfz13_0 := blk_frozen BK328.out 0; have hfz13_1 := blk_frozen BK328.out 1; have hfz13_2 := blk_frozen BK328.out 2) | ((with_reducible refine gate_callee (f := 4) rfl ?_); refine goesL_ (some 8) rfl rfl Tryd.func4 (by kernel_rfl) rfl #[.agg #[.string a0_0, .string a0_1, .int .i64 a0_2], .int .i64 1048576] rfl ax24 ?_; (with_reducible refine (laws_szBook.calls a0_0 a0_1 a0_2 1048576 t329 _ A2.out).mono ?_); rintro e w14 ⟨rfl, hb⟩; refine ⟨_, rfl, ?_⟩; have n0_ := Aside0.mk (blk_below (g := gb328) (o := .cells #[.string a0_0, .string a0_1, .int .i64 a0_2] 23 (0, 0)) ax146 hb); have n1_ := Aside0.mk (below_step ax147 hb); clear BK328; clear HB; have BK328 := n0_; have HB := n1_; clear n0_ n1_; (try clear hb); (try clear hb2); (try clear hk); (try clear hi); have hcz15_0 : w14.cell? ⟨gb328, 0, none⟩ = some (.string a0_0) := (blk_cell BK328.out 0).trans rfl; have hcz15_1 : w14.cell? ⟨gb328, 1, none⟩ = some (.string a0_1) := (blk_cell BK328.out 1).trans rfl; have hcz15_2 : w14.cell? ⟨gb328, 2, none⟩ = some (.int .i64 a0_2) := (blk_cell BK328.out 2).trans rfl; have hfz15_0 := blk_frozen BK328.out 0; have hfz15_1 := blk_frozen BK328.out 1; have hfz15_2 := blk_frozen BK328.out 2) | ((with_reducible refine gate_callee (f := 6) rfl ?_); refine goesL_ (some 12) rfl rfl Tryd.func6 (by kernel_rfl) rfl #[.agg #[.string a0_0, .string a0_1, .int .i64 a0_2]] rfl ax24 ?_; (with_reducible refine (laws_toBook.calls a0_0 a0_1 a0_2 t330 t331 t332 _ A7.out).mono ?_); rintro e w16 ⟨rfl, hb⟩; refine ⟨_, rfl, ?_⟩; have n0_ := Aside0.mk (blk_below (g := gb328) (o := .cells #[.string a0_0, .string a0_1, .int .i64 a0_2] 23 (0, 0)) ax146 hb); have n1_ := Aside0.mk (below_step ax147 hb); clear BK328; clear HB; have BK328 := n0_; have HB := n1_; clear n0_ n1_; (try clear hb); (try clear hb2); (try clear hk); (try clear hi)) | ((with_reducible refine gate_callee (f := 5) rfl ?_); refine goesL_ (some 13) rfl rfl Tryd.func5 (by kernel_rfl) rfl #[.agg #[.string t330, .string t331, .int .i64 t332]] rfl ax24 ?_; (with_reducible refine (spec_IsBook.calls k t330 t331 t332 t333 _ A8.out).mono ?_); rintro e w17 ⟨rfl, hb⟩; refine ⟨_, rfl, ?_⟩; have n0_ := Aside0.mk (blk_below (g := gb328) (o := .cells #[.string a0_0, .string a0_1, .int .i64 a0_2] 23 (0, 0)) ax146 hb); have n1_ := Aside0.mk (below_step ax147 hb); clear BK328; clear HB; have BK328 := n0_; have HB := n1_; clear n0_ n1_; (try clear hb); (try clear hb2); (try clear hk); (try clear hi); have hcz18_0 : w17.cell? ⟨gb328, 0, none⟩ = some (.string a0_0) := (blk_cell BK328.out 0).trans rfl; have hcz18_1 : w17.cell? ⟨gb328, 1, none⟩ = some (.string a0_1) := (blk_cell BK328.out 1).trans rfl; have hcz18_2 : w17.cell? ⟨gb328, 2, none⟩ = some (.int .i64 a0_2) := (blk_cell BK328.out 2).trans rfl; have hfz18_0 := blk_frozen BK328.out 0; have hfz18_1 := blk_frozen BK328.out 1; have hfz18_2 := blk_frozen BK328.out 2) | ((with_reducible refine gate_callee (f := 6) rfl ?_); refine goesL_ (some 15) rfl rfl Tryd.func6 (by kernel_rfl) rfl #[.agg #[.string a0_0, .string a0_1, .int .i64 a0_2]] rfl ax24 ?_; (with_reducible refine (laws_toBook.calls a0_0 a0_1 a0_2 t334 t335 t336 _ A9.out).mono ?_); rintro e w19 ⟨rfl, hb⟩; refine ⟨_, rfl, ?_⟩; have n0_ := Aside0.mk (blk_below (g := gb328) (o := .cells #[.string a0_0, .string a0_1, .int .i64 a0_2] 23 (0, 0)) ax146 hb); have n1_ := Aside0.mk (below_step ax147 hb); clear BK328; clear HB; have BK328 := n0_; have HB := n1_; clear n0_ n1_; (try clear hb); (try clear hb2); (try clear hk); (try clear hi)) | ((with_reducible refine gate_callee (f := 7) rfl ?_); refine goesL_ (some 16) rfl rfl Tryd.func7 (by kernel_rfl) rfl #[.agg #[.string t334, .string t335, .int .i64 t336]] rfl ax24 ?_; (with_reducible refine (impl_IsBook.calls k t334 t335 t336 t337 _ ?side1 A10.out).mono ?_); (case side1 => exact GL.below HG.out ax147); rintro e w20 ⟨rfl, hb⟩; refine ⟨_, rfl, ?_⟩; have n0_ := Aside0.mk (blk_below (g := gb328) (o := .cells #[.string a0_0, .string a0_1, .int .i64 a0_2] 23 (0, 0)) ax146 hb); have n1_ := Aside0.mk (below_step ax147 hb); clear BK328; clear HB; have BK328 := n0_; have HB := n1_; clear n0_ n1_; (try clear hb); (try clear hb2); (try clear hk); (try clear hi)))
   go_ret
   exact ⟨by first | rfl | (simp [errW_none, errW_some] <;> rfl) | (simp [*, errW_none, errW_some] <;> rfl), by repeat (first | (with_reducible first | exact HB.out | apply below_alloc | apply pw_below_drewN | apply below_drew1 | refine below_set ?_ GE328.out) | exact HB.out)⟩

end Go.Proofs.YtmecniejpoopfaaDoor.X

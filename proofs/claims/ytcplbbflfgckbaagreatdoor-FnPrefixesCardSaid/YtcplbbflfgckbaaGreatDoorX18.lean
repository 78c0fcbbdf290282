-- By gen.py (the session's own program over the kit's printer): functions of the program, each with its contract. Lean checks it.
import Derived.Test.YtcplbbflfgckbaaGreatDoorX0
import Derived.Test.YtcplbbflfgckbaaGreatDoorX10
import Derived.Test.YtcplbbflfgckbaaGreatDoorX14
import Derived.Test.YtcplbbflfgckbaaGreatDoorX15
namespace Go.Proofs.YtcplbbflfgckbaaGreatDoor.X
open Go.RowKit Go.Proofs.YtcplbbflfgckbaaGreatDoorW.PrintWords Go.Proofs.YtcplbbflfgckbaaGreatDoorW.PrintLast Go.Proofs.YtcplbbflfgckbaaGreatDoorW.PrintMore
attribute [local go_sem] max2_int min2_int max_two min_two max_three min_three max_four min_four   -- for this text's walks alone
set_option linter.unusedVariables false
set_option linter.unusedSimpArgs false

/-! ### slices_Contains_string_string: function 190 -/
def slices_Contains_string_string.f (k : Nat) (l0 : List ByteArray) (a1 : ByteArray) : Option (Bool) := (slices_Index_string_string.f k l0 a1).bind fun t486 => (some (decide (t486 ≥ 0)))
theorem slices_Contains_string_string.mono : ∀ a0 a1 k, LeO (slices_Contains_string_string.f k a0 a1) (slices_Contains_string_string.f (k + 1) a0 a1) := by
 intro a0 a1 k
 unfold slices_Contains_string_string.f
 repeat' first | (with_reducible first | exact slices_Index_string_string.mono .. | exact LeO.refl _ | exact LeO.none _ | refine LeO.ite ?_ ?_ | refine LeO.bind ?_ (fun _ => ?_)) | exact slices_Index_string_string.mono .. | exact LeO.none _ | refine LeO.ite ?_ ?_ | refine LeO.bind ?_ (fun _ => ?_)
set_option maxHeartbeats 8000000 in
set_option maxRecDepth 100000 in
theorem slices_Contains_string_string.calls (k : Nat) (A0 : Option Addr) (c0 : Nat) (l0 : List ByteArray) (a1 : ByteArray) (r : Bool) (w : World) (hr0 : Kd.C Kd.string w A0 l0.length l0) (hc0 : l0.length ≤ c0) (h : slices_Contains_string_string.f k l0 a1 = some r) :
  Calls Tryz.prog 190 #[.slice A0 l0.length c0, .string a1] w fun e w' => e = .returned (.bool r) ∧ Drawn0 w w' := by
 have HR0 := Aside0.mk hr0; have HC0 := Aside0.mk hc0; clear hr0 hc0
 have H : ((slices_Index_string_string.f k l0 a1).bind fun t486 => (some (decide (t486 ≥ 0)))) = some r := h
 clear h
 obtain ⟨t486, A3, H⟩ := bs H
 obtain rfl := Option.some.inj H
 go_enter Tryz.func190, Tryz.ntmps190
 go_wp2_with (first | ((with_reducible refine gd 7 167 ?_); refine gc 7 Tryz.func167 #[.slice A0 l0.length c0, .string a1] (slices_Index_string_string.calls k _ _ l0 a1 t486 _ ax239 (HC0.out) A3.out) ?_; rintro e w' ⟨rfl, ⟨nd, rfl⟩⟩; refine ⟨_, rfl, ?_⟩))
 go_ret
 exact ⟨ax30, by repeat (first | exact Drawn0.refl _ | apply Drawn0.step)⟩

/-! ### impl_Trie_has: function 111 -/
def impl_Trie_has.f (k : Nat) (l0_0 : List (S74)) (a1 : ByteArray) : Option (Bool) := (impl_Trie_words.f k l0_0).bind fun t488 => ((slices_Contains_string_string.f k t488 a1).bind fun t491 => (some t491))
theorem impl_Trie_has.mono : ∀ a0 a1 k, LeO (impl_Trie_has.f k a0 a1) (impl_Trie_has.f (k + 1) a0 a1) := by
 intro a0 a1 k
 unfold impl_Trie_has.f
 repeat' first | (with_reducible first | exact impl_Trie_words.mono .. | exact slices_Contains_string_string.mono .. | exact LeO.refl _ | exact LeO.none _ | refine LeO.ite ?_ ?_ | refine LeO.bind ?_ (fun _ => ?_)) | exact impl_Trie_words.mono .. | exact slices_Contains_string_string.mono .. | exact LeO.none _ | refine LeO.ite ?_ ?_ | refine LeO.bind ?_ (fun _ => ?_)
set_option maxHeartbeats 8000000 in
set_option maxRecDepth 100000 in
theorem impl_Trie_has.calls (k : Nat) (A0_0 : Option Addr) (c0_0 : Nat) (l0_0 : List (S74)) (a1 : ByteArray) (r : Bool) (w : World) (hr0_0 : Kd.C k74 w A0_0 l0_0.length l0_0) (hc0_0 : l0_0.length ≤ c0_0) (h : impl_Trie_has.f k l0_0 a1 = some r) :
  Calls Tryz.prog 111 #[.agg #[.slice A0_0 l0_0.length c0_0], .string a1] w fun e w' => e = .returned (.bool r) ∧ Below w.heap.size w w' := by
 have hu26 := Tryz.underlying26; have HR0_0 := Aside0.mk hr0_0; have HC0_0 := Aside0.mk hc0_0; clear hr0_0 hc0_0; have HB := Aside0.mk (Below.refl w.heap.size w)
 have H : ((impl_Trie_words.f k l0_0).bind fun t488 => ((slices_Contains_string_string.f k t488 a1).bind fun t491 => (some t491))) = some r := h
 clear h
 obtain ⟨t488, A3, H⟩ := bs H
 obtain ⟨t491, A4, H⟩ := bs H
 obtain rfl := Option.some.inj H
 go_enter Tryz.func111, Tryz.ntmps111
 go_wp2_with (first | ((with_reducible refine gate_dst (N := 2) rfl ?_); refine box_event ?hg (N := 2) ?hd (cs := #[.slice A0_0 l0_0.length c0_0]) (t := 26) ?hr ?_; (case hd => rfl); (case hg => rfl); (case hr => exact ax31); intro gb487 hg w5 hbox hb; have BK487 := Aside0.mk (hbox); have GW487 := uG hg HB; have GE487 := uG hg HB; replace HB := uB HB hb; clear hb hbox hg; have hcz6_0 := bc (.slice A0_0 l0_0.length c0_0) BK487 0; have hfz6_0 := blk_frozen BK487.out 0) | ((with_reducible refine gd 6 125 ?_); refine gc 6 Tryz.func125 #[.agg #[.slice A0_0 l0_0.length c0_0]] (impl_Trie_words.calls k _ _ l0_0 t488 _ ax142 (HC0_0.out) A3.out) ?_; rintro e w7 ⟨v489, rfl, ho0, hb⟩; refine ⟨_, rfl, ?_⟩; have HO490 := Aside0.mk (Kd.R_lower ho0 (below_size ax240)); replace BK487 := ub BK487 hb; replace HB := Aside0.mk (below_step ax240 hb); (try clear hb); (try clear hb2); (try clear hk); (try clear hi); (try clear ho0); obtain ⟨Ao8, co8, eo8⟩ := Kd.R_slice HO490.out; subst eo8) | ((with_reducible refine gd 8 190 ?_); refine gc 8 Tryz.func190 #[.slice Ao8 t488.length co8, .string a1] (slices_Contains_string_string.calls k _ _ t488 a1 t491 _ (by repeat (first | exact (Kd.R_reads' HO490.out).2.2 | (with_reducible refine Kd.C_alloc ?_ _) | (with_reducible refine Kd.C_drewN ?_ _) | (with_reducible refine Kd.C_drew ?_))) ((Kd.R_reads' HO490.out).2.1) A4.out) ?_; rintro e w' ⟨rfl, ⟨nd, rfl⟩⟩; refine ⟨_, rfl, ?_⟩))
 go_ret
 exact ⟨ax26, by repeat (first | (with_reducible first | exact HB.out | apply below_alloc | apply pw_below_drewN | apply below_drew1 | refine below_set ?_ GE487.out) | exact HB.out)⟩

/-! ### impl_CountWords: function 22 -/
def impl_CountWords.f (k : Nat) (l0_0 : List (S74)) : Option (Int × Bool) := (impl_isTrie.f k l0_0).bind fun t639 => (if t639 = true then ((impl_Trie_words.f k l0_0).bind fun t640 => (some ((t640.length : Int), true))) else (some (0, false)))
theorem impl_CountWords.mono : ∀ a0 k, LeO (impl_CountWords.f k a0) (impl_CountWords.f (k + 1) a0) := by
 intro a0 k
 unfold impl_CountWords.f
 repeat' first | (with_reducible first | exact impl_Trie_words.mono .. | exact impl_isTrie.mono .. | exact LeO.refl _ | exact LeO.none _ | refine LeO.ite ?_ ?_ | refine LeO.bind ?_ (fun _ => ?_)) | exact impl_Trie_words.mono .. | exact impl_isTrie.mono .. | exact LeO.none _ | refine LeO.ite ?_ ?_ | refine LeO.bind ?_ (fun _ => ?_)
set_option maxHeartbeats 8000000 in
set_option maxRecDepth 100000 in
theorem impl_CountWords.calls (k : Nat) (A0_0 : Option Addr) (c0_0 : Nat) (l0_0 : List (S74)) (r1 : Int) (r2 : Bool) (w : World) (hr0_0 : Kd.C k74 w A0_0 l0_0.length l0_0) (hc0_0 : l0_0.length ≤ c0_0) (h : impl_CountWords.f k l0_0 = some (r1, r2)) :
  Calls Tryz.prog 22 #[.agg #[.slice A0_0 l0_0.length c0_0]] w fun e w' => e = .returned (.tuple #[.int .i64 r1, .bool r2]) ∧ Below w.heap.size w w' := by
 have hu26 := Tryz.underlying26; have HR0_0 := Aside0.mk hr0_0; have HC0_0 := Aside0.mk hc0_0; clear hr0_0 hc0_0; have HB := Aside0.mk (Below.refl w.heap.size w)
 have H : ((impl_isTrie.f k l0_0).bind fun t639 => (if t639 = true then ((impl_Trie_words.f k l0_0).bind fun t640 => (some ((t640.length : Int), true))) else (some (0, false)))) = some (r1, r2) := h
 clear h
 obtain ⟨t639, A2, H⟩ := bs H
 by_cases c3 : t639 = true
 ·subst c3
  rw [if_pos rfl] at H
  obtain ⟨t640, A4, H⟩ := bs H
  simp only [Option.some.injEq, Prod.mk.injEq] at H
  obtain ⟨rfl, rfl⟩ := H
  go_enter Tryz.func22, Tryz.ntmps22
  go_wp2_with (first | ((with_reducible refine gate_dst (N := 1) rfl ?_); refine box_event ?hg (N := 1) ?hd (cs := #[.slice A0_0 l0_0.length c0_0]) (t := 26) ?hr ?_; (case hd => rfl); (case hg => rfl); (case hr => exact ax31); intro gb638 hg w5 hbox hb; have BK638 := Aside0.mk (hbox); have GW638 := uG hg HB; have GE638 := uG hg HB; replace HB := uB HB hb; clear hb hbox hg; have hcz6_0 := bc (.slice A0_0 l0_0.length c0_0) BK638 0; have hfz6_0 := blk_frozen BK638.out 0) | ((with_reducible refine gd 5 124 ?_); refine gc 5 Tryz.func124 #[.agg #[.slice A0_0 l0_0.length c0_0]] (impl_isTrie.calls k _ _ l0_0 true _ ax142 (HC0_0.out) A2.out) ?_; rintro e w7 ⟨rfl, hb⟩; refine ⟨_, rfl, ?_⟩; replace BK638 := ub BK638 hb; replace HB := Aside0.mk (below_step ax241 hb); (try clear hb); (try clear hb2); (try clear hk); (try clear hi); have hcz8_0 := bc (.slice A0_0 l0_0.length c0_0) BK638 0; have hfz8_0 := blk_frozen BK638.out 0) | ((with_reducible refine gd 8 125 ?_); refine gc 8 Tryz.func125 #[.agg #[.slice A0_0 l0_0.length c0_0]] (impl_Trie_words.calls k _ _ l0_0 t640 _ ax142 (HC0_0.out) A4.out) ?_; rintro e w9 ⟨v641, rfl, ho0, hb⟩; refine ⟨_, rfl, ?_⟩; have HO642 := Aside0.mk (Kd.R_lower ho0 (below_size ax241)); replace BK638 := ub BK638 hb; replace HB := Aside0.mk (below_step ax241 hb); (try clear hb); (try clear hb2); (try clear hk); (try clear hi); (try clear ho0); obtain ⟨Ao10, co10, eo10⟩ := Kd.R_slice HO642.out; subst eo10))
  go_ret2
  exact ⟨ax26, by repeat (first | (with_reducible first | exact HB.out | apply below_alloc | apply pw_below_drewN | apply below_drew1 | refine below_set ?_ GE638.out) | exact HB.out)⟩
 ·replace c3 := Bool.eq_false_iff.mpr c3
  subst c3
  rw [if_neg (show ¬ (false = true) by decide)] at H
  simp only [Option.some.injEq, Prod.mk.injEq] at H
  obtain ⟨rfl, rfl⟩ := H
  go_enter Tryz.func22, Tryz.ntmps22
  go_wp2_with (first | ((with_reducible refine gate_dst (N := 1) rfl ?_); refine box_event ?hg (N := 1) ?hd (cs := #[.slice A0_0 l0_0.length c0_0]) (t := 26) ?hr ?_; (case hd => rfl); (case hg => rfl); (case hr => exact ax31); intro gb638 hg w11 hbox hb; have BK638 := Aside0.mk (hbox); have GW638 := uG hg HB; have GE638 := uG hg HB; replace HB := uB HB hb; clear hb hbox hg; have hcz12_0 := bc (.slice A0_0 l0_0.length c0_0) BK638 0; have hfz12_0 := blk_frozen BK638.out 0) | ((with_reducible refine gd 5 124 ?_); refine gc 5 Tryz.func124 #[.agg #[.slice A0_0 l0_0.length c0_0]] (impl_isTrie.calls k _ _ l0_0 false _ ax142 (HC0_0.out) A2.out) ?_; rintro e w13 ⟨rfl, hb⟩; refine ⟨_, rfl, ?_⟩; replace BK638 := ub BK638 hb; replace HB := Aside0.mk (below_step ax241 hb); (try clear hb); (try clear hb2); (try clear hk); (try clear hi)))
  go_ret2
  exact ⟨ax26, by repeat (first | (with_reducible first | exact HB.out | apply below_alloc | apply pw_below_drewN | apply below_drew1 | refine below_set ?_ GE638.out) | exact HB.out)⟩

end Go.Proofs.YtcplbbflfgckbaaGreatDoor.X


-- By gen.py (the session's own program over the kit's printer): functions of the program, each with its contract. Lean checks it.
import Derived.Test.YtcplbbflfgckbaaGreatDoorX0
import Derived.Test.YtcplbbflfgckbaaGreatDoorX10
import Derived.Test.YtcplbbflfgckbaaGreatDoorX15
namespace Go.Proofs.YtcplbbflfgckbaaGreatDoor.X
open Go.RowKit Go.Proofs.YtcplbbflfgckbaaGreatDoorW.PrintWords Go.Proofs.YtcplbbflfgckbaaGreatDoorW.PrintLast Go.Proofs.YtcplbbflfgckbaaGreatDoorW.PrintMore
attribute [local go_sem] max2_int min2_int max_two min_two max_three min_three max_four min_four   -- for this text's walks alone
set_option linter.unusedVariables false
set_option linter.unusedSimpArgs false

/-! ### stringslite_HasPrefix: function 215 -/
def stringslite_HasPrefix.f (a0 : ByteArray) (a1 : ByteArray) : Option (Bool) := if (a0.size : Int) ≥ (a1.size : Int) then (if 0 ≤ (a1.size : Int) then (if (a1.size : Int) ≤ (a0.size : Int) then (some ((a0.extract 0 a1.size).toList == a1.toList)) else (none)) else (none)) else (some false)
set_option maxHeartbeats 8000000 in
set_option maxRecDepth 100000 in
theorem stringslite_HasPrefix.calls (a0 : ByteArray) (a1 : ByteArray) (r : Bool) (w : World) (h : stringslite_HasPrefix.f a0 a1 = some r) :
  Calls Tryz.prog 215 #[.string a0, .string a1] w fun e w' => e = .returned (.bool r) ∧ Drawn0 w w' := by
 unfold stringslite_HasPrefix.f at h
 have H := h; clear h
 by_cases c3 : (a0.size : Int) ≥ (a1.size : Int)
 ·rw [if_pos c3] at H
  have c3b0 := decide_eq_true c3; have c3b1 : decide (a1.size ≤ a0.size) = true := decide_eq_true (Int.ofNat_le.mp c3); clear c3
  by_cases c4 : 0 ≤ (a1.size : Int)
  ·rw [if_pos c4] at H
   have c4b0 := eq_true c4; have c4b1 := decide_eq_true c4; clear c4
   by_cases c5 : (a1.size : Int) ≤ (a0.size : Int)
   ·rw [if_pos c5] at H
    have c5b0 := eq_true c5; have c5b1 := decide_eq_true c5; clear c5; obtain ⟨js6, hjs6⟩ : ∃ j_ : ByteArray, (a0.extract 0 a1.size) = j_ := ⟨_, rfl⟩; (first | rw [hjs6] at H | simp only [hjs6] at H); obtain rfl := Option.some.inj H
    go_enter Tryz.func215, Tryz.ntmps215
    go_wp2
    go_ret
    exact ⟨ax217, ax32⟩
   ·exact ax12
  ·exact ax1
 ·rw [if_neg c3] at H
  have c3b0 := decide_eq_false c3; have c3b1 : decide (a1.size ≤ a0.size) = false := decide_eq_false (fun h => c3 (Int.ofNat_le.mpr h)); clear c3; obtain rfl := Option.some.inj H
  go_enter Tryz.func215, Tryz.ntmps215
  go_wp2
  go_ret
  exact ⟨ax31, ax32⟩

/-! ### strings_HasPrefix: function 192 -/
def strings_HasPrefix.f (a0 : ByteArray) (a1 : ByteArray) : Option (Bool) := (stringslite_HasPrefix.f a0 a1).bind fun t492 => (some t492)
set_option maxHeartbeats 8000000 in
set_option maxRecDepth 100000 in
theorem strings_HasPrefix.calls (a0 : ByteArray) (a1 : ByteArray) (r : Bool) (w : World) (h : strings_HasPrefix.f a0 a1 = some r) :
  Calls Tryz.prog 192 #[.string a0, .string a1] w fun e w' => e = .returned (.bool r) ∧ Drawn0 w w' := by
 unfold strings_HasPrefix.f at h
 have H := h; clear h; obtain ⟨t492, A3, H⟩ := bs H; obtain rfl := Option.some.inj H
 go_enter Tryz.func192, Tryz.ntmps192
 go_wp2_with (first | ((with_reducible refine gd 7 215 ?_); refine gc 7 Tryz.func215 #[.string a0, .string a1] (stringslite_HasPrefix.calls a0 a1 t492 _ A3.out) ?_; rintro e w' ⟨rfl, ⟨nd, rfl⟩⟩; refine ⟨_, rfl, ?_⟩))
 go_ret
 exact ⟨ax31, ax32⟩

/-! ### impl_Trie_under_1: function 191: a contract of our own -/
def impl_Trie_under_1.f (a0 c0 : ByteArray) : Option Bool := some (!(decide (c0.size ≤ a0.size) && ((a0.extract 0 c0.size).toList == c0.toList)))
theorem impl_Trie_under_1.calls (a0 : ByteArray) (B : Nat) (c0 : ByteArray) (r : Bool) (w : World) (hc : w.cell? ⟨B, 0, none⟩ = some (.string c0)) (h : impl_Trie_under_1.f a0 c0 = some r) :
  Calls Tryz.prog 191 #[.string a0, .pointer (some ⟨B, 0, none⟩)] w fun e w' => e = .returned (.bool r) ∧ Drawn0 w w' := by
 obtain rfl := Option.some.inj h; clear h
 have hp : strings_HasPrefix.f a0 c0 = some (decide (c0.size ≤ a0.size) && ((a0.extract 0 c0.size).toList == c0.toList)) := by
  unfold strings_HasPrefix.f stringslite_HasPrefix.f
  by_cases hs : (a0.size : Int) ≥ (c0.size : Int)
  ·rw [if_pos hs, if_pos (by omega), if_pos (by omega), decide_eq_true (by omega)]; rfl
  ·rw [if_neg hs, decide_eq_false (by omega)]; rfl
 have HI := am hp; clear hp; generalize (decide (c0.size ≤ a0.size) && ((a0.extract 0 c0.size).toList == c0.toList)) = q at *
 go_enter Tryz.func191, Tryz.ntmps191
 go_wp2_with (go_at_call 192; refine (strings_HasPrefix.calls _ _ _ _ HI.out).mono ?_; rintro e w' ⟨rfl, ⟨nd, rfl⟩⟩)
 go_ret
 exact ⟨rfl, ⟨nd, rfl⟩⟩

/-! ### impl_Trie_under: function 112 -/
def impl_Trie_under.f (k : Nat) (l0_0 : List (S74)) (a1 : ByteArray) : Option (List ByteArray) := (impl_Trie_words.f k l0_0).bind fun t495 => ((slices_DeleteFunc_string_string.f t495 (fun z_ => impl_Trie_under_1.f z_ a1)).bind fun t498 => (some t498))
set_option maxHeartbeats 8000000 in
set_option maxRecDepth 100000 in
theorem impl_Trie_under.calls (k : Nat) (A0_0 : Option Addr) (c0_0 : Nat) (l0_0 : List (S74)) (a1 : ByteArray) (r : List ByteArray) (w : World) (hr0_0 : Kd.C k74 w A0_0 l0_0.length l0_0) (hc0_0 : l0_0.length ≤ c0_0) (h : impl_Trie_under.f k l0_0 a1 = some r) :
  Calls Tryz.prog 112 #[.agg #[.slice A0_0 l0_0.length c0_0], .string a1] w fun e w' => ∃ v0_ : Value, e = .returned (v0_) ∧ Kd.R Kd.string 9 w' w.heap.size (fun _ => True) v0_ r ∧ Below w.heap.size w w' := by
 have hu26 := Tryz.underlying26; have HR0_0 := am hr0_0; have HC0_0 := am hc0_0; clear hr0_0 hc0_0; have HB := am (Below.refl w.heap.size w)
 unfold impl_Trie_under.f at h
 have H := h; clear h; obtain ⟨t495, A3, H⟩ := bs H; obtain ⟨t498, A4, H⟩ := bs H; obtain rfl := Option.some.inj H
 go_enter Tryz.func112, Tryz.ntmps112
 go_wp2_with (first | ((with_reducible refine gate_dst (N := 2) rfl ?_); refine bx 2 #[.slice A0_0 l0_0.length c0_0] 26 ?_; intro gb493 hg w5 hbox hb; have BK493 := am (hbox); have GW493 := uG hg HB; have GE493 := uG hg HB; replace HB := uB HB hb; clear hb hbox hg) | ((with_reducible refine gate_dst (N := 3) rfl ?_); refine bx 3 #[.string a1] 9 ?_; intro gb494 hg w6 hbox hb; have BK494 := am (hbox); have GW494 := am ((ax218 : w.heap.size ≤ gb494)); have GE494 := am ((ax218 : w.heap.size ≤ gb494)); replace HB := am (below_step ax219 hb); have NB493_494 := uN hg BK493; have NB494_493 := uM hg BK493; replace BK493 := ub BK493 hb; clear hb hbox hg; have hnb7 := NB493_494.out; have hnc7 := NB494_493.out; have hcz8_0 := bc (.slice A0_0 l0_0.length c0_0) BK493 0; have hfz8_0 := blk_frozen BK493.out 0) | ((with_reducible refine gd 6 125 ?_); refine gc 6 Tryz.func125 #[.agg #[.slice A0_0 l0_0.length c0_0]] (impl_Trie_words.calls k _ _ l0_0 t495 _ ax145 (HC0_0.out) A3.out) ?_; rintro e w9 ⟨v496, rfl, ho0, hb⟩; refine ⟨_, rfl, ?_⟩; have HO497 := am (Kd.R_lower (Kd.R_newB ho0 (g := gb494) (o := .cells #[.string a1] 9 (0, 0)) ax220) (below_size ax221)); replace BK493 := ub BK493 hb; replace BK494 := ub BK494 hb; replace HB := am (below_step ax221 hb); (try clear hb ho0); obtain ⟨Ao10, co10, eo10⟩ := Kd.R_slice HO497.out; subst eo10) | ((with_reducible refine gd 8 151 ?_); refine gc 8 Tryz.func151 #[.slice Ao10 t495.length co10, .func (.func 191) #[] #[.pointer (some ⟨gb494, 0, none⟩)]] (slices_DeleteFunc_string_string.calls (fun k_ => some k_ = (.slice Ao10 t495.length co10 : Value).ownBlock) (.slice Ao10 t495.length co10) t495 (fun z_ => impl_Trie_under_1.f z_ a1) t498 w _ ax221 (Kd.R_tight rfl HO497.out) (enters_of Tryz.func191 (by kernel_rfl) rfl) (by intro x_ W_ hW_; have b0_ := blk_kept (g := gb494) (o := .cells #[.string a1] 9 (0, 0)) ax220 hW_ (fun hs_ => (Kd.R_away HO497.out (fun _ hk => hk.2)) hs_); exact ⟨_, rfl, impl_Trie_under_1.calls x_ gb494 a1 _ W_ ((blk_cell b0_ 0).trans rfl) rfl⟩) A4.out) ?_; rintro e w11 ⟨v499, rfl, ho0, hb, hkp⟩; refine ⟨_, rfl, ?_⟩; have n0_ := am (blk_kept (by (with_reducible repeat (first | refine blk_drewN ?_ _ | refine blk_drew ?_ | refine blk_alloc ?_ _)); exact BK493.out) hkp (fun hs_ => (fun e_ => (Kd.R_ne HO497.out BK493.out (by decide)) e_) hs_)); have n1_ := am (blk_kept ax220 hkp (fun hs_ => (fun e_ => (Kd.R_away HO497.out (fun _ hk => hk.2)) e_) hs_)); have n2_ := am (Kd.R_mono (ok' := fun k_ => k_ ≠ gb494) ho0 (fun k_ hk_ => Or.elim hk_ (fun hs_ => fun e_ => (Kd.R_away HO497.out (fun _ hk => hk.2)) (by rw [← e_]; exact hs_)) (fun hn_ => (Kd.freshB (g := gb494) (o := .cells #[.string a1] 9 (0, 0)) ax220 k_ hn_)))); have n3_ := am (hb); clear BK493; clear BK494; clear HB; clear HO497; have BK493 := n0_; have BK494 := n1_; have HO500 := n2_; have HB := n3_; clear n0_ n1_ n2_ n3_; (try clear hb hkp ho0)))
 go_ret
 exact ⟨_, ax27, (by (with_reducible repeat (first | apply Kd.R_alloc | apply Kd.R_drewN | apply Kd.R_drew)); exact Kd.R_mono HO500.out (fun _ hk => trivial)), ax221⟩

/-! ### spec_l2Begins: function 194 -/
def spec_l2Begins.f (a0 : ByteArray) (a1 : ByteArray) : Option (Bool) := if (a0.size : Int) ≥ (a1.size : Int) then (if 0 ≤ (a1.size : Int) then (if (a1.size : Int) ≤ (a0.size : Int) then (some ((a0.extract 0 a1.size).toList == a1.toList)) else (none)) else (none)) else (some false)
set_option maxHeartbeats 8000000 in
set_option maxRecDepth 100000 in
theorem spec_l2Begins.calls (a0 : ByteArray) (a1 : ByteArray) (r : Bool) (w : World) (h : spec_l2Begins.f a0 a1 = some r) :
  Calls Tryz.prog 194 #[.string a0, .string a1] w fun e w' => e = .returned (.bool r) ∧ Drawn0 w w' := by
 unfold spec_l2Begins.f at h
 have H := h; clear h
 by_cases c3 : (a0.size : Int) ≥ (a1.size : Int)
 ·rw [if_pos c3] at H
  have c3b0 := decide_eq_true c3; have c3b1 : decide (a1.size ≤ a0.size) = true := decide_eq_true (Int.ofNat_le.mp c3); clear c3
  by_cases c4 : 0 ≤ (a1.size : Int)
  ·rw [if_pos c4] at H
   have c4b0 := eq_true c4; have c4b1 := decide_eq_true c4; clear c4
   by_cases c5 : (a1.size : Int) ≤ (a0.size : Int)
   ·rw [if_pos c5] at H
    have c5b0 := eq_true c5; have c5b1 := decide_eq_true c5; clear c5; obtain ⟨js6, hjs6⟩ : ∃ j_ : ByteArray, (a0.extract 0 a1.size) = j_ := ⟨_, rfl⟩; (first | rw [hjs6] at H | simp only [hjs6] at H); obtain rfl := Option.some.inj H
    go_enter Tryz.func194, Tryz.ntmps194
    go_wp2
    go_ret
    exact ⟨ax217, ax32⟩
   ·exact ax12
  ·exact ax1
 ·rw [if_neg c3] at H
  have c3b0 := decide_eq_false c3; have c3b1 : decide (a1.size ≤ a0.size) = false := decide_eq_false (fun h => c3 (Int.ofNat_le.mpr h)); clear c3; obtain rfl := Option.some.inj H
  go_enter Tryz.func194, Tryz.ntmps194
  go_wp2
  go_ret
  exact ⟨ax31, ax32⟩

end Go.Proofs.YtcplbbflfgckbaaGreatDoor.X


-- By gen.py (the session's own program over the kit's printer): functions of the program, each with its contract. Lean checks it.
import Derived.Test.YtcplbbflfgckbaaGreatDoorX5
import Derived.Test.YtcplbbflfgckbaaGreatDoorX9
import Derived.Test.YtcplbbflfgckbaaGreatDoorX12
import Derived.Test.YtcplbbflfgckbaaGreatDoorX15
import Derived.Test.YtcplbbflfgckbaaGreatDoorX20
import Derived.Test.YtcplbbflfgckbaaGreatDoorX19
import Derived.Test.YtcplbbflfgckbaaGreatDoorX24
namespace Go.Proofs.YtcplbbflfgckbaaGreatDoor.X
open Go.RowKit Go.Proofs.YtcplbbflfgckbaaGreatDoorW.PrintWords Go.Proofs.YtcplbbflfgckbaaGreatDoorW.PrintLast Go.Proofs.YtcplbbflfgckbaaGreatDoorW.PrintMore
attribute [local go_sem] max2_int min2_int max_two min_two max_three min_three max_four min_four   -- for this text's walks alone
set_option linter.unusedVariables false
set_option linter.unusedSimpArgs false
set_option maxHeartbeats 8000000
set_option maxRecDepth 100000

/-! ### laws_FnTries: function 6 -/
mutual
def laws_FnTries.j0 : Nat → List Int → Bool → Option (Bool)
 | 0, _, _ => none
 | k + 1, x0, x76 => if x76 = true then (some false) else ((spec_DrawWordsOf.f k x0).bind fun t804 => ((impl_WordsOf.f k t804).bind fun bt808 => ((spec_WordsOf.f k t804).bind fun bt812 => (if (bt808.2 != bt812.2) = true then (laws_FnTries.j1 k x0 bt808.1 bt808.2 true t804) else ((impl_IsTrie.f k t804).bind fun t816 => (if (bt808.2 != t816) = true then (laws_FnTries.j1 k x0 bt808.1 bt808.2 true t804) else ((laws_rTexts.f k bt808.1 bt812.1).bind fun t817 => (laws_FnTries.j1 k x0 bt808.1 bt808.2 (!t817) t804))))))))
def laws_FnTries.j1 : Nat → List Int → List ByteArray → Bool → Bool → List (S74) → Option (Bool)
 | 0, _, _, _, _, _ => none
 | k + 1, x0, x9, x10, x103, x808000 => if x103 = true then (some false) else ((spec_DrawAddWord.f k x0).bind fun bt818 => ((impl_AddWord.f k bt818.1 bt818.2).bind fun bt823 => ((spec_AddWord.f k bt818.1 bt818.2).bind fun bt828 => (if (bt823.2 != bt828.2) = true then (laws_FnTries.j2 k x0 x9 x10 bt818.2 bt823.2 true x808000 bt818.1 bt823.1) else ((laws_rTrie.f k bt823.1 bt828.1).bind fun t833 => (laws_FnTries.j2 k x0 x9 x10 bt818.2 bt823.2 (!t833) x808000 bt818.1 bt823.1))))))
def laws_FnTries.j2 : Nat → List Int → List ByteArray → Bool → ByteArray → Bool → Bool → List (S74) → List (S74) → List (S74) → Option (Bool)
 | 0, _, _, _, _, _, _, _, _, _ => none
 | k + 1, x0, x9, x10, x14, x16, x129, x808000, x823000, x828000 => if x129 = true then (some false) else ((spec_DrawDropWord.f k x0).bind fun bt834 => ((impl_DropWord.f k bt834.1 bt834.2).bind fun bt839 => ((spec_DropWord.f k bt834.1 bt834.2).bind fun bt844 => (if (bt839.2 != bt844.2) = true then (laws_FnTries.j3 k x0 x9 x10 x14 x16 bt834.2 bt839.2 true x808000 x823000 x828000 bt834.1 bt839.1) else ((laws_rTrie.f k bt839.1 bt844.1).bind fun t849 => (laws_FnTries.j3 k x0 x9 x10 x14 x16 bt834.2 bt839.2 (!t849) x808000 x823000 x828000 bt834.1 bt839.1))))))
def laws_FnTries.j3 : Nat → List Int → List ByteArray → Bool → ByteArray → Bool → ByteArray → Bool → Bool → List (S74) → List (S74) → List (S74) → List (S74) → List (S74) → Option (Bool)
 | 0, _, _, _, _, _, _, _, _, _, _, _, _, _ => none
 | k + 1, x0, x9, x10, x14, x16, x20, x22, x155, x808000, x823000, x828000, x839000, x844000 => if x155 = true then (some false) else ((impl_HasWord.f k x839000 x20).bind fun bt850 => ((spec_HasWord.f k x839000 x20).bind fun bt852 => (if (bt850.1 != bt852.1) = true then (laws_FnTries.j4 k x0 x9 x10 x14 x16 x20 x22 true x808000 x823000 x828000 x839000 x844000) else (if (bt850.2 != bt852.2) = true then (laws_FnTries.j4 k x0 x9 x10 x14 x16 x20 x22 true x808000 x823000 x828000 x839000 x844000) else ((impl_IsTrie.f k x839000).bind fun t854 => (if t854 = true then ((impl_IsWord.f x20).bind fun t855 => (if (bt850.2 != t855) = true then (laws_FnTries.j4 k x0 x9 x10 x14 x16 x20 x22 true x808000 x823000 x828000 x839000 x844000) else (if bt850.2 = true then (laws_FnTries.j4 k x0 x9 x10 x14 x16 x20 x22 (x22 != bt850.1) x808000 x823000 x828000 x839000 x844000) else (laws_FnTries.j4 k x0 x9 x10 x14 x16 x20 x22 (x22 != false) x808000 x823000 x828000 x839000 x844000)))) else (if (bt850.2 != false) = true then (laws_FnTries.j4 k x0 x9 x10 x14 x16 x20 x22 true x808000 x823000 x828000 x839000 x844000) else (if bt850.2 = true then (laws_FnTries.j4 k x0 x9 x10 x14 x16 x20 x22 (x22 != bt850.1) x808000 x823000 x828000 x839000 x844000) else (laws_FnTries.j4 k x0 x9 x10 x14 x16 x20 x22 (x22 != false) x808000 x823000 x828000 x839000 x844000)))))))))
def laws_FnTries.j4 : Nat → List Int → List ByteArray → Bool → ByteArray → Bool → ByteArray → Bool → Bool → List (S74) → List (S74) → List (S74) → List (S74) → List (S74) → Option (Bool)
 | 0, _, _, _, _, _, _, _, _, _, _, _, _, _ => none
 | k + 1, x0, x9, x10, x14, x16, x20, x22, x193, x808000, x823000, x828000, x839000, x844000 => if x193 = true then (some false) else ((impl_CountWords.f k x808000).bind fun bt856 => ((spec_CountWords.f k x808000).bind fun bt858 => (if bt856.1 = bt858.1 then (if (bt856.2 != bt858.2) = true then (laws_FnTries.j5 k x0 x9 x10 x14 x16 x20 x22 true x808000 x823000 x828000 x839000 x844000) else (if (bt856.2 != x10) = true then (laws_FnTries.j5 k x0 x9 x10 x14 x16 x20 x22 true x808000 x823000 x828000 x839000 x844000) else (if x10 = true then (laws_FnTries.j5 k x0 x9 x10 x14 x16 x20 x22 (bt856.1 != (x9.length : Int)) x808000 x823000 x828000 x839000 x844000) else (laws_FnTries.j5 k x0 x9 x10 x14 x16 x20 x22 false x808000 x823000 x828000 x839000 x844000)))) else (laws_FnTries.j5 k x0 x9 x10 x14 x16 x20 x22 true x808000 x823000 x828000 x839000 x844000))))
def laws_FnTries.j5 : Nat → List Int → List ByteArray → Bool → ByteArray → Bool → ByteArray → Bool → Bool → List (S74) → List (S74) → List (S74) → List (S74) → List (S74) → Option (Bool)
 | 0, _, _, _, _, _, _, _, _, _, _, _, _, _ => none
 | k + 1, x0, x9, x10, x14, x16, x20, x22, x225, x808000, x823000, x828000, x839000, x844000 => if x225 = true then (some false) else ((impl_TrieText.f k x808000).bind fun bt860 => ((spec_TrieText.f k x808000).bind fun bt862 => (if bt860.1.toList = bt862.1.toList then (if (bt860.2 != bt862.2) = true then (laws_FnTries.j6 k x0 x9 x10 x14 x16 x20 x22 bt860.1 true x808000 x823000 x828000 x839000 x844000) else (laws_FnTries.j6 k x0 x9 x10 x14 x16 x20 x22 bt860.1 (bt860.2 != x10) x808000 x823000 x828000 x839000 x844000)) else (laws_FnTries.j6 k x0 x9 x10 x14 x16 x20 x22 bt860.1 true x808000 x823000 x828000 x839000 x844000))))
def laws_FnTries.j6 : Nat → List Int → List ByteArray → Bool → ByteArray → Bool → ByteArray → Bool → ByteArray → Bool → List (S74) → List (S74) → List (S74) → List (S74) → List (S74) → Option (Bool)
 | 0, _, _, _, _, _, _, _, _, _, _, _, _, _, _ => none
 | k + 1, x0, x9, x10, x14, x16, x20, x22, x33, x248, x808000, x823000, x828000, x839000, x844000 => if x248 = true then (some false) else ((spec_DrawParseTrie.f k x0).bind fun t864 => ((impl_ParseTrie.f k t864).bind fun bt865 => ((spec_ParseTrie.f k t864).bind fun bt870 => (if (bt865.2 != bt870.2) = true then (laws_FnTries.j7 k x9 x10 x14 x16 x20 x22 x33 true x808000 x823000 x828000 x839000 x844000) else ((laws_rTrie.f k bt865.1 bt870.1).bind fun t875 => (laws_FnTries.j7 k x9 x10 x14 x16 x20 x22 x33 (!t875) x808000 x823000 x828000 x839000 x844000))))))
def laws_FnTries.j7 : Nat → List ByteArray → Bool → ByteArray → Bool → ByteArray → Bool → ByteArray → Bool → List (S74) → List (S74) → List (S74) → List (S74) → List (S74) → Option (Bool)
 | 0, _, _, _, _, _, _, _, _, _, _, _, _, _ => none
 | k + 1, x9, x10, x14, x16, x20, x22, x33, x269, x808000, x823000, x828000, x839000, x844000 => if x269 = true then (some false) else (if x16 = true then ((impl_HasWord.f k x823000 x14).bind fun bt876 => ((impl_HasWord.f k x828000 x14).bind fun bt878 => (if bt876.2 = true then (if bt878.2 = true then (laws_FnTries.j8 k x9 x10 x14 x20 x22 x33 bt876.1 (!bt878.1) x808000 x823000 x828000 x839000 x844000) else (laws_FnTries.j8 k x9 x10 x14 x20 x22 x33 bt876.1 true x808000 x823000 x828000 x839000 x844000)) else (laws_FnTries.j8 k x9 x10 x14 x20 x22 x33 bt876.1 true x808000 x823000 x828000 x839000 x844000)))) else (laws_FnTries.j9 k x9 x10 x20 x22 x33 x808000 x839000 x844000))
def laws_FnTries.j9 : Nat → List ByteArray → Bool → ByteArray → Bool → ByteArray → List (S74) → List (S74) → List (S74) → Option (Bool)
 | 0, _, _, _, _, _, _, _, _ => none
 | k + 1, x9, x10, x20, x22, x33, x808000, x839000, x844000 => if x22 = true then ((impl_AddWord.f k x844000 x20).bind fun bt886 => (if bt886.2 = true then ((laws_rTrie.f k bt886.1 x839000).bind fun t891 => (if t891 = true then (laws_FnTries.j10 k x9 x10 x33 x808000) else (some false))) else (some false))) else (laws_FnTries.j10 k x9 x10 x33 x808000)
def laws_FnTries.j10 : Nat → List ByteArray → Bool → ByteArray → List (S74) → Option (Bool)
 | 0, _, _, _, _ => none
 | k + 1, x9, x10, x33, x808000 => if x10 = true then ((impl_TrieOf.f k x9).bind fun bt892 => ((impl_ParseTrie.f k x33).bind fun bt897 => (if bt892.2 = true then (if bt897.2 = true then ((laws_rTrie.f k bt892.1 x808000).bind fun t902 => (if t902 = true then ((laws_rTrie.f k bt897.1 x808000).bind fun t903 => (some t903)) else (some false))) else (some false)) else (some false)))) else (some true)
def laws_FnTries.j8 : Nat → List ByteArray → Bool → ByteArray → ByteArray → Bool → ByteArray → Bool → Bool → List (S74) → List (S74) → List (S74) → List (S74) → List (S74) → Option (Bool)
 | 0, _, _, _, _, _, _, _, _, _, _, _, _, _ => none
 | k + 1, x9, x10, x14, x20, x22, x33, x42, x292, x808000, x823000, x828000, x839000, x844000 => if x292 = true then (some false) else ((impl_DropWord.f k x828000 x14).bind fun bt880 => (if bt880.2 = true then (if x42 = true then (laws_FnTries.j9 k x9 x10 x20 x22 x33 x808000 x839000 x844000) else ((laws_rTrie.f k bt880.1 x823000).bind fun t885 => (if t885 = true then (laws_FnTries.j9 k x9 x10 x20 x22 x33 x808000 x839000 x844000) else (some false)))) else (some false)))
end
def laws_FnTries.f (k : Nat) (l0 : List Int) : Option (Bool) := (laws_rBig.f l0).bind fun t789 => (if t789 = true then (some true) else ((spec_DrawTrieOf.f k l0).bind fun t790 => ((impl_TrieOf.f k t790).bind fun bt793 => ((spec_TrieOf.f k t790).bind fun bt798 => (if (bt793.2 != bt798.2) = true then (laws_FnTries.j0 k l0 true) else ((laws_rTrie.f k bt793.1 bt798.1).bind fun t803 => (laws_FnTries.j0 k l0 (!t803))))))))
theorem laws_FnTries.j0_no {k : Nat} {y0 : List Int} {r : Bool} (h : laws_FnTries.j0 k y0 true = some r) (hr : r = true) : False := by
 cases k with
 | zero => simp [laws_FnTries.j0] at h
 | succ k =>
  simp only [laws_FnTries.j0] at h
  first | rw [if_pos trivial] at h | rw [if_pos rfl] at h
  exact absurd ((Option.some.inj h).trans hr) (by decide)
theorem laws_FnTries.j1_no {k : Nat} {y0 : List Int} {y1 : List ByteArray} {y2 : Bool} {y4 : List (S74)} {r : Bool} (h : laws_FnTries.j1 k y0 y1 y2 true y4 = some r) (hr : r = true) : False := by
 cases k with
 | zero => simp [laws_FnTries.j1] at h
 | succ k =>
  simp only [laws_FnTries.j1] at h
  first | rw [if_pos trivial] at h | rw [if_pos rfl] at h
  exact absurd ((Option.some.inj h).trans hr) (by decide)
theorem laws_FnTries.j2_no {k : Nat} {y0 : List Int} {y1 : List ByteArray} {y2 : Bool} {y3 : ByteArray} {y4 : Bool} {y6 : List (S74)} {y7 : List (S74)} {y8 : List (S74)} {r : Bool} (h : laws_FnTries.j2 k y0 y1 y2 y3 y4 true y6 y7 y8 = some r) (hr : r = true) : False := by
 cases k with
 | zero => simp [laws_FnTries.j2] at h
 | succ k =>
  simp only [laws_FnTries.j2] at h
  first | rw [if_pos trivial] at h | rw [if_pos rfl] at h
  exact absurd ((Option.some.inj h).trans hr) (by decide)
theorem laws_FnTries.j3_no {k : Nat} {y0 : List Int} {y1 : List ByteArray} {y2 : Bool} {y3 : ByteArray} {y4 : Bool} {y5 : ByteArray} {y6 : Bool} {y8 : List (S74)} {y9 : List (S74)} {y10 : List (S74)} {y11 : List (S74)} {y12 : List (S74)} {r : Bool} (h : laws_FnTries.j3 k y0 y1 y2 y3 y4 y5 y6 true y8 y9 y10 y11 y12 = some r) (hr : r = true) : False := by
 cases k with
 | zero => simp [laws_FnTries.j3] at h
 | succ k =>
  simp only [laws_FnTries.j3] at h
  first | rw [if_pos trivial] at h | rw [if_pos rfl] at h
  exact absurd ((Option.some.inj h).trans hr) (by decide)
theorem laws_FnTries.j4_no {k : Nat} {y0 : List Int} {y1 : List ByteArray} {y2 : Bool} {y3 : ByteArray} {y4 : Bool} {y5 : ByteArray} {y6 : Bool} {y8 : List (S74)} {y9 : List (S74)} {y10 : List (S74)} {y11 : List (S74)} {y12 : List (S74)} {r : Bool} (h : laws_FnTries.j4 k y0 y1 y2 y3 y4 y5 y6 true y8 y9 y10 y11 y12 = some r) (hr : r = true) : False := by
 cases k with
 | zero => simp [laws_FnTries.j4] at h
 | succ k =>
  simp only [laws_FnTries.j4] at h
  first | rw [if_pos trivial] at h | rw [if_pos rfl] at h
  exact absurd ((Option.some.inj h).trans hr) (by decide)
theorem laws_FnTries.j5_no {k : Nat} {y0 : List Int} {y1 : List ByteArray} {y2 : Bool} {y3 : ByteArray} {y4 : Bool} {y5 : ByteArray} {y6 : Bool} {y8 : List (S74)} {y9 : List (S74)} {y10 : List (S74)} {y11 : List (S74)} {y12 : List (S74)} {r : Bool} (h : laws_FnTries.j5 k y0 y1 y2 y3 y4 y5 y6 true y8 y9 y10 y11 y12 = some r) (hr : r = true) : False := by
 cases k with
 | zero => simp [laws_FnTries.j5] at h
 | succ k =>
  simp only [laws_FnTries.j5] at h
  first | rw [if_pos trivial] at h | rw [if_pos rfl] at h
  exact absurd ((Option.some.inj h).trans hr) (by decide)
theorem laws_FnTries.j6_no {k : Nat} {y0 : List Int} {y1 : List ByteArray} {y2 : Bool} {y3 : ByteArray} {y4 : Bool} {y5 : ByteArray} {y6 : Bool} {y7 : ByteArray} {y9 : List (S74)} {y10 : List (S74)} {y11 : List (S74)} {y12 : List (S74)} {y13 : List (S74)} {r : Bool} (h : laws_FnTries.j6 k y0 y1 y2 y3 y4 y5 y6 y7 true y9 y10 y11 y12 y13 = some r) (hr : r = true) : False := by
 cases k with
 | zero => simp [laws_FnTries.j6] at h
 | succ k =>
  simp only [laws_FnTries.j6] at h
  first | rw [if_pos trivial] at h | rw [if_pos rfl] at h
  exact absurd ((Option.some.inj h).trans hr) (by decide)
theorem laws_FnTries.j7_no {k : Nat} {y0 : List ByteArray} {y1 : Bool} {y2 : ByteArray} {y3 : Bool} {y4 : ByteArray} {y5 : Bool} {y6 : ByteArray} {y8 : List (S74)} {y9 : List (S74)} {y10 : List (S74)} {y11 : List (S74)} {y12 : List (S74)} {r : Bool} (h : laws_FnTries.j7 k y0 y1 y2 y3 y4 y5 y6 true y8 y9 y10 y11 y12 = some r) (hr : r = true) : False := by
 cases k with
 | zero => simp [laws_FnTries.j7] at h
 | succ k =>
  simp only [laws_FnTries.j7] at h
  first | rw [if_pos trivial] at h | rw [if_pos rfl] at h
  exact absurd ((Option.some.inj h).trans hr) (by decide)
theorem laws_FnTries.j8_no {k : Nat} {y0 : List ByteArray} {y1 : Bool} {y2 : ByteArray} {y3 : ByteArray} {y4 : Bool} {y5 : ByteArray} {y6 : Bool} {y8 : List (S74)} {y9 : List (S74)} {y10 : List (S74)} {y11 : List (S74)} {y12 : List (S74)} {r : Bool} (h : laws_FnTries.j8 k y0 y1 y2 y3 y4 y5 y6 true y8 y9 y10 y11 y12 = some r) (hr : r = true) : False := by
 cases k with
 | zero => simp [laws_FnTries.j8] at h
 | succ k =>
  simp only [laws_FnTries.j8] at h
  first | rw [if_pos trivial] at h | rw [if_pos rfl] at h
  exact absurd ((Option.some.inj h).trans hr) (by decide)
theorem laws_FnTries.calls (k : Nat) (A0 : Option Addr) (c0 : Nat) (l0 : List Int) (r : Bool) (w : World) (hr0 : Kd.C (Kd.int .u8) w A0 l0.length l0) (hc0 : l0.length ≤ c0) (h : laws_FnTries.f k l0 = some r) (hr_ : r = true) :
  Calls Tryz.prog 6 #[.slice A0 l0.length c0] w fun e w' => e = .returned (.bool r) ∧ Below w.heap.size w w' := by
 have hu26 := Tryz.underlying26; have HR0 := am hr0; have HC0 := am hc0; clear hr0 hc0; have HB := am (Below.refl w.heap.size w); have HRT := am hr_; clear hr_
 unfold laws_FnTries.f at h
 have H := h; clear h; obtain ⟨t789, A2, H⟩ := bs H
 by_cases c3 : t789 = true
 ·subst c3
  rw [if_pos rfl] at H
  as_aux_lemma =>
   obtain rfl := Option.some.inj H
   go_enter Tryz.func6, Tryz.ntmps6
   go_wp2_with (first | ((with_reducible refine gd 55 45 ?_); refine gc 55 Tryz.func45 #[.slice A0 l0.length c0] (laws_rBig.calls _ _ l0 true _ ax47 (HC0.out) A2.out) ?_; rintro e w' ⟨rfl, ⟨nd, rfl⟩⟩; refine ⟨_, rfl, ?_⟩))
   go_ret
   exact ⟨ax21, aL⟩
 ·replace c3 := Bool.eq_false_iff.mpr c3
  subst c3; rw [if_neg (show ¬ (false = true) by decide)] at H; obtain ⟨t790, A4, H⟩ := bs H; obtain ⟨⟨t793, t796⟩, A5, H⟩ := bs H; obtain ⟨⟨t798, t801⟩, A6, H⟩ := bs H; have HC7 := am H; clear H
  go_enter Tryz.func6, Tryz.ntmps6
  go_upto_region 6 with (first | ((with_reducible refine gd 55 45 ?_); refine gc 55 Tryz.func45 #[.slice A0 l0.length c0] (laws_rBig.calls _ _ l0 false _ ax47 (HC0.out) A2.out) ?_; rintro e w' ⟨rfl, ⟨nd, rfl⟩⟩; refine ⟨_, rfl, ?_⟩) | ((with_reducible refine gd 57 46 ?_); refine gc 57 Tryz.func46 #[.slice A0 l0.length c0] (spec_DrawTrieOf.calls k _ _ l0 t790 _ ax47 (HC0.out) A4.out) ?_; rintro e w8 ⟨v791, rfl, ho0, hb⟩; refine ⟨_, rfl, ?_⟩; have HO792 := uL ho0 HB; replace HB := uB HB hb; (try clear hb ho0); obtain ⟨Ao9, co9, rfl⟩ := Kd.R_slice HO792.out) | ((with_reducible refine gd 60 47 ?_); refine gc 60 Tryz.func47 #[.slice Ao9 t790.length co9] (impl_TrieOf.calls k _ _ t790 t793 t796 _ (rd2 HO792) (rl HO792) A5.out) ?_; rintro e w10 ⟨v794, rfl, ho0, hb⟩; refine ⟨_, rfl, ?_⟩; replace HO792 := uR HO792 hb; have HO795 := uL ho0 HB; replace HB := uB HB hb; (try clear hb ho0)) | ((with_reducible refine gt 4 ?_); (try (refine gate_guard (by rfl) ?_; dsimp only)); refine bx 4 #[.slice none 0 0] 26 ?_; intro gb797 hg w11 hbox hb; replace HO792 := uR HO792 hb; replace HO795 := uR HO795 hb; have BK797 := am (hbox); have GW797 := uG hg HB; have GE797 := uG hg HB; replace HB := uB HB hb; clear hb hbox hg; obtain ⟨Ao12, co12, rfl⟩ := Kd.R_slice HO795.out; obtain ⟨hcz13_0, hfz13_0⟩ := bz (.slice none 0 0) BK797) | ((with_reducible refine gd 65 48 ?_); refine gc 65 Tryz.func48 #[.slice Ao9 t790.length co9] (spec_TrieOf.calls k _ _ t790 t798 t801 _ (rd2 HO792) (rl HO792) A6.out) ?_; rintro e w14 ⟨v799, rfl, ho0, hb⟩; refine ⟨_, rfl, ?_⟩; replace HO792 := uX HO792 hb; replace HO795 := uX HO795 hb; have HO800 := am (Kd.R_lower ho0 (bS HB)); replace BK797 := am (blk_below (g := gb797) (o := .cells #[.slice Ao12 t793.length co12] 26 (0, 0)) aU hb); replace HB := uS HB hb; (try clear hb ho0)) | ((with_reducible refine gt 6 ?_); (try (refine gate_guard (by rfl) ?_; dsimp only)); refine bx 6 #[.slice none 0 0] 26 ?_; intro gb802 hg w15 hbox hb; replace HO795 := uR HO795 hb; replace HO800 := uR HO800 hb; have BK802 := am (hbox); have GW802 := uH hg HB; have GE802 := uH hg HB; replace HB := uS HB hb; obtain ⟨NB797_802, NB802_797, BK797⟩ := uA hg hb BK797; clear hb hbox hg; obtain ⟨Ao16, co16, rfl⟩ := Kd.R_slice HO800.out; obtain ⟨hnb17, hnc17⟩ := nk NB802_797; obtain ⟨hcz18_0, hfz18_0⟩ := bz (.slice none 0 0) BK802))
  (try simp only [Act.put, List.setIfInBounds_toArray, List.set_cons_zero, List.set_cons_succ])
  go_cut [76] from 1 to 0 (fun v76 wc => ∃ (kq : Nat) (x76_6 : Bool), v76 = .bool x76_6 ∧ Aside0 (laws_FnTries.j0 kq l0 x76_6 = some r) ∧ Aside0 (kq ≤ k) ∧ Aside0 (Below w.heap.size w wc))
  case first =>
   have H := HC7.out; clear HC7
   by_cases c19 : (t796 != t801) = true
   ·rw [if_pos c19] at H
    have c19b0 : (t796 != t801) = true := c19; (try (have c19b1 : decide (t796 = t801) = false := by simpa using c19)); (try (have c19b2 : (t796 == t801) = false := by simpa using c19)); (try (have c19b3 : ¬ (t796 = t801) := by simpa using c19)); clear c19; (first | rw [c19b0] | (simp only [i64_w, i32_w]; rw [c19b0]) | skip)
    exact (laws_FnTries.j0_no H HRT.out).elim
   ·rw [if_neg c19] at H
    have c19b0 : (t796 != t801) = false := by simpa using c19
    (try (have c19b1 : decide (t796 = t801) = true := by simpa using c19)); (try (have c19b2 : (t796 == t801) = true := by simpa using c19)); clear c19; (first | rw [c19b0] | (simp only [i64_w, i32_w]; rw [c19b0]) | skip); obtain ⟨t803, A20, H⟩ := bs H
    as_aux_lemma =>
     have H' := am H; clear H; obtain ⟨hnb21, hnc21⟩ := nk NB797_802; obtain ⟨hcz22_0, hfz22_0⟩ := bz (.slice Ao12 t793.length co12) BK797; obtain ⟨hcz23_0, hfz23_0⟩ := bz (.slice none 0 0) BK802
     go_wp2_with (first | (go_at_call 49; (with_reducible refine (laws_rTrie.calls k _ _ t793 _ _ t798 t803 _ ?side1 ?side2 ?side3 ?side4 A20.out).mono ?_); (case side1 => refine (Kd.R_reads' (e := 74) (base := w.heap.size) (ok := fun k_ => True) (n := t793.length) (c := co12) ?_).2.2; exact (rX HO795)); (case side2 => exact (Kd.R_reads' HO795.out).2.1); (case side3 => refine (Kd.R_reads' (e := 74) (base := w.heap.size) (ok := fun k_ => True) (n := t798.length) (c := co16) ?_).2.2; exact (rX HO800)); (case side4 => exact (Kd.R_reads' HO800.out).2.1); rintro e w24 ⟨rfl, hb⟩; replace HO795 := uX HO795 hb; replace HO800 := uX HO800 hb; replace BK797 := uZ BK797 hb; replace BK802 := am (blk_below (g := gb802) (o := .cells #[.slice Ao16 t798.length co16] 26 (0, 0)) aU hb); replace HB := uS HB hb; (try clear hb)))
     go_meet
     case rel => exact ⟨_, (!t803), ax18, H', ⟨by first | omega | exact Nat.le_refl _⟩, ⟨aL⟩⟩
  case rest =>
   clear HC7; (try clear c0);(try clear hcz13_0);(try clear hfz13_0);(try clear hcz18_0);(try clear hfz18_0);(try clear c3); obtain ⟨kq, x76_6, rfl, HA, HJ6, HB⟩ := hcut
   cases kq with
   | zero => exact absurd HA.out (by simp [laws_FnTries.j0])
   | succ kj6 =>
    have H := HA.out; clear HA; simp only [laws_FnTries.j0] at H
    by_cases c25 : x76_6 = true
    ·subst c25
     rw [if_pos rfl] at H
     as_aux_lemma =>
      exact absurd ((Option.some.inj H).trans HRT.out) (by decide)
    ·replace c25 := Bool.eq_false_iff.mpr c25
     subst c25; rw [if_neg (show ¬ (false = true) by decide)] at H; obtain ⟨t804, A26, H⟩ := bs H; obtain ⟨⟨t808, t811⟩, A27, H⟩ := bs H; obtain ⟨⟨t812, t815⟩, A28, H⟩ := bs H; have HC29 := am H; clear H
     go_upto_region 11 with (first | ((with_reducible refine gd 78 50 ?_); refine gc 78 Tryz.func50 #[.slice A0 l0.length c0] (spec_DrawWordsOf.calls kj6 _ _ l0 t804 _ ax42 (HC0.out) A26.out) ?_; rintro e w30 ⟨v805, rfl, ho0, hb⟩; refine ⟨_, rfl, ?_⟩; have HO806 := uL ho0 HB; replace HB := uB HB hb; (try clear hb ho0)) | ((with_reducible refine gt 8 ?_); (try (refine gate_guard (by rfl) ?_; dsimp only)); refine bx 8 #[.slice none 0 0] 26 ?_; intro gb807 hg w31 hbox hb; replace HO806 := uR HO806 hb; have BK807 := am (hbox); have GW807 := uG hg HB; have GE807 := uG hg HB; replace HB := uB HB hb; clear hb hbox hg; obtain ⟨Ao32, co32, rfl⟩ := Kd.R_slice HO806.out; obtain ⟨hcz33_0, hfz33_0⟩ := bz (.slice none 0 0) BK807) | ((with_reducible refine gd 81 51 ?_); refine gc 81 Tryz.func51 #[.agg #[.slice Ao32 t804.length co32]] (impl_WordsOf.calls kj6 _ _ t804 t808 t811 _ (rd2 HO806) (rl HO806) A27.out) ?_; rintro e w34 ⟨v809, rfl, ho0, hb⟩; refine ⟨_, rfl, ?_⟩; replace HO806 := uX HO806 hb; have HO810 := am (Kd.R_lower ho0 (bS HB)); replace BK807 := am (blk_below (g := gb807) (o := .cells #[.slice Ao32 t804.length co32] 26 (0, 0)) aU hb); replace HB := uS HB hb; (try clear hb ho0); obtain ⟨hcz35_0, hfz35_0⟩ := bz (.slice Ao32 t804.length co32) BK807) | ((with_reducible refine gd 86 52 ?_); refine gc 86 Tryz.func52 #[.agg #[.slice Ao32 t804.length co32]] (spec_WordsOf.calls kj6 _ _ t804 t812 t815 _ (rd2 HO806) (rl HO806) A28.out) ?_; rintro e w36 ⟨v813, rfl, ho0, hb⟩; refine ⟨_, rfl, ?_⟩; replace HO806 := uR HO806 hb; replace HO810 := uR HO810 hb; have HO814 := am (Kd.R_lower ho0 (bS HB)); replace BK807 := ub BK807 hb; replace HB := uS HB hb; (try clear hb ho0)))
     (try simp only [Act.put, List.setIfInBounds_toArray, List.set_cons_zero, List.set_cons_succ])
     go_cut [103] from 1 to 0 (fun v103 wc => ∃ (kq : Nat) (x103_28 : Bool), v103 = .bool x103_28 ∧ Aside0 (laws_FnTries.j1 kq l0 t808 t811 x103_28 t804 = some r) ∧ Aside0 (kq ≤ kj6) ∧ Aside0 (Kd.R Kd.string 9 wc w.heap.size (fun _ => True) v809 t808) ∧ Aside0 (Kd.R k74 74 wc w.heap.size (fun _ => True) (.slice Ao32 t804.length co32) t804) ∧ Aside0 (wc.heap[gb807]? = some (.cells #[(.slice Ao32 t804.length co32)] 26 (0, 0))) ∧ Aside0 (Below w.heap.size w wc))
     case first =>
      have H := HC29.out; clear HC29
      by_cases c37 : (t811 != t815) = true
      ·rw [if_pos c37] at H
       have c37b0 : (t811 != t815) = true := c37; (try (have c37b1 : decide (t811 = t815) = false := by simpa using c37)); (try (have c37b2 : (t811 == t815) = false := by simpa using c37)); (try (have c37b3 : ¬ (t811 = t815) := by simpa using c37)); clear c37; (first | rw [c37b0] | (simp only [i64_w, i32_w]; rw [c37b0]) | skip)
       exact (laws_FnTries.j1_no H HRT.out).elim
      ·rw [if_neg c37] at H
       have c37b0 : (t811 != t815) = false := by simpa using c37
       (try (have c37b1 : decide (t811 = t815) = true := by simpa using c37)); (try (have c37b2 : (t811 == t815) = true := by simpa using c37)); clear c37; (first | rw [c37b0] | (simp only [i64_w, i32_w]; rw [c37b0]) | skip); obtain ⟨t816, A38, H⟩ := bs H
       by_cases c39 : (t811 != t816) = true
       ·rw [if_pos c39] at H
        have c39b0 : (t811 != t816) = true := c39; (try (have c39b1 : decide (t811 = t816) = false := by simpa using c39)); (try (have c39b2 : (t811 == t816) = false := by simpa using c39)); (try (have c39b3 : ¬ (t811 = t816) := by simpa using c39)); clear c39
        exact (laws_FnTries.j1_no H HRT.out).elim
       ·rw [if_neg c39] at H
        have c39b0 : (t811 != t816) = false := by simpa using c39
        (try (have c39b1 : decide (t811 = t816) = true := by simpa using c39)); (try (have c39b2 : (t811 == t816) = true := by simpa using c39)); clear c39; obtain ⟨t817, A40, H⟩ := bs H
        as_aux_lemma =>
         have H' := am H; clear H; obtain ⟨hcz41_0, hfz41_0⟩ := bz (.slice Ao32 t804.length co32) BK807
         go_wp2_with (first | (go_at_call 53; (with_reducible refine (impl_IsTrie.calls kj6 _ _ t804 t816 _ ?side1 ?side2 A38.out).mono ?_); (case side1 => repeat (first | exact (Kd.R_reads' HO806.out).2.2 | (with_reducible refine Kd.C_alloc ?_ _) | (with_reducible refine Kd.C_drewN ?_ _) | (with_reducible refine Kd.C_drew ?_))); (case side2 => exact (Kd.R_reads' HO806.out).2.1); rintro e w42 ⟨rfl, hb⟩; replace HO806 := uR HO806 hb; replace HO810 := uR HO810 hb; replace HO814 := uR HO814 hb; replace BK807 := ub BK807 hb; replace HB := uS HB hb; (try clear hb); obtain ⟨Ao43, co43, rfl⟩ := Kd.R_slice HO810.out; obtain ⟨Ao44, co44, rfl⟩ := Kd.R_slice HO814.out) | (go_at_call 54; (with_reducible refine (laws_rTexts.calls kj6 _ _ t808 _ _ t812 t817 _ ?side1 ?side2 ?side3 ?side4 A40.out).mono ?_); (case side1 => repeat (first | exact (Kd.R_reads' HO810.out).2.2 | (with_reducible refine Kd.C_alloc ?_ _) | (with_reducible refine Kd.C_drewN ?_ _) | (with_reducible refine Kd.C_drew ?_))); (case side2 => exact (Kd.R_reads' HO810.out).2.1); (case side3 => repeat (first | exact (Kd.R_reads' HO814.out).2.2 | (with_reducible refine Kd.C_alloc ?_ _) | (with_reducible refine Kd.C_drewN ?_ _) | (with_reducible refine Kd.C_drew ?_))); (case side4 => exact (Kd.R_reads' HO814.out).2.1); rintro e w' ⟨rfl, ⟨nd, rfl⟩⟩))
         go_meet
         case rel => exact ⟨_, (!t817), ax18, H', ⟨(by have := HJ6.out; first | omega | exact Nat.le_refl _)⟩, ⟨aU⟩, ⟨aU⟩, ⟨aU⟩, ⟨aL⟩⟩
     case rest =>
      clear HC29; (try clear c0);(try clear hcz33_0);(try clear hfz33_0);(try clear hcz35_0);(try clear hfz35_0);(try clear c25); obtain ⟨kq, x103_28, rfl, HA, HJ28, HO_9, HO_808000, BK807, HB⟩ := hcut
      cases kq with
      | zero => exact absurd HA.out (by simp [laws_FnTries.j1])
      | succ kj28 =>
       have H := HA.out; clear HA; simp only [laws_FnTries.j1] at H
       by_cases c45 : x103_28 = true
       ·subst c45
        rw [if_pos rfl] at H
        as_aux_lemma =>
         exact absurd ((Option.some.inj H).trans HRT.out) (by decide)
       ·replace c45 := Bool.eq_false_iff.mpr c45
        subst c45; rw [if_neg (show ¬ (false = true) by decide)] at H; obtain ⟨⟨t818, t821⟩, A46, H⟩ := bs H; obtain ⟨⟨t823, t826⟩, A47, H⟩ := bs H; obtain ⟨⟨t828, t831⟩, A48, H⟩ := bs H; have HC49 := am H; clear H
        go_upto_region 16 with (first | ((with_reducible refine gd 106 55 ?_); refine gc 106 Tryz.func55 #[.slice A0 l0.length c0] (spec_DrawAddWord.calls kj28 _ _ l0 t818 t821 _ ax42 (HC0.out) A46.out) ?_; rintro e w50 ⟨v819, rfl, ho0, hb⟩; refine ⟨_, rfl, ?_⟩; replace HO_9 := uR HO_9 hb; replace HO_808000 := uR HO_808000 hb; have HO820 := am (Kd.R_lower ho0 (bS HB)); replace BK807 := ub BK807 hb; replace HB := uS HB hb; (try clear hb ho0)) | ((with_reducible refine gt 13 ?_); (try (refine gate_guard (by rfl) ?_; dsimp only)); refine bx 13 #[.slice none 0 0] 26 ?_; intro gb822 hg w51 hbox hb; replace HO_9 := uR HO_9 hb; replace HO_808000 := uR HO_808000 hb; replace HO820 := uR HO820 hb; have BK822 := am (hbox); have GW822 := uH hg HB; have GE822 := uH hg HB; replace HB := uS HB hb; obtain ⟨NB807_822, NB822_807, BK807⟩ := uA hg hb BK807; clear hb hbox hg; obtain ⟨Ao52, co52, rfl⟩ := Kd.R_slice HO820.out; obtain ⟨hnb53, hnc53⟩ := nk NB822_807; obtain ⟨hcz54_0, hfz54_0⟩ := bz (.slice none 0 0) BK822) | ((with_reducible refine gd 112 56 ?_); refine gc 112 Tryz.func56 #[.agg #[.slice Ao52 t818.length co52], .string t821] (impl_AddWord.calls kj28 _ _ t818 t821 t823 t826 _ (rd2 HO820) (rl HO820) A47.out) ?_; rintro e w55 ⟨v824, rfl, ho0, hb⟩; refine ⟨_, rfl, ?_⟩; replace HO_9 := uX HO_9 hb; replace HO_808000 := uX HO_808000 hb; replace HO820 := uX HO820 hb; have HO825 := am (Kd.R_lower ho0 (bS HB)); replace BK807 := uZ BK807 hb; replace BK822 := am (blk_below (g := gb822) (o := .cells #[.slice Ao52 t818.length co52] 26 (0, 0)) aU hb); replace HB := uS HB hb; (try clear hb ho0)) | ((with_reducible refine gt 15 ?_); (try (refine gate_guard (by rfl) ?_; dsimp only)); refine bx 15 #[.slice none 0 0] 26 ?_; intro gb827 hg w56 hbox hb; replace HO_9 := uR HO_9 hb; replace HO_808000 := uR HO_808000 hb; replace HO820 := uR HO820 hb; replace HO825 := uR HO825 hb; have BK827 := am (hbox); have GW827 := uH hg HB; have GE827 := uH hg HB; replace HB := uS HB hb; obtain ⟨NB807_827, NB827_807, BK807⟩ := uA hg hb BK807; obtain ⟨NB822_827, NB827_822, BK822⟩ := uA hg hb BK822; clear hb hbox hg; obtain ⟨Ao57, co57, rfl⟩ := Kd.R_slice HO825.out; obtain ⟨hnb58, hnc58⟩ := nk NB827_807; obtain ⟨hnb59, hnc59⟩ := nk NB827_822; obtain ⟨hcz60_0, hfz60_0⟩ := bz (.slice none 0 0) BK827; obtain ⟨hcz61_0, hfz61_0⟩ := bz (.slice Ao52 t818.length co52) BK822) | ((with_reducible refine gd 118 57 ?_); refine gc 118 Tryz.func57 #[.agg #[.slice Ao52 t818.length co52], .string t821] (spec_AddWord.calls kj28 _ _ t818 t821 t828 t831 _ (rd2 HO820) (rl HO820) A48.out) ?_; rintro e w62 ⟨v829, rfl, ho0, hb⟩; refine ⟨_, rfl, ?_⟩; replace HO_9 := uX HO_9 hb; replace HO_808000 := uX HO_808000 hb; replace HO820 := uX HO820 hb; replace HO825 := uX HO825 hb; have HO830 := am (Kd.R_lower ho0 (bS HB)); replace BK807 := uZ BK807 hb; replace BK822 := uZ BK822 hb; replace BK827 := am (blk_below (g := gb827) (o := .cells #[.slice Ao57 t823.length co57] 26 (0, 0)) aU hb); replace HB := uS HB hb; (try clear hb ho0)) | ((with_reducible refine gt 17 ?_); (try (refine gate_guard (by rfl) ?_; dsimp only)); refine bx 17 #[.slice none 0 0] 26 ?_; intro gb832 hg w63 hbox hb; replace HO_9 := uR HO_9 hb; replace HO_808000 := uR HO_808000 hb; replace HO820 := uR HO820 hb; replace HO825 := uR HO825 hb; replace HO830 := uR HO830 hb; have BK832 := am (hbox); have GW832 := uH hg HB; have GE832 := uH hg HB; replace HB := uS HB hb; obtain ⟨NB807_832, NB832_807, BK807⟩ := uA hg hb BK807; obtain ⟨NB822_832, NB832_822, BK822⟩ := uA hg hb BK822; obtain ⟨NB827_832, NB832_827, BK827⟩ := uA hg hb BK827; clear hb hbox hg; obtain ⟨Ao64, co64, rfl⟩ := Kd.R_slice HO830.out; obtain ⟨hnb65, hnc65⟩ := nk NB832_807; obtain ⟨hnb66, hnc66⟩ := nk NB832_822; obtain ⟨hnb67, hnc67⟩ := nk NB832_827; obtain ⟨hcz68_0, hfz68_0⟩ := bz (.slice none 0 0) BK832))
        (try simp only [Act.put, List.setIfInBounds_toArray, List.set_cons_zero, List.set_cons_succ])
        go_cut [129] from 1 to 0 (fun v129 wc => ∃ (kq : Nat) (x129_48 : Bool), v129 = .bool x129_48 ∧ Aside0 (laws_FnTries.j2 kq l0 t808 t811 t821 t826 x129_48 t804 t818 t823 = some r) ∧ Aside0 (kq ≤ kj28) ∧ Aside0 (Kd.R Kd.string 9 wc w.heap.size (fun _ => True) v809 t808) ∧ Aside0 (Kd.R k74 74 wc w.heap.size (fun _ => True) (.slice Ao32 t804.length co32) t804) ∧ Aside0 (Kd.R k74 74 wc w.heap.size (fun _ => True) (.slice Ao52 t818.length co52) t818) ∧ Aside0 (Kd.R k74 74 wc w.heap.size (fun _ => True) (.slice Ao57 t823.length co57) t823) ∧ Aside0 (wc.heap[gb807]? = some (.cells #[(.slice Ao32 t804.length co32)] 26 (0, 0))) ∧ Aside0 (wc.heap[gb822]? = some (.cells #[(.slice Ao52 t818.length co52)] 26 (0, 0))) ∧ Aside0 (wc.heap[gb827]? = some (.cells #[(.slice Ao57 t823.length co57)] 26 (0, 0))) ∧ Aside0 (Below w.heap.size w wc))
        case first =>
         have H := HC49.out; clear HC49
         by_cases c69 : (t826 != t831) = true
         ·rw [if_pos c69] at H
          have c69b0 : (t826 != t831) = true := c69; (try (have c69b1 : decide (t826 = t831) = false := by simpa using c69)); (try (have c69b2 : (t826 == t831) = false := by simpa using c69)); (try (have c69b3 : ¬ (t826 = t831) := by simpa using c69)); clear c69; (first | rw [c69b0] | (simp only [i64_w, i32_w]; rw [c69b0]) | skip)
          exact (laws_FnTries.j2_no H HRT.out).elim
         ·rw [if_neg c69] at H
          have c69b0 : (t826 != t831) = false := by simpa using c69
          (try (have c69b1 : decide (t826 = t831) = true := by simpa using c69)); (try (have c69b2 : (t826 == t831) = true := by simpa using c69)); clear c69; (first | rw [c69b0] | (simp only [i64_w, i32_w]; rw [c69b0]) | skip); obtain ⟨t833, A70, H⟩ := bs H
          as_aux_lemma =>
           have H' := am H; clear H; obtain ⟨hnb71, hnc71⟩ := nk NB827_807; obtain ⟨hnb72, hnc72⟩ := nk NB827_822; obtain ⟨hnb73, hnc73⟩ := nk NB827_832; obtain ⟨hcz74_0, hfz74_0⟩ := bz (.slice Ao57 t823.length co57) BK827; obtain ⟨hnb75, hnc75⟩ := nk NB832_807; obtain ⟨hnb76, hnc76⟩ := nk NB832_822; obtain ⟨hcz77_0, hfz77_0⟩ := bz (.slice none 0 0) BK832
           go_wp2_with (first | (go_at_call 49; (with_reducible refine (laws_rTrie.calls kj28 _ _ t823 _ _ t828 t833 _ ?side1 ?side2 ?side3 ?side4 A70.out).mono ?_); (case side1 => refine (Kd.R_reads' (e := 74) (base := w.heap.size) (ok := fun k_ => True) (n := t823.length) (c := co57) ?_).2.2; exact (rX HO825)); (case side2 => exact (Kd.R_reads' HO825.out).2.1); (case side3 => refine (Kd.R_reads' (e := 74) (base := w.heap.size) (ok := fun k_ => True) (n := t828.length) (c := co64) ?_).2.2; exact (rX HO830)); (case side4 => exact (Kd.R_reads' HO830.out).2.1); rintro e w78 ⟨rfl, hb⟩; replace HO_9 := uX HO_9 hb; replace HO_808000 := uX HO_808000 hb; replace HO820 := uX HO820 hb; replace HO825 := uX HO825 hb; replace HO830 := uX HO830 hb; replace BK807 := uZ BK807 hb; replace BK822 := uZ BK822 hb; replace BK827 := uZ BK827 hb; replace BK832 := am (blk_below (g := gb832) (o := .cells #[.slice Ao64 t828.length co64] 26 (0, 0)) aU hb); replace HB := uS HB hb; (try clear hb)))
           go_meet
           case rel => exact ⟨_, (!t833), ax18, H', ⟨(by have := HJ6.out; have := HJ28.out; first | omega | exact Nat.le_refl _)⟩, ⟨aU⟩, ⟨aU⟩, ⟨aU⟩, ⟨aU⟩, ⟨aU⟩, ⟨aU⟩, ⟨aU⟩, ⟨aL⟩⟩
        case rest =>
         clear HC49; (try clear c0);(try clear hcz54_0);(try clear hfz54_0);(try clear hcz60_0);(try clear hfz60_0);(try clear hcz61_0);(try clear hfz61_0);(try clear hcz68_0);(try clear hfz68_0);(try clear c45); obtain ⟨kq, x129_48, rfl, HA, HJ48, HO_9, HO_808000, HO_823000, HO_828000, BK807, BK822, BK827, HB⟩ := hcut
         cases kq with
         | zero => exact absurd HA.out (by simp [laws_FnTries.j2])
         | succ kj48 =>
          have H := HA.out; clear HA; simp only [laws_FnTries.j2] at H
          by_cases c79 : x129_48 = true
          ·subst c79
           rw [if_pos rfl] at H
           as_aux_lemma =>
            exact absurd ((Option.some.inj H).trans HRT.out) (by decide)
          ·replace c79 := Bool.eq_false_iff.mpr c79
           subst c79; rw [if_neg (show ¬ (false = true) by decide)] at H; obtain ⟨⟨t834, t837⟩, A80, H⟩ := bs H; obtain ⟨⟨t839, t842⟩, A81, H⟩ := bs H; obtain ⟨⟨t844, t847⟩, A82, H⟩ := bs H; have HC83 := am H; clear H
           go_upto_region 21 with (first | ((with_reducible refine gd 132 58 ?_); refine gc 132 Tryz.func58 #[.slice A0 l0.length c0] (spec_DrawDropWord.calls kj48 _ _ l0 t834 t837 _ ax42 (HC0.out) A80.out) ?_; rintro e w84 ⟨v835, rfl, ho0, hb⟩; refine ⟨_, rfl, ?_⟩; replace HO_9 := uR HO_9 hb; replace HO_808000 := uR HO_808000 hb; replace HO_823000 := uR HO_823000 hb; replace HO_828000 := uR HO_828000 hb; have HO836 := am (Kd.R_lower ho0 (bS HB)); replace BK807 := ub BK807 hb; replace BK822 := ub BK822 hb; replace BK827 := ub BK827 hb; replace HB := uS HB hb; (try clear hb ho0)) | ((with_reducible refine gt 19 ?_); (try (refine gate_guard (by rfl) ?_; dsimp only)); refine bx 19 #[.slice none 0 0] 26 ?_; intro gb838 hg w85 hbox hb; replace HO_9 := uR HO_9 hb; replace HO_808000 := uR HO_808000 hb; replace HO_823000 := uR HO_823000 hb; replace HO_828000 := uR HO_828000 hb; replace HO836 := uR HO836 hb; have BK838 := am (hbox); have GW838 := uH hg HB; have GE838 := uH hg HB; replace HB := uS HB hb; obtain ⟨NB807_838, NB838_807, BK807⟩ := uA hg hb BK807; obtain ⟨NB822_838, NB838_822, BK822⟩ := uA hg hb BK822; obtain ⟨NB827_838, NB838_827, BK827⟩ := uA hg hb BK827; clear hb hbox hg; obtain ⟨Ao86, co86, rfl⟩ := Kd.R_slice HO836.out; obtain ⟨hnb87, hnc87⟩ := nk NB838_807; obtain ⟨hnb88, hnc88⟩ := nk NB838_822; obtain ⟨hnb89, hnc89⟩ := nk NB838_827; obtain ⟨hcz90_0, hfz90_0⟩ := bz (.slice none 0 0) BK838) | ((with_reducible refine gd 138 59 ?_); refine gc 138 Tryz.func59 #[.agg #[.slice Ao86 t834.length co86], .string t837] (impl_DropWord.calls kj48 _ _ t834 t837 t839 t842 _ (rd2 HO836) (rl HO836) A81.out) ?_; rintro e w91 ⟨v840, rfl, ho0, hb⟩; refine ⟨_, rfl, ?_⟩; replace HO_9 := uX HO_9 hb; replace HO_808000 := uX HO_808000 hb; replace HO_823000 := uX HO_823000 hb; replace HO_828000 := uX HO_828000 hb; replace HO836 := uX HO836 hb; have HO841 := am (Kd.R_lower ho0 (bS HB)); replace BK807 := uZ BK807 hb; replace BK822 := uZ BK822 hb; replace BK827 := uZ BK827 hb; replace BK838 := am (blk_below (g := gb838) (o := .cells #[.slice Ao86 t834.length co86] 26 (0, 0)) aU hb); replace HB := uS HB hb; (try clear hb ho0)) | ((with_reducible refine gt 21 ?_); (try (refine gate_guard (by rfl) ?_; dsimp only)); refine bx 21 #[.slice none 0 0] 26 ?_; intro gb843 hg w92 hbox hb; replace HO_9 := uR HO_9 hb; replace HO_808000 := uR HO_808000 hb; replace HO_823000 := uR HO_823000 hb; replace HO_828000 := uR HO_828000 hb; replace HO836 := uR HO836 hb; replace HO841 := uR HO841 hb; have BK843 := am (hbox); have GW843 := uH hg HB; have GE843 := uH hg HB; replace HB := uS HB hb; obtain ⟨NB807_843, NB843_807, BK807⟩ := uA hg hb BK807; obtain ⟨NB822_843, NB843_822, BK822⟩ := uA hg hb BK822; obtain ⟨NB827_843, NB843_827, BK827⟩ := uA hg hb BK827; obtain ⟨NB838_843, NB843_838, BK838⟩ := uA hg hb BK838; clear hb hbox hg; obtain ⟨Ao93, co93, rfl⟩ := Kd.R_slice HO841.out; obtain ⟨hnb94, hnc94⟩ := nk NB843_807; obtain ⟨hnb95, hnc95⟩ := nk NB843_822; obtain ⟨hnb96, hnc96⟩ := nk NB843_827; obtain ⟨hnb97, hnc97⟩ := nk NB843_838; obtain ⟨hcz98_0, hfz98_0⟩ := bz (.slice none 0 0) BK843; obtain ⟨hcz99_0, hfz99_0⟩ := bz (.slice Ao86 t834.length co86) BK838) | ((with_reducible refine gd 144 60 ?_); refine gc 144 Tryz.func60 #[.agg #[.slice Ao86 t834.length co86], .string t837] (spec_DropWord.calls kj48 _ _ t834 t837 t844 t847 _ (rd2 HO836) (rl HO836) A82.out) ?_; rintro e w100 ⟨v845, rfl, ho0, hb⟩; refine ⟨_, rfl, ?_⟩; replace HO_9 := uX HO_9 hb; replace HO_808000 := uX HO_808000 hb; replace HO_823000 := uX HO_823000 hb; replace HO_828000 := uX HO_828000 hb; replace HO836 := uX HO836 hb; replace HO841 := uX HO841 hb; have HO846 := am (Kd.R_lower ho0 (bS HB)); replace BK807 := uZ BK807 hb; replace BK822 := uZ BK822 hb; replace BK827 := uZ BK827 hb; replace BK838 := uZ BK838 hb; replace BK843 := am (blk_below (g := gb843) (o := .cells #[.slice Ao93 t839.length co93] 26 (0, 0)) aU hb); replace HB := uS HB hb; (try clear hb ho0)) | ((with_reducible refine gt 23 ?_); (try (refine gate_guard (by rfl) ?_; dsimp only)); refine bx 23 #[.slice none 0 0] 26 ?_; intro gb848 hg w101 hbox hb; replace HO_9 := uR HO_9 hb; replace HO_808000 := uR HO_808000 hb; replace HO_823000 := uR HO_823000 hb; replace HO_828000 := uR HO_828000 hb; replace HO836 := uR HO836 hb; replace HO841 := uR HO841 hb; replace HO846 := uR HO846 hb; have BK848 := am (hbox); have GW848 := uH hg HB; have GE848 := uH hg HB; replace HB := uS HB hb; obtain ⟨NB807_848, NB848_807, BK807⟩ := uA hg hb BK807; obtain ⟨NB822_848, NB848_822, BK822⟩ := uA hg hb BK822; obtain ⟨NB827_848, NB848_827, BK827⟩ := uA hg hb BK827; obtain ⟨NB838_848, NB848_838, BK838⟩ := uA hg hb BK838; obtain ⟨NB843_848, NB848_843, BK843⟩ := uA hg hb BK843; clear hb hbox hg; obtain ⟨Ao102, co102, rfl⟩ := Kd.R_slice HO846.out; obtain ⟨hnb103, hnc103⟩ := nk NB848_807; obtain ⟨hnb104, hnc104⟩ := nk NB848_822; obtain ⟨hnb105, hnc105⟩ := nk NB848_827; obtain ⟨hnb106, hnc106⟩ := nk NB848_838; obtain ⟨hnb107, hnc107⟩ := nk NB848_843; obtain ⟨hcz108_0, hfz108_0⟩ := bz (.slice none 0 0) BK848))
           (try simp only [Act.put, List.setIfInBounds_toArray, List.set_cons_zero, List.set_cons_succ])
           go_cut [155] from 1 to 0 (fun v155 wc => ∃ (kq : Nat) (x155_82 : Bool), v155 = .bool x155_82 ∧ Aside0 (laws_FnTries.j3 kq l0 t808 t811 t821 t826 t837 t842 x155_82 t804 t818 t823 t834 t839 = some r) ∧ Aside0 (kq ≤ kj48) ∧ Aside0 (Kd.R Kd.string 9 wc w.heap.size (fun _ => True) v809 t808) ∧ Aside0 (Kd.R k74 74 wc w.heap.size (fun _ => True) (.slice Ao32 t804.length co32) t804) ∧ Aside0 (Kd.R k74 74 wc w.heap.size (fun _ => True) (.slice Ao52 t818.length co52) t818) ∧ Aside0 (Kd.R k74 74 wc w.heap.size (fun _ => True) (.slice Ao57 t823.length co57) t823) ∧ Aside0 (Kd.R k74 74 wc w.heap.size (fun _ => True) (.slice Ao86 t834.length co86) t834) ∧ Aside0 (Kd.R k74 74 wc w.heap.size (fun _ => True) (.slice Ao93 t839.length co93) t839) ∧ Aside0 (wc.heap[gb807]? = some (.cells #[(.slice Ao32 t804.length co32)] 26 (0, 0))) ∧ Aside0 (wc.heap[gb822]? = some (.cells #[(.slice Ao52 t818.length co52)] 26 (0, 0))) ∧ Aside0 (wc.heap[gb827]? = some (.cells #[(.slice Ao57 t823.length co57)] 26 (0, 0))) ∧ Aside0 (wc.heap[gb838]? = some (.cells #[(.slice Ao86 t834.length co86)] 26 (0, 0))) ∧ Aside0 (wc.heap[gb843]? = some (.cells #[(.slice Ao93 t839.length co93)] 26 (0, 0))) ∧ Aside0 (Below w.heap.size w wc))
           case first =>
            have H := HC83.out; clear HC83
            by_cases c109 : (t842 != t847) = true
            ·rw [if_pos c109] at H
             have c109b0 : (t842 != t847) = true := c109; (try (have c109b1 : decide (t842 = t847) = false := by simpa using c109)); (try (have c109b2 : (t842 == t847) = false := by simpa using c109)); (try (have c109b3 : ¬ (t842 = t847) := by simpa using c109)); clear c109; (first | rw [c109b0] | (simp only [i64_w, i32_w]; rw [c109b0]) | skip)
             exact (laws_FnTries.j3_no H HRT.out).elim
            ·rw [if_neg c109] at H
             have c109b0 : (t842 != t847) = false := by simpa using c109
             (try (have c109b1 : decide (t842 = t847) = true := by simpa using c109)); (try (have c109b2 : (t842 == t847) = true := by simpa using c109)); clear c109; (first | rw [c109b0] | (simp only [i64_w, i32_w]; rw [c109b0]) | skip); obtain ⟨t849, A110, H⟩ := bs H
             as_aux_lemma =>
              have H' := am H; clear H; obtain ⟨hnb111, hnc111⟩ := nk NB843_807; obtain ⟨hnb112, hnc112⟩ := nk NB843_822; obtain ⟨hnb113, hnc113⟩ := nk NB843_827; obtain ⟨hnb114, hnc114⟩ := nk NB843_838; obtain ⟨hnb115, hnc115⟩ := nk NB843_848; obtain ⟨hcz116_0, hfz116_0⟩ := bz (.slice Ao93 t839.length co93) BK843; obtain ⟨hnb117, hnc117⟩ := nk NB848_807; obtain ⟨hnb118, hnc118⟩ := nk NB848_822; obtain ⟨hnb119, hnc119⟩ := nk NB848_827; obtain ⟨hnb120, hnc120⟩ := nk NB848_838; obtain ⟨hcz121_0, hfz121_0⟩ := bz (.slice none 0 0) BK848
              go_wp2_with (first | (go_at_call 49; (with_reducible refine (laws_rTrie.calls kj48 _ _ t839 _ _ t844 t849 _ ?side1 ?side2 ?side3 ?side4 A110.out).mono ?_); (case side1 => refine (Kd.R_reads' (e := 74) (base := w.heap.size) (ok := fun k_ => True) (n := t839.length) (c := co93) ?_).2.2; exact (rX HO841)); (case side2 => exact (Kd.R_reads' HO841.out).2.1); (case side3 => refine (Kd.R_reads' (e := 74) (base := w.heap.size) (ok := fun k_ => True) (n := t844.length) (c := co102) ?_).2.2; exact (rX HO846)); (case side4 => exact (Kd.R_reads' HO846.out).2.1); rintro e w122 ⟨rfl, hb⟩; replace HO_9 := uX HO_9 hb; replace HO_808000 := uX HO_808000 hb; replace HO_823000 := uX HO_823000 hb; replace HO_828000 := uX HO_828000 hb; replace HO836 := uX HO836 hb; replace HO841 := uX HO841 hb; replace HO846 := uX HO846 hb; replace BK807 := uZ BK807 hb; replace BK822 := uZ BK822 hb; replace BK827 := uZ BK827 hb; replace BK838 := uZ BK838 hb; replace BK843 := uZ BK843 hb; replace BK848 := am (blk_below (g := gb848) (o := .cells #[.slice Ao102 t844.length co102] 26 (0, 0)) aU hb); replace HB := uS HB hb; (try clear hb)))
              go_meet
              case rel => exact ⟨_, (!t849), ax18, H', ⟨(by have := HJ6.out; have := HJ28.out; have := HJ48.out; first | omega | exact Nat.le_refl _)⟩, ⟨aU⟩, ⟨aU⟩, ⟨aU⟩, ⟨aU⟩, ⟨aU⟩, ⟨aU⟩, ⟨aU⟩, ⟨aU⟩, ⟨aU⟩, ⟨aU⟩, ⟨aU⟩, ⟨aL⟩⟩
           case rest =>
            clear HC83; (try clear c0);(try clear hcz90_0);(try clear hfz90_0);(try clear hcz98_0);(try clear hfz98_0);(try clear hcz99_0);(try clear hfz99_0);(try clear hcz108_0);(try clear hfz108_0);(try clear c79); obtain ⟨kq, x155_82, rfl, HA, HJ82, HO_9, HO_808000, HO_823000, HO_828000, HO_839000, HO_844000, BK807, BK822, BK827, BK838, BK843, HB⟩ := hcut
            cases kq with
            | zero => exact absurd HA.out (by simp [laws_FnTries.j3])
            | succ kj82 =>
             have H := HA.out; clear HA; simp only [laws_FnTries.j3] at H
             by_cases c123 : x155_82 = true
             ·subst c123
              rw [if_pos rfl] at H
              as_aux_lemma =>
               exact absurd ((Option.some.inj H).trans HRT.out) (by decide)
             ·replace c123 := Bool.eq_false_iff.mpr c123
              subst c123; rw [if_neg (show ¬ (false = true) by decide)] at H; obtain ⟨⟨t850, t851⟩, A124, H⟩ := bs H; obtain ⟨⟨t852, t853⟩, A125, H⟩ := bs H; have HC126 := am H; clear H; obtain ⟨hnb127, hnc127⟩ := nk NB838_807; obtain ⟨hnb128, hnc128⟩ := nk NB838_822; obtain ⟨hnb129, hnc129⟩ := nk NB838_827; obtain ⟨hnb130, hnc130⟩ := nk NB838_843; obtain ⟨hcz131_0, hfz131_0⟩ := bz (.slice Ao86 t834.length co86) BK838
              go_upto_region 25 with (first | ((with_reducible refine gd 159 34 ?_); refine gc 159 Tryz.func34 #[.agg #[.slice Ao86 t834.length co86], .string t837] (impl_HasWord.calls kj82 _ _ t834 t837 t850 t851 _ (rd2 HO_839000) (rl HO_839000) A124.out) ?_; rintro e w132 ⟨rfl, hb⟩; refine ⟨_, rfl, ?_⟩; replace HO_9 := uR HO_9 hb; replace HO_808000 := uR HO_808000 hb; replace HO_823000 := uR HO_823000 hb; replace HO_828000 := uR HO_828000 hb; replace HO_839000 := uR HO_839000 hb; replace HO_844000 := uR HO_844000 hb; replace BK807 := ub BK807 hb; replace BK822 := ub BK822 hb; replace BK827 := ub BK827 hb; replace BK838 := ub BK838 hb; replace BK843 := ub BK843 hb; replace HB := uS HB hb; (try clear hb); obtain ⟨hcz133_0, hfz133_0⟩ := bz (.slice Ao86 t834.length co86) BK838) | ((with_reducible refine gd 165 61 ?_); refine gc 165 Tryz.func61 #[.agg #[.slice Ao86 t834.length co86], .string t837] (spec_HasWord.calls kj82 _ _ t834 t837 t852 t853 _ (rd2 HO_839000) (rl HO_839000) A125.out) ?_; rintro e w134 ⟨rfl, hb⟩; refine ⟨_, rfl, ?_⟩; replace HO_9 := uR HO_9 hb; replace HO_808000 := uR HO_808000 hb; replace HO_823000 := uR HO_823000 hb; replace HO_828000 := uR HO_828000 hb; replace HO_839000 := uR HO_839000 hb; replace HO_844000 := uR HO_844000 hb; replace BK807 := ub BK807 hb; replace BK822 := ub BK822 hb; replace BK827 := ub BK827 hb; replace BK838 := ub BK838 hb; replace BK843 := ub BK843 hb; replace HB := uS HB hb; (try clear hb)))
              (try simp only [Act.put, List.setIfInBounds_toArray, List.set_cons_zero, List.set_cons_succ])
              go_cut [193] from 1 to 0 (fun v193 wc => ∃ (kq : Nat) (x193_125 : Bool), v193 = .bool x193_125 ∧ Aside0 (laws_FnTries.j4 kq l0 t808 t811 t821 t826 t837 t842 x193_125 t804 t818 t823 t834 t839 = some r) ∧ Aside0 (kq ≤ kj82) ∧ Aside0 (Kd.R Kd.string 9 wc w.heap.size (fun _ => True) v809 t808) ∧ Aside0 (Kd.R k74 74 wc w.heap.size (fun _ => True) (.slice Ao32 t804.length co32) t804) ∧ Aside0 (Kd.R k74 74 wc w.heap.size (fun _ => True) (.slice Ao52 t818.length co52) t818) ∧ Aside0 (Kd.R k74 74 wc w.heap.size (fun _ => True) (.slice Ao57 t823.length co57) t823) ∧ Aside0 (Kd.R k74 74 wc w.heap.size (fun _ => True) (.slice Ao86 t834.length co86) t834) ∧ Aside0 (Kd.R k74 74 wc w.heap.size (fun _ => True) (.slice Ao93 t839.length co93) t839) ∧ Aside0 (wc.heap[gb807]? = some (.cells #[(.slice Ao32 t804.length co32)] 26 (0, 0))) ∧ Aside0 (wc.heap[gb822]? = some (.cells #[(.slice Ao52 t818.length co52)] 26 (0, 0))) ∧ Aside0 (wc.heap[gb827]? = some (.cells #[(.slice Ao57 t823.length co57)] 26 (0, 0))) ∧ Aside0 (wc.heap[gb838]? = some (.cells #[(.slice Ao86 t834.length co86)] 26 (0, 0))) ∧ Aside0 (wc.heap[gb843]? = some (.cells #[(.slice Ao93 t839.length co93)] 26 (0, 0))) ∧ Aside0 (Below w.heap.size w wc))
              case first =>
               have H := HC126.out; clear HC126
               by_cases c135 : (t850 != t852) = true
               ·rw [if_pos c135] at H
                have c135b0 : (t850 != t852) = true := c135; (try (have c135b1 : decide (t850 = t852) = false := by simpa using c135)); (try (have c135b2 : (t850 == t852) = false := by simpa using c135)); (try (have c135b3 : ¬ (t850 = t852) := by simpa using c135)); clear c135; (first | rw [c135b0] | (simp only [i64_w, i32_w]; rw [c135b0]) | skip)
                exact (laws_FnTries.j4_no H HRT.out).elim
               ·rw [if_neg c135] at H
                have c135b0 : (t850 != t852) = false := by simpa using c135
                (try (have c135b1 : decide (t850 = t852) = true := by simpa using c135)); (try (have c135b2 : (t850 == t852) = true := by simpa using c135)); clear c135; (first | rw [c135b0] | (simp only [i64_w, i32_w]; rw [c135b0]) | skip)
                by_cases c136 : (t851 != t853) = true
                ·rw [if_pos c136] at H
                 have c136b0 : (t851 != t853) = true := c136; (try (have c136b1 : decide (t851 = t853) = false := by simpa using c136)); (try (have c136b2 : (t851 == t853) = false := by simpa using c136)); (try (have c136b3 : ¬ (t851 = t853) := by simpa using c136)); clear c136
                 exact (laws_FnTries.j4_no H HRT.out).elim
                ·rw [if_neg c136] at H
                 have c136b0 : (t851 != t853) = false := by simpa using c136
                 (try (have c136b1 : decide (t851 = t853) = true := by simpa using c136)); (try (have c136b2 : (t851 == t853) = true := by simpa using c136)); clear c136; obtain ⟨t854, A137, H⟩ := bs H
                 by_cases c138 : t854 = true
                 ·subst c138
                  rw [if_pos rfl] at H; obtain ⟨t855, A139, H⟩ := bs H
                  by_cases c140 : (t851 != t855) = true
                  ·rw [if_pos c140] at H
                   have c140b0 : (t851 != t855) = true := c140; (try (have c140b1 : decide (t851 = t855) = false := by simpa using c140)); (try (have c140b2 : (t851 == t855) = false := by simpa using c140)); (try (have c140b3 : ¬ (t851 = t855) := by simpa using c140)); clear c140
                   exact (laws_FnTries.j4_no H HRT.out).elim
                  ·rw [if_neg c140] at H
                   have c140b0 : (t851 != t855) = false := by simpa using c140
                   (try (have c140b1 : decide (t851 = t855) = true := by simpa using c140)); (try (have c140b2 : (t851 == t855) = true := by simpa using c140)); clear c140
                   by_cases c141 : t851 = true
                   ·subst c141
                    rw [if_pos rfl] at H
                    as_aux_lemma =>
                     have H' := am H; clear H; obtain ⟨hnb142, hnc142⟩ := nk NB838_807; obtain ⟨hnb143, hnc143⟩ := nk NB838_822; obtain ⟨hnb144, hnc144⟩ := nk NB838_827; obtain ⟨hnb145, hnc145⟩ := nk NB838_843; obtain ⟨hcz146_0, hfz146_0⟩ := bz (.slice Ao86 t834.length co86) BK838
                     go_wp2_with (first | (go_at_call 53; (with_reducible refine (impl_IsTrie.calls kj82 _ _ t834 true _ ?side1 ?side2 A137.out).mono ?_); (case side1 => exact ax165); (case side2 => exact ax166); rintro e w147 ⟨rfl, hb⟩; replace HO_9 := uR HO_9 hb; replace HO_808000 := uR HO_808000 hb; replace HO_823000 := uR HO_823000 hb; replace HO_828000 := uR HO_828000 hb; replace HO_839000 := uR HO_839000 hb; replace HO_844000 := uR HO_844000 hb; replace BK807 := ub BK807 hb; replace BK822 := ub BK822 hb; replace BK827 := ub BK827 hb; replace BK838 := ub BK838 hb; replace BK843 := ub BK843 hb; replace HB := uS HB hb; (try clear hb)) | (go_at_call 62; (with_reducible refine (impl_IsWord.calls t837 t855 _ A139.out).mono ?_); rintro e w148 ⟨rfl, hb⟩; replace HO_9 := uR HO_9 hb; replace HO_808000 := uR HO_808000 hb; replace HO_823000 := uR HO_823000 hb; replace HO_828000 := uR HO_828000 hb; replace HO_839000 := uR HO_839000 hb; replace HO_844000 := uR HO_844000 hb; replace BK807 := ub BK807 hb; replace BK822 := ub BK822 hb; replace BK827 := ub BK827 hb; replace BK838 := ub BK838 hb; replace BK843 := ub BK843 hb; replace HB := uS HB hb; (try clear hb)))
                     go_meet
                     case rel => exact ⟨_, ((t842 != t850)), ax18, H', ⟨ax167⟩, ⟨aU⟩, ⟨aU⟩, ⟨aU⟩, ⟨aU⟩, ⟨aU⟩, ⟨aU⟩, ⟨aU⟩, ⟨aU⟩, ⟨aU⟩, ⟨aU⟩, ⟨aU⟩, ⟨aL⟩⟩
                   ·replace c141 := Bool.eq_false_iff.mpr c141
                    subst c141; rw [if_neg (show ¬ (false = true) by decide)] at H
                    as_aux_lemma =>
                     have H' := am H; clear H; obtain ⟨hnb149, hnc149⟩ := nk NB838_807; obtain ⟨hnb150, hnc150⟩ := nk NB838_822; obtain ⟨hnb151, hnc151⟩ := nk NB838_827; obtain ⟨hnb152, hnc152⟩ := nk NB838_843; obtain ⟨hcz153_0, hfz153_0⟩ := bz (.slice Ao86 t834.length co86) BK838
                     go_wp2_with (first | (go_at_call 53; (with_reducible refine (impl_IsTrie.calls kj82 _ _ t834 true _ ?side1 ?side2 A137.out).mono ?_); (case side1 => exact ax165); (case side2 => exact ax166); rintro e w154 ⟨rfl, hb⟩; replace HO_9 := uR HO_9 hb; replace HO_808000 := uR HO_808000 hb; replace HO_823000 := uR HO_823000 hb; replace HO_828000 := uR HO_828000 hb; replace HO_839000 := uR HO_839000 hb; replace HO_844000 := uR HO_844000 hb; replace BK807 := ub BK807 hb; replace BK822 := ub BK822 hb; replace BK827 := ub BK827 hb; replace BK838 := ub BK838 hb; replace BK843 := ub BK843 hb; replace HB := uS HB hb; (try clear hb)) | (go_at_call 62; (with_reducible refine (impl_IsWord.calls t837 t855 _ A139.out).mono ?_); rintro e w155 ⟨rfl, hb⟩; replace HO_9 := uR HO_9 hb; replace HO_808000 := uR HO_808000 hb; replace HO_823000 := uR HO_823000 hb; replace HO_828000 := uR HO_828000 hb; replace HO_839000 := uR HO_839000 hb; replace HO_844000 := uR HO_844000 hb; replace BK807 := ub BK807 hb; replace BK822 := ub BK822 hb; replace BK827 := ub BK827 hb; replace BK838 := ub BK838 hb; replace BK843 := ub BK843 hb; replace HB := uS HB hb; (try clear hb)))
                     go_meet
                     case rel => exact ⟨_, ((t842 != false)), ax18, H', ⟨ax167⟩, ⟨aU⟩, ⟨aU⟩, ⟨aU⟩, ⟨aU⟩, ⟨aU⟩, ⟨aU⟩, ⟨aU⟩, ⟨aU⟩, ⟨aU⟩, ⟨aU⟩, ⟨aU⟩, ⟨aL⟩⟩
                 ·replace c138 := Bool.eq_false_iff.mpr c138
                  subst c138; rw [if_neg (show ¬ (false = true) by decide)] at H
                  by_cases c156 : (t851 != false) = true
                  ·rw [if_pos c156] at H
                   have HZ156 := am H; clear H
                   obtain rfl : t851 = true := by simpa using c156
                   clear c156; have H := HZ156.out; clear HZ156
                   exact (laws_FnTries.j4_no H HRT.out).elim
                  ·rw [if_neg c156] at H
                   have c156b0 : (t851 != false) = false := by simpa using c156
                   (try (have c156b1 : decide (t851 = false) = true := by simpa using c156)); (try (have c156b2 : (t851 == false) = true := by simpa using c156)); clear c156
                   by_cases c157 : t851 = true
                   ·subst c157
                    rw [if_pos rfl] at H
                    as_aux_lemma =>
                     have H' := am H; clear H; obtain ⟨hnb158, hnc158⟩ := nk NB838_807; obtain ⟨hnb159, hnc159⟩ := nk NB838_822; obtain ⟨hnb160, hnc160⟩ := nk NB838_827; obtain ⟨hnb161, hnc161⟩ := nk NB838_843; obtain ⟨hcz162_0, hfz162_0⟩ := bz (.slice Ao86 t834.length co86) BK838
                     go_wp2_with (first | (go_at_call 53; (with_reducible refine (impl_IsTrie.calls kj82 _ _ t834 false _ ?side1 ?side2 A137.out).mono ?_); (case side1 => exact ax165); (case side2 => exact ax166); rintro e w163 ⟨rfl, hb⟩; replace HO_9 := uR HO_9 hb; replace HO_808000 := uR HO_808000 hb; replace HO_823000 := uR HO_823000 hb; replace HO_828000 := uR HO_828000 hb; replace HO_839000 := uR HO_839000 hb; replace HO_844000 := uR HO_844000 hb; replace BK807 := ub BK807 hb; replace BK822 := ub BK822 hb; replace BK827 := ub BK827 hb; replace BK838 := ub BK838 hb; replace BK843 := ub BK843 hb; replace HB := uS HB hb; (try clear hb)))
                     go_meet
                     case rel => exact ⟨_, ((t842 != t850)), ax18, H', ⟨ax167⟩, ⟨aU⟩, ⟨aU⟩, ⟨aU⟩, ⟨aU⟩, ⟨aU⟩, ⟨aU⟩, ⟨aU⟩, ⟨aU⟩, ⟨aU⟩, ⟨aU⟩, ⟨aU⟩, ⟨aL⟩⟩
                   ·replace c157 := Bool.eq_false_iff.mpr c157
                    subst c157; rw [if_neg (show ¬ (false = true) by decide)] at H
                    as_aux_lemma =>
                     have H' := am H; clear H; obtain ⟨hnb164, hnc164⟩ := nk NB838_807; obtain ⟨hnb165, hnc165⟩ := nk NB838_822; obtain ⟨hnb166, hnc166⟩ := nk NB838_827; obtain ⟨hnb167, hnc167⟩ := nk NB838_843; obtain ⟨hcz168_0, hfz168_0⟩ := bz (.slice Ao86 t834.length co86) BK838
                     go_wp2_with (first | (go_at_call 53; (with_reducible refine (impl_IsTrie.calls kj82 _ _ t834 false _ ?side1 ?side2 A137.out).mono ?_); (case side1 => exact ax165); (case side2 => exact ax166); rintro e w169 ⟨rfl, hb⟩; replace HO_9 := uR HO_9 hb; replace HO_808000 := uR HO_808000 hb; replace HO_823000 := uR HO_823000 hb; replace HO_828000 := uR HO_828000 hb; replace HO_839000 := uR HO_839000 hb; replace HO_844000 := uR HO_844000 hb; replace BK807 := ub BK807 hb; replace BK822 := ub BK822 hb; replace BK827 := ub BK827 hb; replace BK838 := ub BK838 hb; replace BK843 := ub BK843 hb; replace HB := uS HB hb; (try clear hb)))
                     go_meet
                     case rel => exact ⟨_, ((t842 != false)), ax18, H', ⟨ax167⟩, ⟨aU⟩, ⟨aU⟩, ⟨aU⟩, ⟨aU⟩, ⟨aU⟩, ⟨aU⟩, ⟨aU⟩, ⟨aU⟩, ⟨aU⟩, ⟨aU⟩, ⟨aU⟩, ⟨aL⟩⟩
              case rest =>
               clear HC126; (try clear hcz133_0);(try clear hfz133_0);(try clear hfz131_0);(try clear hcz131_0);(try clear c123); obtain ⟨kq, x193_125, rfl, HA, HJ125, HO_9, HO_808000, HO_823000, HO_828000, HO_839000, HO_844000, BK807, BK822, BK827, BK838, BK843, HB⟩ := hcut
               cases kq with
               | zero => exact absurd HA.out (by simp [laws_FnTries.j4])
               | succ kj125 =>
                have H := HA.out; clear HA; simp only [laws_FnTries.j4] at H
                by_cases c170 : x193_125 = true
                ·subst c170
                 rw [if_pos rfl] at H
                 as_aux_lemma =>
                  exact absurd ((Option.some.inj H).trans HRT.out) (by decide)
                ·replace c170 := Bool.eq_false_iff.mpr c170
                 subst c170; rw [if_neg (show ¬ (false = true) by decide)] at H; obtain ⟨⟨t856, t857⟩, A171, H⟩ := bs H; obtain ⟨⟨t858, t859⟩, A172, H⟩ := bs H; have HC173 := am H; clear H; obtain ⟨hnb174, hnc174⟩ := nk NB807_822; obtain ⟨hnb175, hnc175⟩ := nk NB807_827; obtain ⟨hnb176, hnc176⟩ := nk NB807_838; obtain ⟨hnb177, hnc177⟩ := nk NB807_843; obtain ⟨hcz178_0, hfz178_0⟩ := bz (.slice Ao32 t804.length co32) BK807
                 go_upto_region 29 with (first | ((with_reducible refine gd 196 22 ?_); refine gc 196 Tryz.func22 #[.agg #[.slice Ao32 t804.length co32]] (impl_CountWords.calls kj125 _ _ t804 t856 t857 _ (rd2 HO_808000) (rl HO_808000) A171.out) ?_; rintro e w179 ⟨rfl, hb⟩; refine ⟨_, rfl, ?_⟩; replace HO_9 := uR HO_9 hb; replace HO_808000 := uR HO_808000 hb; replace HO_823000 := uR HO_823000 hb; replace HO_828000 := uR HO_828000 hb; replace HO_839000 := uR HO_839000 hb; replace HO_844000 := uR HO_844000 hb; replace BK807 := ub BK807 hb; replace BK822 := ub BK822 hb; replace BK827 := ub BK827 hb; replace BK838 := ub BK838 hb; replace BK843 := ub BK843 hb; replace HB := uS HB hb; (try clear hb); obtain ⟨hcz180_0, hfz180_0⟩ := bz (.slice Ao32 t804.length co32) BK807) | ((with_reducible refine gd 201 63 ?_); refine gc 201 Tryz.func63 #[.agg #[.slice Ao32 t804.length co32]] (spec_CountWords.calls kj125 _ _ t804 t858 t859 _ (rd2 HO_808000) (rl HO_808000) A172.out) ?_; rintro e w181 ⟨rfl, hb⟩; refine ⟨_, rfl, ?_⟩; replace HO_9 := uR HO_9 hb; replace HO_808000 := uR HO_808000 hb; replace HO_823000 := uR HO_823000 hb; replace HO_828000 := uR HO_828000 hb; replace HO_839000 := uR HO_839000 hb; replace HO_844000 := uR HO_844000 hb; replace BK807 := ub BK807 hb; replace BK822 := ub BK822 hb; replace BK827 := ub BK827 hb; replace BK838 := ub BK838 hb; replace BK843 := ub BK843 hb; replace HB := uS HB hb; (try clear hb)))
                 (try simp only [Act.put, List.setIfInBounds_toArray, List.set_cons_zero, List.set_cons_succ])
                 go_cut [225] from 1 to 0 (fun v225 wc => ∃ (kq : Nat) (x225_172 : Bool), v225 = .bool x225_172 ∧ Aside0 (laws_FnTries.j5 kq l0 t808 t811 t821 t826 t837 t842 x225_172 t804 t818 t823 t834 t839 = some r) ∧ Aside0 (kq ≤ kj125) ∧ Aside0 (Kd.R Kd.string 9 wc w.heap.size (fun _ => True) v809 t808) ∧ Aside0 (Kd.R k74 74 wc w.heap.size (fun _ => True) (.slice Ao32 t804.length co32) t804) ∧ Aside0 (Kd.R k74 74 wc w.heap.size (fun _ => True) (.slice Ao52 t818.length co52) t818) ∧ Aside0 (Kd.R k74 74 wc w.heap.size (fun _ => True) (.slice Ao57 t823.length co57) t823) ∧ Aside0 (Kd.R k74 74 wc w.heap.size (fun _ => True) (.slice Ao86 t834.length co86) t834) ∧ Aside0 (Kd.R k74 74 wc w.heap.size (fun _ => True) (.slice Ao93 t839.length co93) t839) ∧ Aside0 (wc.heap[gb807]? = some (.cells #[(.slice Ao32 t804.length co32)] 26 (0, 0))) ∧ Aside0 (wc.heap[gb822]? = some (.cells #[(.slice Ao52 t818.length co52)] 26 (0, 0))) ∧ Aside0 (wc.heap[gb827]? = some (.cells #[(.slice Ao57 t823.length co57)] 26 (0, 0))) ∧ Aside0 (wc.heap[gb838]? = some (.cells #[(.slice Ao86 t834.length co86)] 26 (0, 0))) ∧ Aside0 (wc.heap[gb843]? = some (.cells #[(.slice Ao93 t839.length co93)] 26 (0, 0))) ∧ Aside0 (Below w.heap.size w wc))
                 case first =>
                  have H := HC173.out; clear HC173
                  by_cases c182 : t856 = t858
                  ·rw [if_pos c182] at H
                   have c182b0 := beq_iff_eq.mpr c182; have c182b1 := bne_eq_false_iff_eq.mpr c182; clear c182; (first | rw [c182b0] | (simp only [i64_w, i32_w]; rw [c182b0]) | skip)
                   by_cases c183 : (t857 != t859) = true
                   ·rw [if_pos c183] at H
                    have c183b0 : (t857 != t859) = true := c183; (try (have c183b1 : decide (t857 = t859) = false := by simpa using c183)); (try (have c183b2 : (t857 == t859) = false := by simpa using c183)); (try (have c183b3 : ¬ (t857 = t859) := by simpa using c183)); clear c183
                    exact (laws_FnTries.j5_no H HRT.out).elim
                   ·rw [if_neg c183] at H
                    have c183b0 : (t857 != t859) = false := by simpa using c183
                    (try (have c183b1 : decide (t857 = t859) = true := by simpa using c183)); (try (have c183b2 : (t857 == t859) = true := by simpa using c183)); clear c183
                    by_cases c184 : (t857 != t811) = true
                    ·rw [if_pos c184] at H
                     have c184b0 : (t857 != t811) = true := c184; (try (have c184b1 : decide (t857 = t811) = false := by simpa using c184)); (try (have c184b2 : (t857 == t811) = false := by simpa using c184)); (try (have c184b3 : ¬ (t857 = t811) := by simpa using c184)); clear c184
                     exact (laws_FnTries.j5_no H HRT.out).elim
                    ·rw [if_neg c184] at H
                     have c184b0 : (t857 != t811) = false := by simpa using c184
                     (try (have c184b1 : decide (t857 = t811) = true := by simpa using c184)); (try (have c184b2 : (t857 == t811) = true := by simpa using c184)); clear c184
                     by_cases c185 : t811 = true
                     ·subst c185
                      rw [if_pos rfl] at H
                      as_aux_lemma =>
                       have H' := am H; clear H; obtain ⟨Ao186, co186, rfl⟩ := Kd.R_slice HO_9.out
                       go_wp2
                       go_meet
                       case rel => exact ⟨_, ((t856 != (t808.length : Int))), ax18, H', ⟨ax168⟩, ⟨aU⟩, ⟨aU⟩, ⟨aU⟩, ⟨aU⟩, ⟨aU⟩, ⟨aU⟩, ⟨aU⟩, ⟨aU⟩, ⟨aU⟩, ⟨aU⟩, ⟨aU⟩, ⟨aL⟩⟩
                     ·replace c185 := Bool.eq_false_iff.mpr c185
                      subst c185; rw [if_neg (show ¬ (false = true) by decide)] at H
                      as_aux_lemma =>
                       have H' := am H; clear H
                       go_wp2
                       go_meet
                       case rel => exact ⟨_, (false), ax18, H', ⟨ax168⟩, ⟨aU⟩, ⟨aU⟩, ⟨aU⟩, ⟨aU⟩, ⟨aU⟩, ⟨aU⟩, ⟨aU⟩, ⟨aU⟩, ⟨aU⟩, ⟨aU⟩, ⟨aU⟩, ⟨aL⟩⟩
                  ·rw [if_neg c182] at H
                   have c182b0 := beq_eq_false_iff_ne.mpr c182; have c182b1 := bne_iff_ne.mpr c182; (first | rw [c182b0] | (simp only [i64_w, i32_w]; rw [c182b0]) | skip)
                   exact (laws_FnTries.j5_no H HRT.out).elim
                 case rest =>
                  clear HC173; (try clear hcz180_0);(try clear hfz180_0);(try clear hfz178_0);(try clear hcz178_0);(try clear c170); obtain ⟨kq, x225_172, rfl, HA, HJ172, HO_9, HO_808000, HO_823000, HO_828000, HO_839000, HO_844000, BK807, BK822, BK827, BK838, BK843, HB⟩ := hcut
                  cases kq with
                  | zero => exact absurd HA.out (by simp [laws_FnTries.j5])
                  | succ kj172 =>
                   have H := HA.out; clear HA; simp only [laws_FnTries.j5] at H
                   by_cases c187 : x225_172 = true
                   ·subst c187
                    rw [if_pos rfl] at H
                    as_aux_lemma =>
                     exact absurd ((Option.some.inj H).trans HRT.out) (by decide)
                   ·replace c187 := Bool.eq_false_iff.mpr c187
                    subst c187; rw [if_neg (show ¬ (false = true) by decide)] at H; obtain ⟨⟨t860, t861⟩, A188, H⟩ := bs H; obtain ⟨⟨t862, t863⟩, A189, H⟩ := bs H; have HC190 := am H; clear H; obtain ⟨hnb191, hnc191⟩ := nk NB807_822; obtain ⟨hnb192, hnc192⟩ := nk NB807_827; obtain ⟨hnb193, hnc193⟩ := nk NB807_838; obtain ⟨hnb194, hnc194⟩ := nk NB807_843; obtain ⟨hcz195_0, hfz195_0⟩ := bz (.slice Ao32 t804.length co32) BK807
                    go_upto_region 33 with (first | ((with_reducible refine gd 228 64 ?_); refine gc 228 Tryz.func64 #[.agg #[.slice Ao32 t804.length co32]] (impl_TrieText.calls kj172 _ _ t804 t860 t861 _ (rd2 HO_808000) (rl HO_808000) A188.out) ?_; rintro e w196 ⟨rfl, hb⟩; refine ⟨_, rfl, ?_⟩; replace HO_9 := uR HO_9 hb; replace HO_808000 := uR HO_808000 hb; replace HO_823000 := uR HO_823000 hb; replace HO_828000 := uR HO_828000 hb; replace HO_839000 := uR HO_839000 hb; replace HO_844000 := uR HO_844000 hb; replace BK807 := ub BK807 hb; replace BK822 := ub BK822 hb; replace BK827 := ub BK827 hb; replace BK838 := ub BK838 hb; replace BK843 := ub BK843 hb; replace HB := uS HB hb; (try clear hb); obtain ⟨hcz197_0, hfz197_0⟩ := bz (.slice Ao32 t804.length co32) BK807) | ((with_reducible refine gd 233 65 ?_); refine gc 233 Tryz.func65 #[.agg #[.slice Ao32 t804.length co32]] (spec_TrieText.calls kj172 _ _ t804 t862 t863 _ (rd2 HO_808000) (rl HO_808000) A189.out) ?_; rintro e w198 ⟨rfl, hb⟩; refine ⟨_, rfl, ?_⟩; replace HO_9 := uR HO_9 hb; replace HO_808000 := uR HO_808000 hb; replace HO_823000 := uR HO_823000 hb; replace HO_828000 := uR HO_828000 hb; replace HO_839000 := uR HO_839000 hb; replace HO_844000 := uR HO_844000 hb; replace BK807 := ub BK807 hb; replace BK822 := ub BK822 hb; replace BK827 := ub BK827 hb; replace BK838 := ub BK838 hb; replace BK843 := ub BK843 hb; replace HB := uS HB hb; (try clear hb)))
                    (try simp only [Act.put, List.setIfInBounds_toArray, List.set_cons_zero, List.set_cons_succ])
                    go_cut [248] from 1 to 0 (fun v248 wc => ∃ (kq : Nat) (x248_189 : Bool), v248 = .bool x248_189 ∧ Aside0 (laws_FnTries.j6 kq l0 t808 t811 t821 t826 t837 t842 t860 x248_189 t804 t818 t823 t834 t839 = some r) ∧ Aside0 (kq ≤ kj172) ∧ Aside0 (Kd.R Kd.string 9 wc w.heap.size (fun _ => True) v809 t808) ∧ Aside0 (Kd.R k74 74 wc w.heap.size (fun _ => True) (.slice Ao32 t804.length co32) t804) ∧ Aside0 (Kd.R k74 74 wc w.heap.size (fun _ => True) (.slice Ao52 t818.length co52) t818) ∧ Aside0 (Kd.R k74 74 wc w.heap.size (fun _ => True) (.slice Ao57 t823.length co57) t823) ∧ Aside0 (Kd.R k74 74 wc w.heap.size (fun _ => True) (.slice Ao86 t834.length co86) t834) ∧ Aside0 (Kd.R k74 74 wc w.heap.size (fun _ => True) (.slice Ao93 t839.length co93) t839) ∧ Aside0 (wc.heap[gb807]? = some (.cells #[(.slice Ao32 t804.length co32)] 26 (0, 0))) ∧ Aside0 (wc.heap[gb822]? = some (.cells #[(.slice Ao52 t818.length co52)] 26 (0, 0))) ∧ Aside0 (wc.heap[gb827]? = some (.cells #[(.slice Ao57 t823.length co57)] 26 (0, 0))) ∧ Aside0 (wc.heap[gb838]? = some (.cells #[(.slice Ao86 t834.length co86)] 26 (0, 0))) ∧ Aside0 (wc.heap[gb843]? = some (.cells #[(.slice Ao93 t839.length co93)] 26 (0, 0))) ∧ Aside0 (Below w.heap.size w wc))
                    case first =>
                     have H := HC190.out; clear HC190
                     by_cases c199 : t860.toList = t862.toList
                     ·rw [if_pos c199] at H
                      have c199b0 := beq_iff_eq.mpr c199; have c199b1 := bne_eq_false_iff_eq.mpr c199; clear c199; (first | rw [c199b0] | (simp only [i64_w, i32_w]; rw [c199b0]) | skip)
                      by_cases c200 : (t861 != t863) = true
                      ·rw [if_pos c200] at H
                       have c200b0 : (t861 != t863) = true := c200; (try (have c200b1 : decide (t861 = t863) = false := by simpa using c200)); (try (have c200b2 : (t861 == t863) = false := by simpa using c200)); (try (have c200b3 : ¬ (t861 = t863) := by simpa using c200)); clear c200
                       exact (laws_FnTries.j6_no H HRT.out).elim
                      ·rw [if_neg c200] at H
                       have c200b0 : (t861 != t863) = false := by simpa using c200
                       (try (have c200b1 : decide (t861 = t863) = true := by simpa using c200)); (try (have c200b2 : (t861 == t863) = true := by simpa using c200)); clear c200
                       as_aux_lemma =>
                        have H' := am H; clear H
                        go_wp2
                        go_meet
                        case rel => exact ⟨_, ((t861 != t811)), ax18, H', ⟨(by have := HJ6.out; have := HJ28.out; have := HJ48.out; have := HJ82.out; have := HJ125.out; have := HJ172.out; first | omega | exact Nat.le_refl _)⟩, ⟨aU⟩, ⟨aU⟩, ⟨aU⟩, ⟨aU⟩, ⟨aU⟩, ⟨aU⟩, ⟨aU⟩, ⟨aU⟩, ⟨aU⟩, ⟨aU⟩, ⟨aU⟩, ⟨aL⟩⟩
                     ·rw [if_neg c199] at H
                      have c199b0 := beq_eq_false_iff_ne.mpr c199; have c199b1 := bne_iff_ne.mpr c199; (first | rw [c199b0] | (simp only [i64_w, i32_w]; rw [c199b0]) | skip)
                      exact (laws_FnTries.j6_no H HRT.out).elim
                    case rest =>
                     clear HC190; (try clear hcz197_0);(try clear hfz197_0);(try clear hfz195_0);(try clear hcz195_0);(try clear c187); obtain ⟨kq, x248_189, rfl, HA, HJ189, HO_9, HO_808000, HO_823000, HO_828000, HO_839000, HO_844000, BK807, BK822, BK827, BK838, BK843, HB⟩ := hcut
                     cases kq with
                     | zero => exact absurd HA.out (by simp [laws_FnTries.j6])
                     | succ kj189 =>
                      have H := HA.out; clear HA; simp only [laws_FnTries.j6] at H
                      by_cases c201 : x248_189 = true
                      ·subst c201
                       rw [if_pos rfl] at H
                       as_aux_lemma =>
                        exact absurd ((Option.some.inj H).trans HRT.out) (by decide)
                      ·replace c201 := Bool.eq_false_iff.mpr c201
                       subst c201; rw [if_neg (show ¬ (false = true) by decide)] at H; obtain ⟨t864, A202, H⟩ := bs H; obtain ⟨⟨t865, t868⟩, A203, H⟩ := bs H; obtain ⟨⟨t870, t873⟩, A204, H⟩ := bs H; have HC205 := am H; clear H
                       go_upto_region 38 with (first | ((with_reducible refine gd 250 66 ?_); refine gc 250 Tryz.func66 #[.slice A0 l0.length c0] (spec_DrawParseTrie.calls kj189 _ _ l0 t864 _ ax42 (HC0.out) A202.out) ?_; rintro e w206 ⟨rfl, hb⟩; refine ⟨_, rfl, ?_⟩; replace HO_9 := uR HO_9 hb; replace HO_808000 := uR HO_808000 hb; replace HO_823000 := uR HO_823000 hb; replace HO_828000 := uR HO_828000 hb; replace HO_839000 := uR HO_839000 hb; replace HO_844000 := uR HO_844000 hb; replace BK807 := ub BK807 hb; replace BK822 := ub BK822 hb; replace BK827 := ub BK827 hb; replace BK838 := ub BK838 hb; replace BK843 := ub BK843 hb; replace HB := uS HB hb; (try clear hb)) | ((with_reducible refine gd 253 67 ?_); refine gc 253 Tryz.func67 #[.string t864] (impl_ParseTrie.calls kj189 t864 t865 t868 _ A203.out) ?_; rintro e w207 ⟨v866, rfl, ho0, hb⟩; refine ⟨_, rfl, ?_⟩; replace HO_9 := uR HO_9 hb; replace HO_808000 := uR HO_808000 hb; replace HO_823000 := uR HO_823000 hb; replace HO_828000 := uR HO_828000 hb; replace HO_839000 := uR HO_839000 hb; replace HO_844000 := uR HO_844000 hb; have HO867 := am (Kd.R_lower ho0 (bS HB)); replace BK807 := ub BK807 hb; replace BK822 := ub BK822 hb; replace BK827 := ub BK827 hb; replace BK838 := ub BK838 hb; replace BK843 := ub BK843 hb; replace HB := uS HB hb; (try clear hb ho0)) | ((with_reducible refine gt 38 ?_); (try (refine gate_guard (by rfl) ?_; dsimp only)); refine bx 38 #[.slice none 0 0] 26 ?_; intro gb869 hg w208 hbox hb; replace HO_9 := uR HO_9 hb; replace HO_808000 := uR HO_808000 hb; replace HO_823000 := uR HO_823000 hb; replace HO_828000 := uR HO_828000 hb; replace HO_839000 := uR HO_839000 hb; replace HO_844000 := uR HO_844000 hb; replace HO867 := uR HO867 hb; have BK869 := am (hbox); have GW869 := uH hg HB; have GE869 := uH hg HB; replace HB := uS HB hb; obtain ⟨NB807_869, NB869_807, BK807⟩ := uA hg hb BK807; obtain ⟨NB822_869, NB869_822, BK822⟩ := uA hg hb BK822; obtain ⟨NB827_869, NB869_827, BK827⟩ := uA hg hb BK827; obtain ⟨NB838_869, NB869_838, BK838⟩ := uA hg hb BK838; obtain ⟨NB843_869, NB869_843, BK843⟩ := uA hg hb BK843; clear hb hbox hg; obtain ⟨Ao209, co209, rfl⟩ := Kd.R_slice HO867.out; obtain ⟨hnb210, hnc210⟩ := nk NB869_807; obtain ⟨hnb211, hnc211⟩ := nk NB869_822; obtain ⟨hnb212, hnc212⟩ := nk NB869_827; obtain ⟨hnb213, hnc213⟩ := nk NB869_838; obtain ⟨hnb214, hnc214⟩ := nk NB869_843; obtain ⟨hcz215_0, hfz215_0⟩ := bz (.slice none 0 0) BK869) | ((with_reducible refine gd 258 68 ?_); refine gc 258 Tryz.func68 #[.string t864] (spec_ParseTrie.calls kj189 t864 t870 t873 _ A204.out) ?_; rintro e w216 ⟨v871, rfl, ho0, hb⟩; refine ⟨_, rfl, ?_⟩; replace HO_9 := uX HO_9 hb; replace HO_808000 := uX HO_808000 hb; replace HO_823000 := uX HO_823000 hb; replace HO_828000 := uX HO_828000 hb; replace HO_839000 := uX HO_839000 hb; replace HO_844000 := uX HO_844000 hb; replace HO867 := uX HO867 hb; have HO872 := am (Kd.R_lower ho0 (bS HB)); replace BK807 := uZ BK807 hb; replace BK822 := uZ BK822 hb; replace BK827 := uZ BK827 hb; replace BK838 := uZ BK838 hb; replace BK843 := uZ BK843 hb; replace BK869 := am (blk_below (g := gb869) (o := .cells #[.slice Ao209 t865.length co209] 26 (0, 0)) aU hb); replace HB := uS HB hb; (try clear hb ho0)) | ((with_reducible refine gt 40 ?_); (try (refine gate_guard (by rfl) ?_; dsimp only)); refine bx 40 #[.slice none 0 0] 26 ?_; intro gb874 hg w217 hbox hb; replace HO_9 := uR HO_9 hb; replace HO_808000 := uR HO_808000 hb; replace HO_823000 := uR HO_823000 hb; replace HO_828000 := uR HO_828000 hb; replace HO_839000 := uR HO_839000 hb; replace HO_844000 := uR HO_844000 hb; replace HO867 := uR HO867 hb; replace HO872 := uR HO872 hb; have BK874 := am (hbox); have GW874 := uH hg HB; have GE874 := uH hg HB; replace HB := uS HB hb; obtain ⟨NB807_874, NB874_807, BK807⟩ := uA hg hb BK807; obtain ⟨NB822_874, NB874_822, BK822⟩ := uA hg hb BK822; obtain ⟨NB827_874, NB874_827, BK827⟩ := uA hg hb BK827; obtain ⟨NB838_874, NB874_838, BK838⟩ := uA hg hb BK838; obtain ⟨NB843_874, NB874_843, BK843⟩ := uA hg hb BK843; obtain ⟨NB869_874, NB874_869, BK869⟩ := uA hg hb BK869; clear hb hbox hg; obtain ⟨Ao218, co218, rfl⟩ := Kd.R_slice HO872.out; obtain ⟨hnb219, hnc219⟩ := nk NB874_807; obtain ⟨hnb220, hnc220⟩ := nk NB874_822; obtain ⟨hnb221, hnc221⟩ := nk NB874_827; obtain ⟨hnb222, hnc222⟩ := nk NB874_838; obtain ⟨hnb223, hnc223⟩ := nk NB874_843; obtain ⟨hnb224, hnc224⟩ := nk NB874_869; obtain ⟨hcz225_0, hfz225_0⟩ := bz (.slice none 0 0) BK874))
                       (try simp only [Act.put, List.setIfInBounds_toArray, List.set_cons_zero, List.set_cons_succ])
                       go_cut [269] from 1 to 0 (fun v269 wc => ∃ (kq : Nat) (x269_204 : Bool), v269 = .bool x269_204 ∧ Aside0 (laws_FnTries.j7 kq t808 t811 t821 t826 t837 t842 t860 x269_204 t804 t818 t823 t834 t839 = some r) ∧ Aside0 (kq ≤ kj189) ∧ Aside0 (Kd.R Kd.string 9 wc w.heap.size (fun _ => True) v809 t808) ∧ Aside0 (Kd.R k74 74 wc w.heap.size (fun _ => True) (.slice Ao32 t804.length co32) t804) ∧ Aside0 (Kd.R k74 74 wc w.heap.size (fun _ => True) (.slice Ao52 t818.length co52) t818) ∧ Aside0 (Kd.R k74 74 wc w.heap.size (fun _ => True) (.slice Ao57 t823.length co57) t823) ∧ Aside0 (Kd.R k74 74 wc w.heap.size (fun _ => True) (.slice Ao86 t834.length co86) t834) ∧ Aside0 (Kd.R k74 74 wc w.heap.size (fun _ => True) (.slice Ao93 t839.length co93) t839) ∧ Aside0 (wc.heap[gb807]? = some (.cells #[(.slice Ao32 t804.length co32)] 26 (0, 0))) ∧ Aside0 (wc.heap[gb822]? = some (.cells #[(.slice Ao52 t818.length co52)] 26 (0, 0))) ∧ Aside0 (wc.heap[gb827]? = some (.cells #[(.slice Ao57 t823.length co57)] 26 (0, 0))) ∧ Aside0 (wc.heap[gb838]? = some (.cells #[(.slice Ao86 t834.length co86)] 26 (0, 0))) ∧ Aside0 (wc.heap[gb843]? = some (.cells #[(.slice Ao93 t839.length co93)] 26 (0, 0))) ∧ Aside0 (Below w.heap.size w wc))
                       case first =>
                        have H := HC205.out; clear HC205
                        by_cases c226 : (t868 != t873) = true
                        ·rw [if_pos c226] at H
                         have c226b0 : (t868 != t873) = true := c226; (try (have c226b1 : decide (t868 = t873) = false := by simpa using c226)); (try (have c226b2 : (t868 == t873) = false := by simpa using c226)); (try (have c226b3 : ¬ (t868 = t873) := by simpa using c226)); clear c226; (first | rw [c226b0] | (simp only [i64_w, i32_w]; rw [c226b0]) | skip)
                         exact (laws_FnTries.j7_no H HRT.out).elim
                        ·rw [if_neg c226] at H
                         have c226b0 : (t868 != t873) = false := by simpa using c226
                         (try (have c226b1 : decide (t868 = t873) = true := by simpa using c226)); (try (have c226b2 : (t868 == t873) = true := by simpa using c226)); clear c226; (first | rw [c226b0] | (simp only [i64_w, i32_w]; rw [c226b0]) | skip); obtain ⟨t875, A227, H⟩ := bs H
                         as_aux_lemma =>
                          have H' := am H; clear H; obtain ⟨hnb228, hnc228⟩ := nk NB869_807; obtain ⟨hnb229, hnc229⟩ := nk NB869_822; obtain ⟨hnb230, hnc230⟩ := nk NB869_827; obtain ⟨hnb231, hnc231⟩ := nk NB869_838; obtain ⟨hnb232, hnc232⟩ := nk NB869_843; obtain ⟨hnb233, hnc233⟩ := nk NB869_874; obtain ⟨hcz234_0, hfz234_0⟩ := bz (.slice Ao209 t865.length co209) BK869; obtain ⟨hnb235, hnc235⟩ := nk NB874_807; obtain ⟨hnb236, hnc236⟩ := nk NB874_822; obtain ⟨hnb237, hnc237⟩ := nk NB874_827; obtain ⟨hnb238, hnc238⟩ := nk NB874_838; obtain ⟨hnb239, hnc239⟩ := nk NB874_843; obtain ⟨hcz240_0, hfz240_0⟩ := bz (.slice none 0 0) BK874
                          go_wp2_with (first | (go_at_call 49; (with_reducible refine (laws_rTrie.calls kj189 _ _ t865 _ _ t870 t875 _ ?side1 ?side2 ?side3 ?side4 A227.out).mono ?_); (case side1 => refine (Kd.R_reads' (e := 74) (base := w.heap.size) (ok := fun k_ => True) (n := t865.length) (c := co209) ?_).2.2; exact (rX HO867)); (case side2 => exact (Kd.R_reads' HO867.out).2.1); (case side3 => refine (Kd.R_reads' (e := 74) (base := w.heap.size) (ok := fun k_ => True) (n := t870.length) (c := co218) ?_).2.2; exact (rX HO872)); (case side4 => exact (Kd.R_reads' HO872.out).2.1); rintro e w241 ⟨rfl, hb⟩; replace HO_9 := uX HO_9 hb; replace HO_808000 := uX HO_808000 hb; replace HO_823000 := uX HO_823000 hb; replace HO_828000 := uX HO_828000 hb; replace HO_839000 := uX HO_839000 hb; replace HO_844000 := uX HO_844000 hb; replace HO867 := uX HO867 hb; replace HO872 := uX HO872 hb; replace BK807 := uZ BK807 hb; replace BK822 := uZ BK822 hb; replace BK827 := uZ BK827 hb; replace BK838 := uZ BK838 hb; replace BK843 := uZ BK843 hb; replace BK869 := uZ BK869 hb; replace BK874 := am (blk_below (g := gb874) (o := .cells #[.slice Ao218 t870.length co218] 26 (0, 0)) aU hb); replace HB := uS HB hb; (try clear hb)))
                          go_meet
                          case rel => exact ⟨_, (!t875), ax18, H', ⟨(by have := HJ6.out; have := HJ28.out; have := HJ48.out; have := HJ82.out; have := HJ125.out; have := HJ172.out; have := HJ189.out; first | omega | exact Nat.le_refl _)⟩, ⟨aU⟩, ⟨aU⟩, ⟨aU⟩, ⟨aU⟩, ⟨aU⟩, ⟨aU⟩, ⟨aU⟩, ⟨aU⟩, ⟨aU⟩, ⟨aU⟩, ⟨aU⟩, ⟨aL⟩⟩
                       case rest =>
                        clear HC205; (try clear c0);(try clear hcz215_0);(try clear hfz215_0);(try clear hcz225_0);(try clear hfz225_0);(try clear c201); obtain ⟨kq, x269_204, rfl, HA, HJ204, HO_9, HO_808000, HO_823000, HO_828000, HO_839000, HO_844000, BK807, BK822, BK827, BK838, BK843, HB⟩ := hcut
                        cases kq with
                        | zero => exact absurd HA.out (by simp [laws_FnTries.j7])
                        | succ kj204 =>
                         have H := HA.out; clear HA; simp only [laws_FnTries.j7] at H
                         by_cases c242 : x269_204 = true
                         ·subst c242
                          rw [if_pos rfl] at H
                          as_aux_lemma =>
                           exact absurd ((Option.some.inj H).trans HRT.out) (by decide)
                         ·replace c242 := Bool.eq_false_iff.mpr c242
                          subst c242; rw [if_neg (show ¬ (false = true) by decide)] at H; have HC243 := am H; clear H
                          go_upto_if 270 with (fail)
                          go_cut [] from 265 to 270 (fun wc => ∃ (kq : Nat), Aside0 (laws_FnTries.j9 kq t808 t811 t837 t842 t860 t804 t834 t839 = some r) ∧ Aside0 (kq ≤ kj204) ∧ Aside0 (Kd.R Kd.string 9 wc w.heap.size (fun _ => True) v809 t808) ∧ Aside0 (Kd.R k74 74 wc w.heap.size (fun _ => True) (.slice Ao32 t804.length co32) t804) ∧ Aside0 (Kd.R k74 74 wc w.heap.size (fun _ => True) (.slice Ao86 t834.length co86) t834) ∧ Aside0 (Kd.R k74 74 wc w.heap.size (fun _ => True) (.slice Ao93 t839.length co93) t839) ∧ Aside0 (wc.heap[gb807]? = some (.cells #[(.slice Ao32 t804.length co32)] 26 (0, 0))) ∧ Aside0 (wc.heap[gb838]? = some (.cells #[(.slice Ao86 t834.length co86)] 26 (0, 0))) ∧ Aside0 (wc.heap[gb843]? = some (.cells #[(.slice Ao93 t839.length co93)] 26 (0, 0))) ∧ Aside0 (Below w.heap.size w wc))
                          case first =>
                           have H := HC243.out; clear HC243
                           by_cases c244 : t826 = true
                           ·subst c244
                            rw [if_pos rfl] at H; obtain ⟨⟨t876, t877⟩, A245, H⟩ := bs H; obtain ⟨⟨t878, t879⟩, A246, H⟩ := bs H; have HC247 := am H; clear H; obtain ⟨hnb248, hnc248⟩ := nk NB822_807; obtain ⟨hnb249, hnc249⟩ := nk NB822_827; obtain ⟨hnb250, hnc250⟩ := nk NB822_838; obtain ⟨hnb251, hnc251⟩ := nk NB822_843; obtain ⟨hcz252_0, hfz252_0⟩ := bz (.slice Ao52 t818.length co52) BK822
                            go_upto_region 43 with (first | ((with_reducible refine gd 274 34 ?_); refine gc 274 Tryz.func34 #[.agg #[.slice Ao52 t818.length co52], .string t821] (impl_HasWord.calls kj204 _ _ t818 t821 t876 t877 _ (rd2 HO_823000) (rl HO_823000) A245.out) ?_; rintro e w253 ⟨rfl, hb⟩; refine ⟨_, rfl, ?_⟩; replace HO_9 := uR HO_9 hb; replace HO_808000 := uR HO_808000 hb; replace HO_823000 := uR HO_823000 hb; replace HO_828000 := uR HO_828000 hb; replace HO_839000 := uR HO_839000 hb; replace HO_844000 := uR HO_844000 hb; replace BK807 := ub BK807 hb; replace BK822 := ub BK822 hb; replace BK827 := ub BK827 hb; replace BK838 := ub BK838 hb; replace BK843 := ub BK843 hb; replace HB := uS HB hb; (try clear hb); obtain ⟨hnb254, hnc254⟩ := nk NB827_807; obtain ⟨hnb255, hnc255⟩ := nk NB827_838; obtain ⟨hnb256, hnc256⟩ := nk NB827_843; obtain ⟨hcz257_0, hfz257_0⟩ := bz (.slice Ao57 t823.length co57) BK827) | ((with_reducible refine gd 280 34 ?_); refine gc 280 Tryz.func34 #[.agg #[.slice Ao57 t823.length co57], .string t821] (impl_HasWord.calls kj204 _ _ t823 t821 t878 t879 _ (rd2 HO_828000) (rl HO_828000) A246.out) ?_; rintro e w258 ⟨rfl, hb⟩; refine ⟨_, rfl, ?_⟩; replace HO_9 := uR HO_9 hb; replace HO_808000 := uR HO_808000 hb; replace HO_823000 := uR HO_823000 hb; replace HO_828000 := uR HO_828000 hb; replace HO_839000 := uR HO_839000 hb; replace HO_844000 := uR HO_844000 hb; replace BK807 := ub BK807 hb; replace BK822 := ub BK822 hb; replace BK827 := ub BK827 hb; replace BK838 := ub BK838 hb; replace BK843 := ub BK843 hb; replace HB := uS HB hb; (try clear hb)))
                            (try simp only [Act.put, List.setIfInBounds_toArray, List.set_cons_zero, List.set_cons_succ])
                            go_cut [292] from 1 to 0 (fun v292 wc => ∃ (kq : Nat) (x292_246 : Bool), v292 = .bool x292_246 ∧ Aside0 (laws_FnTries.j8 kq t808 t811 t821 t837 t842 t860 t876 x292_246 t804 t818 t823 t834 t839 = some r) ∧ Aside0 (kq ≤ kj204) ∧ Aside0 (Kd.R Kd.string 9 wc w.heap.size (fun _ => True) v809 t808) ∧ Aside0 (Kd.R k74 74 wc w.heap.size (fun _ => True) (.slice Ao32 t804.length co32) t804) ∧ Aside0 (Kd.R k74 74 wc w.heap.size (fun _ => True) (.slice Ao52 t818.length co52) t818) ∧ Aside0 (Kd.R k74 74 wc w.heap.size (fun _ => True) (.slice Ao57 t823.length co57) t823) ∧ Aside0 (Kd.R k74 74 wc w.heap.size (fun _ => True) (.slice Ao86 t834.length co86) t834) ∧ Aside0 (Kd.R k74 74 wc w.heap.size (fun _ => True) (.slice Ao93 t839.length co93) t839) ∧ Aside0 (wc.heap[gb807]? = some (.cells #[(.slice Ao32 t804.length co32)] 26 (0, 0))) ∧ Aside0 (wc.heap[gb822]? = some (.cells #[(.slice Ao52 t818.length co52)] 26 (0, 0))) ∧ Aside0 (wc.heap[gb827]? = some (.cells #[(.slice Ao57 t823.length co57)] 26 (0, 0))) ∧ Aside0 (wc.heap[gb838]? = some (.cells #[(.slice Ao86 t834.length co86)] 26 (0, 0))) ∧ Aside0 (wc.heap[gb843]? = some (.cells #[(.slice Ao93 t839.length co93)] 26 (0, 0))) ∧ Aside0 (Below w.heap.size w wc))
                            case first =>
                             have H := HC247.out; clear HC247
                             by_cases c259 : t877 = true
                             ·subst c259
                              rw [if_pos rfl] at H
                              by_cases c260 : t879 = true
                              ·subst c260
                               rw [if_pos rfl] at H
                               as_aux_lemma =>
                                have H' := am H; clear H
                                go_wp2
                                go_meet
                                case rel => exact ⟨_, (!t878), ax18, H', ⟨ax169⟩, ⟨aU⟩, ⟨aU⟩, ⟨aU⟩, ⟨aU⟩, ⟨aU⟩, ⟨aU⟩, ⟨aU⟩, ⟨aU⟩, ⟨aU⟩, ⟨aU⟩, ⟨aU⟩, ⟨aL⟩⟩
                              ·replace c260 := Bool.eq_false_iff.mpr c260
                               subst c260; rw [if_neg (show ¬ (false = true) by decide)] at H
                               exact (laws_FnTries.j8_no H HRT.out).elim
                             ·replace c259 := Bool.eq_false_iff.mpr c259
                              subst c259; rw [if_neg (show ¬ (false = true) by decide)] at H
                              exact (laws_FnTries.j8_no H HRT.out).elim
                            case rest =>
                             clear HC247; (try clear hcz257_0);(try clear hfz257_0);(try clear hfz252_0);(try clear hcz252_0);(try clear c244);(try clear c242); obtain ⟨kq, x292_246, rfl, HA, HJ246, HO_9, HO_808000, HO_823000, HO_828000, HO_839000, HO_844000, BK807, BK822, BK827, BK838, BK843, HB⟩ := hcut
                             cases kq with
                             | zero => exact absurd HA.out (by simp [laws_FnTries.j8])
                             | succ kj246 =>
                              have H := HA.out; clear HA; simp only [laws_FnTries.j8] at H
                              by_cases c261 : x292_246 = true
                              ·subst c261
                               rw [if_pos rfl] at H
                               as_aux_lemma =>
                                exact absurd ((Option.some.inj H).trans HRT.out) (by decide)
                              ·replace c261 := Bool.eq_false_iff.mpr c261
                               subst c261; rw [if_neg (show ¬ (false = true) by decide)] at H; obtain ⟨⟨t880, t883⟩, A262, H⟩ := bs H
                               by_cases c263 : t883 = true
                               ·subst c263
                                rw [if_pos rfl] at H
                                by_cases c264 : t876 = true
                                ·subst c264
                                 rw [if_pos rfl] at H
                                 as_aux_lemma =>
                                  have H' := am H; clear H; obtain ⟨hnb265, hnc265⟩ := nk NB827_807; obtain ⟨hnb266, hnc266⟩ := nk NB827_822; obtain ⟨hnb267, hnc267⟩ := nk NB827_838; obtain ⟨hnb268, hnc268⟩ := nk NB827_843; obtain ⟨hcz269_0, hfz269_0⟩ := bz (.slice Ao57 t823.length co57) BK827
                                  go_wp2_with (first | ((with_reducible refine gd 296 59 ?_); refine gc 296 Tryz.func59 #[.agg #[.slice Ao57 t823.length co57], .string t821] (impl_DropWord.calls kj246 _ _ t823 t821 t880 true _ (rd2 HO_828000) (rl HO_828000) A262.out) ?_; rintro e w270 ⟨v881, rfl, ho0, hb⟩; refine ⟨_, rfl, ?_⟩; replace HO_9 := uR HO_9 hb; replace HO_808000 := uR HO_808000 hb; replace HO_823000 := uR HO_823000 hb; replace HO_828000 := uR HO_828000 hb; replace HO_839000 := uR HO_839000 hb; replace HO_844000 := uR HO_844000 hb; have HO882 := am (Kd.R_lower ho0 (bS HB)); replace BK807 := ub BK807 hb; replace BK822 := ub BK822 hb; replace BK827 := ub BK827 hb; replace BK838 := ub BK838 hb; replace BK843 := ub BK843 hb; replace HB := uS HB hb; (try clear hb ho0)) | ((with_reducible refine gt 46 ?_); (try (refine gate_guard (by rfl) ?_; dsimp only)); refine bx 46 #[.slice none 0 0] 26 ?_; intro gb884 hg w271 hbox hb; replace HO_9 := uR HO_9 hb; replace HO_808000 := uR HO_808000 hb; replace HO_823000 := uR HO_823000 hb; replace HO_828000 := uR HO_828000 hb; replace HO_839000 := uR HO_839000 hb; replace HO_844000 := uR HO_844000 hb; replace HO882 := uR HO882 hb; have BK884 := am (hbox); have GW884 := uH hg HB; have GE884 := uH hg HB; replace HB := uS HB hb; obtain ⟨NB807_884, NB884_807, BK807⟩ := uA hg hb BK807; obtain ⟨NB822_884, NB884_822, BK822⟩ := uA hg hb BK822; obtain ⟨NB827_884, NB884_827, BK827⟩ := uA hg hb BK827; obtain ⟨NB838_884, NB884_838, BK838⟩ := uA hg hb BK838; obtain ⟨NB843_884, NB884_843, BK843⟩ := uA hg hb BK843; clear hb hbox hg; obtain ⟨Ao272, co272, rfl⟩ := Kd.R_slice HO882.out; obtain ⟨hnb273, hnc273⟩ := nk NB884_807; obtain ⟨hnb274, hnc274⟩ := nk NB884_822; obtain ⟨hnb275, hnc275⟩ := nk NB884_827; obtain ⟨hnb276, hnc276⟩ := nk NB884_838; obtain ⟨hnb277, hnc277⟩ := nk NB884_843; obtain ⟨hcz278_0, hfz278_0⟩ := bz (.slice none 0 0) BK884))
                                  go_meet
                                  case rel => exact ⟨_, H', ⟨ax170⟩, ⟨aU⟩, ⟨aU⟩, ⟨aU⟩, ⟨aU⟩, ⟨aU⟩, ⟨aU⟩, ⟨aU⟩, ⟨aL⟩⟩
                                ·replace c264 := Bool.eq_false_iff.mpr c264
                                 subst c264; rw [if_neg (show ¬ (false = true) by decide)] at H; obtain ⟨t885, A279, H⟩ := bs H
                                 by_cases c280 : t885 = true
                                 ·subst c280
                                  rw [if_pos rfl] at H
                                  as_aux_lemma =>
                                   have H' := am H; clear H; obtain ⟨hnb281, hnc281⟩ := nk NB827_807; obtain ⟨hnb282, hnc282⟩ := nk NB827_822; obtain ⟨hnb283, hnc283⟩ := nk NB827_838; obtain ⟨hnb284, hnc284⟩ := nk NB827_843; obtain ⟨hcz285_0, hfz285_0⟩ := bz (.slice Ao57 t823.length co57) BK827
                                   go_wp2_with (first | ((with_reducible refine gd 296 59 ?_); refine gc 296 Tryz.func59 #[.agg #[.slice Ao57 t823.length co57], .string t821] (impl_DropWord.calls kj246 _ _ t823 t821 t880 true _ (rd2 HO_828000) (rl HO_828000) A262.out) ?_; rintro e w286 ⟨v881, rfl, ho0, hb⟩; refine ⟨_, rfl, ?_⟩; replace HO_9 := uR HO_9 hb; replace HO_808000 := uR HO_808000 hb; replace HO_823000 := uR HO_823000 hb; replace HO_828000 := uR HO_828000 hb; replace HO_839000 := uR HO_839000 hb; replace HO_844000 := uR HO_844000 hb; have HO882 := am (Kd.R_lower ho0 (bS HB)); replace BK807 := ub BK807 hb; replace BK822 := ub BK822 hb; replace BK827 := ub BK827 hb; replace BK838 := ub BK838 hb; replace BK843 := ub BK843 hb; replace HB := uS HB hb; (try clear hb ho0)) | ((with_reducible refine gt 46 ?_); (try (refine gate_guard (by rfl) ?_; dsimp only)); refine bx 46 #[.slice none 0 0] 26 ?_; intro gb884 hg w287 hbox hb; replace HO_9 := uR HO_9 hb; replace HO_808000 := uR HO_808000 hb; replace HO_823000 := uR HO_823000 hb; replace HO_828000 := uR HO_828000 hb; replace HO_839000 := uR HO_839000 hb; replace HO_844000 := uR HO_844000 hb; replace HO882 := uR HO882 hb; have BK884 := am (hbox); have GW884 := uH hg HB; have GE884 := uH hg HB; replace HB := uS HB hb; obtain ⟨NB807_884, NB884_807, BK807⟩ := uA hg hb BK807; obtain ⟨NB822_884, NB884_822, BK822⟩ := uA hg hb BK822; obtain ⟨NB827_884, NB884_827, BK827⟩ := uA hg hb BK827; obtain ⟨NB838_884, NB884_838, BK838⟩ := uA hg hb BK838; obtain ⟨NB843_884, NB884_843, BK843⟩ := uA hg hb BK843; clear hb hbox hg; obtain ⟨Ao288, co288, rfl⟩ := Kd.R_slice HO882.out; obtain ⟨hnb289, hnc289⟩ := nk NB884_807; obtain ⟨hnb290, hnc290⟩ := nk NB884_822; obtain ⟨hnb291, hnc291⟩ := nk NB884_827; obtain ⟨hnb292, hnc292⟩ := nk NB884_838; obtain ⟨hnb293, hnc293⟩ := nk NB884_843; obtain ⟨hcz294_0, hfz294_0⟩ := bz (.slice none 0 0) BK884; obtain ⟨hnb295, hnc295⟩ := nk NB822_807; obtain ⟨hnb296, hnc296⟩ := nk NB822_838; obtain ⟨hnb297, hnc297⟩ := nk NB822_843; obtain ⟨hcz298_0, hfz298_0⟩ := bz (.slice Ao52 t818.length co52) BK822) | (go_at_call 49; (with_reducible refine (laws_rTrie.calls kj246 _ _ t880 _ _ t818 true _ ?side1 ?side2 ?side3 ?side4 A279.out).mono ?_); (case side1 => refine (Kd.R_reads' (e := 74) (base := w.heap.size) (ok := fun k_ => True) (n := t880.length) (c := co288) ?_).2.2; exact (rX HO882)); (case side2 => exact (Kd.R_reads' HO882.out).2.1); (case side3 => refine (Kd.R_reads' (e := 74) (base := w.heap.size) (ok := fun k_ => True) (n := t818.length) (c := co52) ?_).2.2; exact (rX HO_823000)); (case side4 => exact (Kd.R_reads' HO_823000.out).2.1); rintro e w299 ⟨rfl, hb⟩; replace HO_9 := uX HO_9 hb; replace HO_808000 := uX HO_808000 hb; replace HO_823000 := uX HO_823000 hb; replace HO_828000 := uX HO_828000 hb; replace HO_839000 := uX HO_839000 hb; replace HO_844000 := uX HO_844000 hb; replace HO882 := uX HO882 hb; replace BK807 := uZ BK807 hb; replace BK822 := uZ BK822 hb; replace BK827 := uZ BK827 hb; replace BK838 := uZ BK838 hb; replace BK843 := uZ BK843 hb; replace BK884 := am (blk_below (g := gb884) (o := .cells #[.slice Ao288 t880.length co288] 26 (0, 0)) aU hb); replace HB := uS HB hb; (try clear hb)))
                                   go_meet
                                   case rel => exact ⟨_, H', ⟨ax170⟩, ⟨aU⟩, ⟨aU⟩, ⟨aU⟩, ⟨aU⟩, ⟨aU⟩, ⟨aU⟩, ⟨aU⟩, ⟨aL⟩⟩
                                 ·replace c280 := Bool.eq_false_iff.mpr c280
                                  subst c280; rw [if_neg (show ¬ (false = true) by decide)] at H
                                  as_aux_lemma =>
                                   exact absurd ((Option.some.inj H).trans HRT.out) (by decide)
                               ·replace c263 := Bool.eq_false_iff.mpr c263
                                subst c263; rw [if_neg (show ¬ (false = true) by decide)] at H
                                as_aux_lemma =>
                                 exact absurd ((Option.some.inj H).trans HRT.out) (by decide)
                           ·replace c244 := Bool.eq_false_iff.mpr c244
                            subst c244; rw [if_neg (show ¬ (false = true) by decide)] at H
                            as_aux_lemma =>
                             have H' := am H; clear H
                             go_wp2
                             go_meet
                             case rel => exact ⟨_, H', ⟨ax169⟩, ⟨aU⟩, ⟨aU⟩, ⟨aU⟩, ⟨aU⟩, ⟨aU⟩, ⟨aU⟩, ⟨aU⟩, ⟨aL⟩⟩
                          case rest =>
                           clear HC243; (try clear c242); obtain ⟨kq, HA, HJ242, HO_9, HO_808000, HO_839000, HO_844000, BK807, BK838, BK843, HB⟩ := hcut
                           cases kq with
                           | zero => exact absurd HA.out (by simp [laws_FnTries.j9])
                           | succ kj242 =>
                            have H := HA.out; clear HA; simp only [laws_FnTries.j9] at H; have HC300 := am H; clear H
                            go_upto_if 311 with (fail)
                            go_cut [] from 306 to 311 (fun wc => ∃ (kq : Nat), Aside0 (laws_FnTries.j10 kq t808 t811 t860 t804 = some r) ∧ Aside0 (kq ≤ kj242) ∧ Aside0 (Kd.R Kd.string 9 wc w.heap.size (fun _ => True) v809 t808) ∧ Aside0 (Kd.R k74 74 wc w.heap.size (fun _ => True) (.slice Ao32 t804.length co32) t804) ∧ Aside0 (wc.heap[gb807]? = some (.cells #[(.slice Ao32 t804.length co32)] 26 (0, 0))) ∧ Aside0 (Below w.heap.size w wc))
                            case first =>
                             have H := HC300.out; clear HC300
                             by_cases c301 : t842 = true
                             ·subst c301
                              rw [if_pos rfl] at H; obtain ⟨⟨t886, t889⟩, A302, H⟩ := bs H
                              by_cases c303 : t889 = true
                              ·subst c303
                               rw [if_pos rfl] at H; obtain ⟨t891, A304, H⟩ := bs H
                               by_cases c305 : t891 = true
                               ·subst c305
                                rw [if_pos rfl] at H
                                as_aux_lemma =>
                                 have H' := am H; clear H; obtain ⟨hnb306, hnc306⟩ := nk NB843_807; obtain ⟨hnb307, hnc307⟩ := nk NB843_838; obtain ⟨hcz308_0, hfz308_0⟩ := bz (.slice Ao93 t839.length co93) BK843
                                 go_wp2_with (first | ((with_reducible refine gd 315 56 ?_); refine gc 315 Tryz.func56 #[.agg #[.slice Ao93 t839.length co93], .string t837] (impl_AddWord.calls kj242 _ _ t839 t837 t886 true _ (rd2 HO_844000) (rl HO_844000) A302.out) ?_; rintro e w309 ⟨v887, rfl, ho0, hb⟩; refine ⟨_, rfl, ?_⟩; replace HO_9 := uR HO_9 hb; replace HO_808000 := uR HO_808000 hb; replace HO_839000 := uR HO_839000 hb; replace HO_844000 := uR HO_844000 hb; have HO888 := am (Kd.R_lower ho0 (bS HB)); replace BK807 := ub BK807 hb; replace BK838 := ub BK838 hb; replace BK843 := ub BK843 hb; replace HB := uS HB hb; (try clear hb ho0)) | ((with_reducible refine gt 48 ?_); (try (refine gate_guard (by rfl) ?_; dsimp only)); refine bx 48 #[.slice none 0 0] 26 ?_; intro gb890 hg w310 hbox hb; replace HO_9 := uR HO_9 hb; replace HO_808000 := uR HO_808000 hb; replace HO_839000 := uR HO_839000 hb; replace HO_844000 := uR HO_844000 hb; replace HO888 := uR HO888 hb; have BK890 := am (hbox); have GW890 := uH hg HB; have GE890 := uH hg HB; replace HB := uS HB hb; obtain ⟨NB807_890, NB890_807, BK807⟩ := uA hg hb BK807; obtain ⟨NB838_890, NB890_838, BK838⟩ := uA hg hb BK838; obtain ⟨NB843_890, NB890_843, BK843⟩ := uA hg hb BK843; clear hb hbox hg; obtain ⟨Ao311, co311, rfl⟩ := Kd.R_slice HO888.out; obtain ⟨hnb312, hnc312⟩ := nk NB890_807; obtain ⟨hnb313, hnc313⟩ := nk NB890_838; obtain ⟨hnb314, hnc314⟩ := nk NB890_843; obtain ⟨hcz315_0, hfz315_0⟩ := bz (.slice none 0 0) BK890; obtain ⟨hnb316, hnc316⟩ := nk NB838_807; obtain ⟨hcz317_0, hfz317_0⟩ := bz (.slice Ao86 t834.length co86) BK838) | (go_at_call 49; (with_reducible refine (laws_rTrie.calls kj242 _ _ t886 _ _ t834 true _ ?side1 ?side2 ?side3 ?side4 A304.out).mono ?_); (case side1 => refine (Kd.R_reads' (e := 74) (base := w.heap.size) (ok := fun k_ => True) (n := t886.length) (c := co311) ?_).2.2; exact (rX HO888)); (case side2 => exact (Kd.R_reads' HO888.out).2.1); (case side3 => refine (Kd.R_reads' (e := 74) (base := w.heap.size) (ok := fun k_ => True) (n := t834.length) (c := co86) ?_).2.2; exact (rX HO_839000)); (case side4 => exact ax166); rintro e w318 ⟨rfl, hb⟩; replace HO_9 := uX HO_9 hb; replace HO_808000 := uX HO_808000 hb; replace HO_839000 := uX HO_839000 hb; replace HO_844000 := uX HO_844000 hb; replace HO888 := uX HO888 hb; replace BK807 := uZ BK807 hb; replace BK838 := uZ BK838 hb; replace BK843 := uZ BK843 hb; replace BK890 := am (blk_below (g := gb890) (o := .cells #[.slice Ao311 t886.length co311] 26 (0, 0)) aU hb); replace HB := uS HB hb; (try clear hb)))
                                 go_meet
                                 case rel => exact ⟨_, H', ⟨ax171⟩, ⟨aU⟩, ⟨aU⟩, ⟨aU⟩, ⟨aL⟩⟩
                               ·replace c305 := Bool.eq_false_iff.mpr c305
                                subst c305; rw [if_neg (show ¬ (false = true) by decide)] at H
                                as_aux_lemma =>
                                 exact absurd ((Option.some.inj H).trans HRT.out) (by decide)
                              ·replace c303 := Bool.eq_false_iff.mpr c303
                               subst c303; rw [if_neg (show ¬ (false = true) by decide)] at H
                               as_aux_lemma =>
                                exact absurd ((Option.some.inj H).trans HRT.out) (by decide)
                             ·replace c301 := Bool.eq_false_iff.mpr c301
                              subst c301; rw [if_neg (show ¬ (false = true) by decide)] at H
                              as_aux_lemma =>
                               have H' := am H; clear H
                               go_wp2
                               go_meet
                               case rel => exact ⟨_, H', ⟨ax171⟩, ⟨aU⟩, ⟨aU⟩, ⟨aU⟩, ⟨aL⟩⟩
                            case rest =>
                             clear HC300; obtain ⟨kq, HA, HJ299, HO_9, HO_808000, BK807, HB⟩ := hcut
                             cases kq with
                             | zero => exact absurd HA.out (by simp [laws_FnTries.j10])
                             | succ kj299 =>
                              have H := HA.out; clear HA; simp only [laws_FnTries.j10] at H
                              by_cases c319 : t811 = true
                              ·subst c319
                               rw [if_pos rfl] at H; obtain ⟨⟨t892, t895⟩, A320, H⟩ := bs H; obtain ⟨⟨t897, t900⟩, A321, H⟩ := bs H
                               by_cases c322 : t895 = true
                               ·subst c322
                                rw [if_pos rfl] at H
                                by_cases c323 : t900 = true
                                ·subst c323
                                 rw [if_pos rfl] at H; obtain ⟨t902, A324, H⟩ := bs H
                                 by_cases c325 : t902 = true
                                 ·subst c325
                                  rw [if_pos rfl] at H; obtain ⟨t903, A326, H⟩ := bs H
                                  as_aux_lemma =>
                                   obtain rfl := Option.some.inj H; obtain ⟨Ao327, co327, rfl⟩ := Kd.R_slice HO_9.out
                                   go_wp2_with (first | ((with_reducible refine gd 330 47 ?_); refine gc 330 Tryz.func47 #[.slice Ao327 t808.length co327] (impl_TrieOf.calls kj299 _ _ t808 t892 true _ (rd2 HO_9) (rl HO_9) A320.out) ?_; rintro e w328 ⟨v893, rfl, ho0, hb⟩; refine ⟨_, rfl, ?_⟩; replace HO_9 := uR HO_9 hb; replace HO_808000 := uR HO_808000 hb; have HO894 := am (Kd.R_lower ho0 (bS HB)); replace BK807 := ub BK807 hb; replace HB := uS HB hb; (try clear hb ho0)) | ((with_reducible refine gt 50 ?_); (try (refine gate_guard (by rfl) ?_; dsimp only)); refine bx 50 #[.slice none 0 0] 26 ?_; intro gb896 hg w329 hbox hb; replace HO_808000 := uR HO_808000 hb; replace HO894 := uR HO894 hb; have BK896 := am (hbox); have GW896 := uH hg HB; have GE896 := uH hg HB; replace HB := uS HB hb; obtain ⟨NB807_896, NB896_807, BK807⟩ := uA hg hb BK807; clear hb hbox hg; obtain ⟨Ao330, co330, rfl⟩ := Kd.R_slice HO894.out; obtain ⟨hnb331, hnc331⟩ := nk NB896_807; obtain ⟨hcz332_0, hfz332_0⟩ := bz (.slice none 0 0) BK896) | ((with_reducible refine gd 335 67 ?_); refine gc 335 Tryz.func67 #[.string t860] (impl_ParseTrie.calls kj299 t860 t897 true _ A321.out) ?_; rintro e w333 ⟨v898, rfl, ho0, hb⟩; refine ⟨_, rfl, ?_⟩; replace HO_808000 := uX HO_808000 hb; replace HO894 := uX HO894 hb; have HO899 := am (Kd.R_lower ho0 (bS HB)); replace BK807 := uZ BK807 hb; replace BK896 := am (blk_below (g := gb896) (o := .cells #[.slice Ao330 t892.length co330] 26 (0, 0)) aU hb); replace HB := uS HB hb; (try clear hb ho0)) | ((with_reducible refine gt 52 ?_); (try (refine gate_guard (by rfl) ?_; dsimp only)); refine bx 52 #[.slice none 0 0] 26 ?_; intro gb901 hg w334 hbox hb; replace HO_808000 := uR HO_808000 hb; replace HO894 := uR HO894 hb; replace HO899 := uR HO899 hb; have BK901 := am (hbox); have GW901 := uH hg HB; have GE901 := uH hg HB; replace HB := uS HB hb; obtain ⟨NB807_901, NB901_807, BK807⟩ := uA hg hb BK807; obtain ⟨NB896_901, NB901_896, BK896⟩ := uA hg hb BK896; clear hb hbox hg; obtain ⟨Ao335, co335, rfl⟩ := Kd.R_slice HO899.out; obtain ⟨hnb336, hnc336⟩ := nk NB901_807; obtain ⟨hnb337, hnc337⟩ := nk NB901_896; obtain ⟨hcz338_0, hfz338_0⟩ := bz (.slice none 0 0) BK901; obtain ⟨hcz339_0, hfz339_0⟩ := bz (.slice Ao330 t892.length co330) BK896; obtain ⟨hcz340_0, hfz340_0⟩ := bz (.slice Ao32 t804.length co32) BK807) | (go_at_call 49; (with_reducible refine (laws_rTrie.calls kj299 _ _ t892 _ _ t804 true _ ?side1 ?side2 ?side3 ?side4 A324.out).mono ?_); (case side1 => refine (Kd.R_reads' (e := 74) (base := w.heap.size) (ok := fun k_ => True) (n := t892.length) (c := co330) ?_).2.2; exact (rX HO894)); (case side2 => exact (Kd.R_reads' HO894.out).2.1); (case side3 => refine (Kd.R_reads' (e := 74) (base := w.heap.size) (ok := fun k_ => True) (n := t804.length) (c := co32) ?_).2.2; exact (rX HO_808000)); (case side4 => exact (Kd.R_reads' HO_808000.out).2.1); rintro e w341 ⟨rfl, hb⟩; replace HO_808000 := uX HO_808000 hb; replace HO894 := uX HO894 hb; replace HO899 := uX HO899 hb; replace BK807 := uZ BK807 hb; replace BK896 := uZ BK896 hb; replace BK901 := am (blk_below (g := gb901) (o := .cells #[.slice Ao335 t897.length co335] 26 (0, 0)) aU hb); replace HB := uS HB hb; (try clear hb); obtain ⟨hcz342_0, hfz342_0⟩ := bz (.slice Ao335 t897.length co335) BK901; obtain ⟨hcz343_0, hfz343_0⟩ := bz (.slice Ao32 t804.length co32) BK807) | (go_at_call 49; (with_reducible refine (laws_rTrie.calls kj299 _ _ t897 _ _ t804 t903 _ ?side1 ?side2 ?side3 ?side4 A326.out).mono ?_); (case side1 => repeat (first | exact (Kd.R_reads' HO899.out).2.2 | (with_reducible refine Kd.C_alloc ?_ _) | (with_reducible refine Kd.C_drewN ?_ _) | (with_reducible refine Kd.C_drew ?_))); (case side2 => exact (Kd.R_reads' HO899.out).2.1); (case side3 => repeat (first | exact (Kd.R_reads' HO_808000.out).2.2 | (with_reducible refine Kd.C_alloc ?_ _) | (with_reducible refine Kd.C_drewN ?_ _) | (with_reducible refine Kd.C_drew ?_))); (case side4 => exact (Kd.R_reads' HO_808000.out).2.1); rintro e w344 ⟨rfl, hb⟩; replace HO_808000 := uR HO_808000 hb; replace HO899 := uR HO899 hb; replace HB := uB HB hb; (try clear hb)))
                                   go_ret
                                   exact ⟨ax21, aL⟩
                                 ·replace c325 := Bool.eq_false_iff.mpr c325
                                  subst c325; rw [if_neg (show ¬ (false = true) by decide)] at H
                                  as_aux_lemma =>
                                   exact absurd ((Option.some.inj H).trans HRT.out) (by decide)
                                ·replace c323 := Bool.eq_false_iff.mpr c323
                                 subst c323; rw [if_neg (show ¬ (false = true) by decide)] at H
                                 as_aux_lemma =>
                                  exact absurd ((Option.some.inj H).trans HRT.out) (by decide)
                               ·replace c322 := Bool.eq_false_iff.mpr c322
                                subst c322; rw [if_neg (show ¬ (false = true) by decide)] at H
                                as_aux_lemma =>
                                 exact absurd ((Option.some.inj H).trans HRT.out) (by decide)
                              ·replace c319 := Bool.eq_false_iff.mpr c319
                               subst c319; rw [if_neg (show ¬ (false = true) by decide)] at H
                               as_aux_lemma =>
                                obtain rfl := Option.some.inj H
                                go_wp2
                                go_ret
                                exact ⟨ax21, aL⟩

end Go.Proofs.YtcplbbflfgckbaaGreatDoor.X


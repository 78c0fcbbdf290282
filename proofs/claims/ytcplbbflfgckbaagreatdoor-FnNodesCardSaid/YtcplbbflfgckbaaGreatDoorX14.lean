-- By gen.py (the session's own program over the kit's printer): functions of the program, each with its contract. Lean checks it.
import Derived.Test.YtcplbbflfgckbaaGreatDoorX0
import Derived.Test.YtcplbbflfgckbaaGreatDoorX10
import Derived.Test.YtcplbbflfgckbaaGreatDoorX12
import Derived.Test.YtcplbbflfgckbaaGreatDoorX13
namespace Go.Proofs.YtcplbbflfgckbaaGreatDoor.X
open Go.RowKit Go.Proofs.YtcplbbflfgckbaaGreatDoorW.PrintWords Go.Proofs.YtcplbbflfgckbaaGreatDoorW.PrintLast Go.Proofs.YtcplbbflfgckbaaGreatDoorW.PrintMore
attribute [local go_sem] max2_int min2_int max_two min_two max_three min_three max_four min_four   -- for this text's walks alone
set_option linter.unusedVariables false
set_option linter.unusedSimpArgs false

/-! ### impl_isTrie: function 124 -/
def impl_isTrie.j0 : Nat → Bool → List (S74) → Option (Bool)
 | 0, _, _ => none
 | k + 1, x16, x467000 => if x16 = true then (some false) else ((impl_Trie_words.f k x467000).bind fun t472 => (if (t472.length : Int) ≤ 40 then ((slices_IsSorted_string_string.f k t472).bind fun t475 => (if t475 = true then ((impl_trieOf.f k t472).bind fun t476 => ((impl_Node.f k t476 x467000).bind fun t479 => (some t479))) else (some false))) else (some false)))
def impl_isTrie.f (k : Nat) (l0_0 : List (S74)) : Option (Bool) := (impl_Trie_prefixes.f k l0_0).bind fun bt467 => (if bt467.2 = true then ((slices_ContainsFunc_string_string.f bt467.1 (fun z_ => impl_isTrie_1.f z_)).bind fun t471 => (impl_isTrie.j0 k t471 l0_0)) else (impl_isTrie.j0 k true l0_0))
def impl_isTrie.T5 : Bool × List (List Nat × List Nat) := (true, [([], []), ([0], [0]), ([1], [1]), ([2], [2]), ([3], [3]), ([4, 3, 3], [3, 4]), ([3, 5], [3, 5]), ([6, 5], [6]), ([7], [7]), ([8, 7, 7], [7, 8]), ([9, 7], [7, 9]), ([7], [7]), ([11, 7], [7, 11]), ([10, 12, 9, 7], [7, 10, 12]), ([7, 13], [7, 13]), ([14, 13, 0, 1, 2, 3, 4, 5, 6, 7, 8, 9, 10, 11, 12, 13, 14], [14])])
def impl_isTrie.B5 : List Nat := [0, 1, 3, 7, 15, 31, 63, 127, 255, 511, 1023, 255, 2303, 8191, 16383, 32767]
theorem impl_isTrie.tab5 : rtab .any (opsOf Tryz.f124 5) = impl_isTrie.T5 := by kernel_rfl
theorem impl_isTrie.bits5 : waitsOk impl_isTrie.T5.2 impl_isTrie.B5 = true := by kernel_rfl
set_option maxHeartbeats 8000000 in
set_option maxRecDepth 100000 in
theorem impl_isTrie.calls (k : Nat) (A0_0 : Option Addr) (c0_0 : Nat) (l0_0 : List (S74)) (r : Bool) (w : World) (hr0_0 : Kd.C k74 w A0_0 l0_0.length l0_0) (hc0_0 : l0_0.length ≤ c0_0) (h : impl_isTrie.f k l0_0 = some r) :
  Calls Tryz.prog 124 #[.agg #[.slice A0_0 l0_0.length c0_0]] w fun e w' => e = .returned (.bool r) ∧ Below w.heap.size w w' := by
 have hu26 := Tryz.underlying26
 have hfd26_0 : ∀ (v0_ : Value) (W : World), (Instr.field 26 (.agg #[v0_]) 0).run Tryz.prog W = .ok (v0_) W := fun v0_ W => by kernel_rfl
 have HR0_0 := am hr0_0; have HC0_0 := am hc0_0; clear hr0_0 hc0_0; have HB := am (Below.refl w.heap.size w)
 unfold impl_isTrie.f at h
 have H := h; clear h; obtain ⟨⟨t467, t470⟩, A2, H⟩ := bs H; have HC3 := am H; clear H
 go_enter Tryz.func124, Tryz.ntmps124
 go_upto_region 2 with (first | ((with_reducible refine gate_dst (N := 1) rfl ?_); refine bx 1 #[.slice A0_0 l0_0.length c0_0] 26 ?_; intro gb466 hg w4 hbox hb; have BK466 := am (hbox); have GW466 := uG hg HB; have GE466 := uG hg HB; replace HB := uB HB hb; clear hb hbox hg; have hcz5_0 := bc (.slice A0_0 l0_0.length c0_0) BK466 0; have hfz5_0 := blk_frozen BK466.out 0) | ((with_reducible refine gd 8 164 ?_); refine gc 8 Tryz.func164 #[.agg #[.slice A0_0 l0_0.length c0_0]] (impl_Trie_prefixes.calls k _ _ l0_0 t467 t470 _ ax145 (HC0_0.out) A2.out) ?_; rintro e w6 ⟨v468, rfl, ho0, hb⟩; refine ⟨_, rfl, ?_⟩; have HO469 := am (Kd.R_lower ho0 (below_size ax213)); replace BK466 := ub BK466 hb; replace HB := am (below_step ax213 hb); (try clear hb ho0)))
 (try simp only [Act.put, List.setIfInBounds_toArray, List.set_cons_zero, List.set_cons_succ])
 go_cut [16] (fun v16 wc => ∃ (kq : Nat) (x16_2 : Bool), v16 = .bool x16_2 ∧ Aside0 (impl_isTrie.j0 kq x16_2 l0_0 = some r) ∧ Aside0 (kq ≤ k) ∧ Aside0 (wc.heap[gb466]? = some (.cells #[(.slice A0_0 l0_0.length c0_0)] 26 (0, 0))) ∧ Aside0 (Below w.heap.size w wc))
 case first =>
  have H := HC3.out; clear HC3
  by_cases c7 : t470 = true
  ·subst c7
   rw [if_pos rfl] at H; obtain ⟨t471, A8, H⟩ := bs H; have H' := am H; clear H; obtain ⟨Ao9, co9, eo9⟩ := Kd.R_slice HO469.out; subst eo9
   go_wp2_with (first | (go_at_call 140; (with_reducible refine (slices_ContainsFunc_string_string.calls _ _ t467 (fun z_ => impl_isTrie_1.f z_) t471 _ ?side1 ?side2 ?side3 ?side4 A8.out).mono ?_); (case side1 => repeat (first | exact (Kd.R_reads' HO469.out).2.2 | (with_reducible refine Kd.C_alloc ?_ _) | (with_reducible refine Kd.C_drewN ?_ _) | (with_reducible refine Kd.C_drew ?_))); (case side2 => exact (Kd.R_reads' HO469.out).2.1); (case side3 => exact enters_of Tryz.func195 (by kernel_rfl) rfl); (case side4 => intro x_ hx_ W_ hW_ r_ h_; exact (impl_isTrie_1.calls x_ r_ W_ h_).mono (fun e_ w_ hp_ => ⟨hp_.1, hp_.2.below⟩)); rintro e w10 ⟨rfl, hb⟩; replace HO469 := uR HO469 hb; replace BK466 := ub BK466 hb; replace HB := am (below_step ax213 hb); (try clear hb)))
   go_meet
   case rel => exact ⟨_, (t471), ax31, H', ⟨by first | omega | exact Nat.le_refl _⟩, ⟨ax214⟩, ⟨ax213⟩⟩
  ·replace c7 := Bool.eq_false_iff.mpr c7
   subst c7; rw [if_neg (show ¬ (false = true) by decide)] at H; have H' := am H; clear H
   go_wp2
   go_meet
   case rel => exact ⟨_, (true), ax31, H', ⟨by first | omega | exact Nat.le_refl _⟩, ⟨ax214⟩, ⟨ax213⟩⟩
 case rest =>
  clear HC3; (try clear hcz5_0);(try clear hfz5_0); obtain ⟨kq, x16_2, rfl, HA, HJ2, BK466, HB⟩ := hcut
  cases kq with
  | zero => exact absurd HA.out (by simp [impl_isTrie.j0])
  | succ kj2 =>
   have H := HA.out; clear HA; simp only [impl_isTrie.j0] at H
   by_cases c11 : x16_2 = true
   ·subst c11
    rw [if_pos rfl] at H; obtain rfl := Option.some.inj H
    go_wp2
    go_ret
    exact ⟨ax27, ax213⟩
   ·replace c11 := Bool.eq_false_iff.mpr c11
    subst c11; rw [if_neg (show ¬ (false = true) by decide)] at H; obtain ⟨t472, A12, H⟩ := bs H
    by_cases c13 : (t472.length : Int) ≤ 40
    ·rw [if_pos c13] at H
     have c13b0 := decide_eq_true c13; have c13b1 : decide (t472.length ≤ 40) = true := decide_eq_true (by omega); clear c13; obtain ⟨t475, A14, H⟩ := bs H
     by_cases c15 : t475 = true
     ·subst c15
      rw [if_pos rfl] at H; obtain ⟨t476, A16, H⟩ := bs H; obtain ⟨t479, A17, H⟩ := bs H; obtain rfl := Option.some.inj H; have hcz18_0 := bc (.slice A0_0 l0_0.length c0_0) BK466 0; have hfz18_0 := blk_frozen BK466.out 0
      try go_wp2_with (first | ((with_reducible refine gd 18 125 ?_); refine gc 18 Tryz.func125 #[.agg #[.slice A0_0 l0_0.length c0_0]] (impl_Trie_words.calls kj2 _ _ l0_0 t472 _ ax145 (HC0_0.out) A12.out) ?_; rintro e w19 ⟨v473, rfl, ho0, hb⟩; refine ⟨_, rfl, ?_⟩; have HO474 := am (Kd.R_lower ho0 (below_size ax213)); replace BK466 := ub BK466 hb; replace HB := am (below_step ax213 hb); (try clear hb ho0)))
      replace HO474 := am (Kd.R_drew HO474.out); replace BK466 := am (blk_drew BK466.out); replace HB := am (below_drew1 HB.out); obtain ⟨Ao21, co21, eo21⟩ := Kd.R_slice HO474.out; (first | subst eo21 | (injection eo21 with f1_ f2_ f3_; have f4_ := f1_.symm; have f5_ := f3_.symm; clear f1_ f2_ f3_; subst f4_; subst f5_)); refine start_ (n := 16) (S := fun w' => w'.cell? ⟨gb466, 0, none⟩ = some (.slice A0_0 l0_0.length c0_0)) (ds := []) (ob 16 0) (by kernel_rfl) rfl rfl ((blk_cell BK466.out 0).trans rfl) (fun hHeld => ?_); refine with_tabW impl_isTrie.tab5 impl_isTrie.bits5 (fun HT_ HW_ => ?_); generalize w19.drew = w20 at HO474 BK466 HB hHeld ⊢; refine pu 0 19 ?_; refine pu 1 20 ?_; refine pu 2 21 ?_; refine pu 3 22 ?_; refine pu 4 23 ?_; refine one_ (i := 5) (N := some 24) (ob 16 63) rfl rfl (one_of HT_.out (by kernel_rfl)) (by decide) (fun K hK => ?_); refine goes_ Tryz.func196 (by kernel_rfl) rfl #[.slice Ao21 t472.length co21] (by rfl) rfl rfl ax42 ?_
      with_reducible refine (slices_IsSorted_string_string.calls kj2 _ _ t472 true _ ?side1 ?side2 A14.out).mono ?_
      (case side1 => exact ax215)
      (case side2 => exact (Kd.R_reads' HO474.out).2.1)
      rintro e w' ⟨rfl, ⟨nd, rfl⟩⟩; refine ⟨_, rfl, ?_⟩; refine hK.out _ _ ((blk_cell BK466.out 0).trans rfl) (fun hHeld => ?_); clear hK K; refine nm 24 ?_; refine pu 6 25 ?_; refine pu 7 26 ?_; refine pu 8 27 ?_; refine pu 11 30 ?_; refine take_ (i := 12) (N := some 31) (v := ?_) (a' := ?_) (ob 16 6655) rfl rfl (take_ofW HT_.out HW_.out (by kernel_rfl)) (fun _ _ _ h => h) (Or.inl ⟨by rfl, ?_⟩) hHeld ?_ ?_
      rotate_left
      ·exact ax14
      rotate_left
      ·exact ax15
      refine one_ (i := 9) (N := some 28) (ob 16 7167) rfl rfl (one_of HT_.out (by kernel_rfl)) (by decide) (fun K hK => ?_); refine goes_ Tryz.func150 (by kernel_rfl) rfl #[.slice Ao21 t472.length co21] (by rfl) rfl rfl ax42 ?_
      with_reducible refine (impl_trieOf.calls kj2 _ _ t472 t476 _ ?side1 ?side2 A16.out).mono ?_
      (case side1 => exact ax215)
      (case side2 => exact (Kd.R_reads' HO474.out).2.1)
      rintro e w22 ⟨v477, rfl, ho0, hb⟩; refine ⟨_, rfl, ?_⟩; replace HO474 := uR HO474 hb; have HO478 := am (Kd.R_lower ho0 (below_size ax213)); replace BK466 := ub BK466 hb; replace HB := am (below_step ax213 hb); (try clear hb); (try clear hb2); (try clear hk); (try clear hi); (try clear ho0); obtain ⟨Ao23, co23, eo23⟩ := Kd.R_slice HO478.out; (first | subst eo23 | (injection eo23 with f1_ f2_ f3_; have f4_ := f1_.symm; have f5_ := f3_.symm; clear f1_ f2_ f3_; subst f4_; subst f5_)); refine hK.out _ _ ((blk_cell BK466.out 0).trans rfl) (fun hHeld => ?_); clear hK K; refine nm 28 ?_; refine pu 10 29 ?_; refine one_ (i := 13) (N := some 32) (ob 16 16383) rfl rfl (one_of HT_.out (by kernel_rfl)) (by decide) (fun K hK => ?_); refine goes_ Tryz.func197 (by kernel_rfl) rfl #[.slice Ao23 t476.length co23, .slice A0_0 l0_0.length c0_0] (by rfl) rfl rfl ax42 ?_
      with_reducible refine (impl_Node.calls kj2 _ _ t476 _ _ l0_0 t479 _ ?side1 ?side2 ?side3 ?side4 A17.out).mono ?_
      (case side1 => repeat (first | exact (Kd.R_reads' HO478.out).2.2 | (with_reducible refine Kd.C_alloc ?_ _) | (with_reducible refine Kd.C_drewN ?_ _) | (with_reducible refine Kd.C_drew ?_)))
      (case side2 => exact (Kd.R_reads' HO478.out).2.1)
      (case side3 => exact ax145)
      (case side4 => exact ax158)
      rintro e w' ⟨rfl, ⟨nd, rfl⟩⟩; refine ⟨_, rfl, ?_⟩; refine hK.out _ _ ((blk_cell BK466.out 0).trans rfl) (fun hHeld => ?_); clear hK K; refine nm 32 ?_; refine pu 14 33 ?_; refine pu 15 2 ?_; refine dn ?_
      try go_wp2
      go_ret
      exact ⟨ax27, ax213⟩
     ·replace c15 := Bool.eq_false_iff.mpr c15
      subst c15; rw [if_neg (show ¬ (false = true) by decide)] at H; obtain rfl := Option.some.inj H; have hcz24_0 := bc (.slice A0_0 l0_0.length c0_0) BK466 0; have hfz24_0 := blk_frozen BK466.out 0
      try go_wp2_with (first | ((with_reducible refine gd 18 125 ?_); refine gc 18 Tryz.func125 #[.agg #[.slice A0_0 l0_0.length c0_0]] (impl_Trie_words.calls kj2 _ _ l0_0 t472 _ ax145 (HC0_0.out) A12.out) ?_; rintro e w25 ⟨v473, rfl, ho0, hb⟩; refine ⟨_, rfl, ?_⟩; have HO474 := am (Kd.R_lower ho0 (below_size ax213)); replace BK466 := ub BK466 hb; replace HB := am (below_step ax213 hb); (try clear hb ho0)))
      replace HO474 := am (Kd.R_drew HO474.out); replace BK466 := am (blk_drew BK466.out); replace HB := am (below_drew1 HB.out); obtain ⟨Ao27, co27, eo27⟩ := Kd.R_slice HO474.out; (first | subst eo27 | (injection eo27 with f1_ f2_ f3_; have f4_ := f1_.symm; have f5_ := f3_.symm; clear f1_ f2_ f3_; subst f4_; subst f5_)); refine start_ (n := 16) (S := fun w' => True) (ds := []) (ob 16 0) (by kernel_rfl) rfl rfl trivial (fun hHeld => ?_); refine with_tabW impl_isTrie.tab5 impl_isTrie.bits5 (fun HT_ HW_ => ?_); generalize w25.drew = w26 at HO474 BK466 HB hHeld ⊢; refine pu 0 19 ?_; refine pu 1 20 ?_; refine pu 2 21 ?_; refine pu 3 22 ?_; refine pu 4 23 ?_; refine one_ (i := 5) (N := some 24) (ob 16 63) rfl rfl (one_of HT_.out (by kernel_rfl)) (by decide) (fun K hK => ?_); refine goes_ Tryz.func196 (by kernel_rfl) rfl #[.slice Ao27 t472.length co27] (by rfl) rfl rfl ax42 ?_
      with_reducible refine (slices_IsSorted_string_string.calls kj2 _ _ t472 false _ ?side1 ?side2 A14.out).mono ?_
      (case side1 => exact ax215)
      (case side2 => exact (Kd.R_reads' HO474.out).2.1)
      rintro e w' ⟨rfl, ⟨nd, rfl⟩⟩; refine ⟨_, rfl, ?_⟩; refine hK.out _ _ trivial (fun hHeld => ?_); clear hK K; refine nm 24 ?_; refine pu 6 25 ?_; refine pu 7 26 ?_; refine pu 8 27 ?_; refine pu 9 28 ?_; refine pu 10 29 ?_; refine pu 11 30 ?_; refine pu 12 31 ?_; refine pu 13 32 ?_; refine pu 14 33 ?_; refine pu 15 2 ?_; refine dn ?_
      try go_wp2
      go_ret
      exact ⟨ax27, ax213⟩
    ·rw [if_neg c13] at H
     have c13b0 := decide_eq_false c13; have c13b1 : decide (t472.length ≤ 40) = false := decide_eq_false (by omega); clear c13; obtain rfl := Option.some.inj H; have hcz28_0 := bc (.slice A0_0 l0_0.length c0_0) BK466 0; have hfz28_0 := blk_frozen BK466.out 0
     try go_wp2_with (first | ((with_reducible refine gd 18 125 ?_); refine gc 18 Tryz.func125 #[.agg #[.slice A0_0 l0_0.length c0_0]] (impl_Trie_words.calls kj2 _ _ l0_0 t472 _ ax145 (HC0_0.out) A12.out) ?_; rintro e w29 ⟨v473, rfl, ho0, hb⟩; refine ⟨_, rfl, ?_⟩; have HO474 := am (Kd.R_lower ho0 (below_size ax213)); replace BK466 := ub BK466 hb; replace HB := am (below_step ax213 hb); (try clear hb ho0)))
     replace HO474 := am (Kd.R_drew HO474.out); replace BK466 := am (blk_drew BK466.out); replace HB := am (below_drew1 HB.out); obtain ⟨Ao31, co31, eo31⟩ := Kd.R_slice HO474.out; (first | subst eo31 | (injection eo31 with f1_ f2_ f3_; have f4_ := f1_.symm; have f5_ := f3_.symm; clear f1_ f2_ f3_; subst f4_; subst f5_)); refine start_ (n := 16) (S := fun w' => True) (ds := []) (ob 16 0) (by kernel_rfl) rfl rfl trivial (fun hHeld => ?_); refine with_tabW impl_isTrie.tab5 impl_isTrie.bits5 (fun HT_ HW_ => ?_); generalize w29.drew = w30 at HO474 BK466 HB hHeld ⊢; refine pu 0 19 ?_; refine pu 1 20 ?_; refine pu 2 21 ?_; refine pu 3 22 ?_; refine pu 4 23 ?_; refine pu 5 24 ?_; refine pu 6 25 ?_; refine pu 7 26 ?_; refine pu 8 27 ?_; refine pu 9 28 ?_; refine pu 10 29 ?_; refine pu 11 30 ?_; refine pu 12 31 ?_; refine pu 13 32 ?_; refine pu 14 33 ?_; refine pu 15 2 ?_; refine dn ?_
     try go_wp2
     go_ret
     exact ⟨ax27, ax213⟩

/-! ### strings_Trim: function 216: a contract of our own -/
def strings_Trim.f (a0 a1 : ByteArray) : Option ByteArray := if a0.size ≤ 9223372036854775807 ∧ a1.size < 4294967281 ∧ a1.data.toList.all (fun b => decide (b.toNat < 128)) = true then some ⟨(Lib.trimS a0.data.toList a1.data.toList).toArray⟩ else none
theorem strings_Trim.calls (a0 a1 : ByteArray) (r : ByteArray) (w : World) (h : strings_Trim.f a0 a1 = some r) :
  Calls Tryz.prog 216 #[.string a0, .string a1] w fun e w' => e = .returned (.string r) ∧ Below w.heap.size w w' := by
 unfold strings_Trim.f at h
 by_cases hc : a0.size ≤ 9223372036854775807 ∧ a1.size < 4294967281 ∧ a1.data.toList.all (fun b => decide (b.toNat < 128)) = true
 ·rw [if_pos hc] at h
  obtain rfl := Option.some.inj h; refine (Any.strings_Trim_laid Tryz.laysTrim (by kernel_rfl) a0 a1 w hc.1 hc.2.1 (ascii_of_all hc.2.2)).mono ?_; rintro e w' ⟨rfl, hb⟩
  exact ⟨rfl, hb⟩
 ·rw [if_neg hc] at h; cases h

/-! ### impl_areLetters: function 199 -/
def impl_areLetters.f (a0 : ByteArray) : Option (Bool) := (strings_Trim.f a0 (⟨#[97, 98, 99, 100, 101, 102, 103, 104, 105, 106, 107, 108, 109, 110, 111, 112, 113, 114, 115, 116, 117, 118, 119, 120, 121, 122]⟩ : ByteArray)).bind fun t480 => (some (t480.toList == ([] : List UInt8)))
set_option maxHeartbeats 8000000 in
set_option maxRecDepth 100000 in
theorem impl_areLetters.calls (a0 : ByteArray) (r : Bool) (w : World) (h : impl_areLetters.f a0 = some r) :
  Calls Tryz.prog 199 #[.string a0] w fun e w' => e = .returned (.bool r) ∧ Below w.heap.size w w' := by
 have HB := am (Below.refl w.heap.size w)
 unfold impl_areLetters.f at h
 have H := h; clear h; obtain ⟨t480, A2, H⟩ := bs H; obtain rfl := Option.some.inj H
 go_enter Tryz.func199, Tryz.ntmps199
 go_wp2_with (first | ((with_reducible refine gd 4 216 ?_); refine gc 4 Tryz.func216 #[.string a0, .string (⟨#[97, 98, 99, 100, 101, 102, 103, 104, 105, 106, 107, 108, 109, 110, 111, 112, 113, 114, 115, 116, 117, 118, 119, 120, 121, 122]⟩ : ByteArray)] (strings_Trim.calls a0 (⟨#[97, 98, 99, 100, 101, 102, 103, 104, 105, 106, 107, 108, 109, 110, 111, 112, 113, 114, 115, 116, 117, 118, 119, 120, 121, 122]⟩ : ByteArray) t480 _ A2.out) ?_; rintro e w3 ⟨rfl, hb⟩; refine ⟨_, rfl, ?_⟩; replace HB := uB HB hb; (try clear hb)))
 go_ret
 exact ⟨ax27, ax39⟩

/-! ### impl_isWord: function 142 -/
def impl_isWord.f (a0 : ByteArray) : Option (Bool) := if (a0.size : Int) ≤ 12 then ((impl_areLetters.f a0).bind fun t481 => (some t481)) else (some false)
set_option maxHeartbeats 8000000 in
set_option maxRecDepth 100000 in
theorem impl_isWord.calls (a0 : ByteArray) (r : Bool) (w : World) (h : impl_isWord.f a0 = some r) :
  Calls Tryz.prog 142 #[.string a0] w fun e w' => e = .returned (.bool r) ∧ Below w.heap.size w w' := by
 have HB := am (Below.refl w.heap.size w)
 unfold impl_isWord.f at h
 have H := h; clear h
 by_cases c2 : (a0.size : Int) ≤ 12
 ·rw [if_pos c2] at H
  have c2b0 := decide_eq_true c2; have c2b1 : decide (a0.size ≤ 12) = true := decide_eq_true (by omega); clear c2; obtain ⟨t481, A3, H⟩ := bs H; obtain rfl := Option.some.inj H
  go_enter Tryz.func142, Tryz.ntmps142
  go_wp2_with (first | (go_at_call 199; (with_reducible refine (impl_areLetters.calls a0 t481 _ A3.out).mono ?_); rintro e w4 ⟨rfl, hb⟩; replace HB := uB HB hb; (try clear hb)))
  go_ret
  exact ⟨ax27, ax39⟩
 ·rw [if_neg c2] at H
  have c2b0 := decide_eq_false c2; have c2b1 : decide (a0.size ≤ 12) = false := decide_eq_false (by omega); clear c2; obtain rfl := Option.some.inj H
  go_enter Tryz.func142, Tryz.ntmps142
  go_wp2
  go_ret
  exact ⟨ax27, ax39⟩

end Go.Proofs.YtcplbbflfgckbaaGreatDoor.X


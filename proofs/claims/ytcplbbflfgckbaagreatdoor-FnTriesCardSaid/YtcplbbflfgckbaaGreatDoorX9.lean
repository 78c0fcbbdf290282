-- By gen.py (the session's own program over the kit's printer): functions of the program, each with its contract. Lean checks it.
import Derived.Test.YtcplbbflfgckbaaGreatDoorX5
namespace Go.Proofs.YtcplbbflfgckbaaGreatDoor.X
open Go.RowKit Go.Proofs.YtcplbbflfgckbaaGreatDoorW.PrintWords Go.Proofs.YtcplbbflfgckbaaGreatDoorW.PrintLast Go.Proofs.YtcplbbflfgckbaaGreatDoorW.PrintMore
attribute [local go_sem] max2_int min2_int max_two min_two max_three min_three max_four min_four   -- for this text's walks alone
set_option linter.unusedVariables false
set_option linter.unusedSimpArgs false
set_option maxHeartbeats 8000000
set_option maxRecDepth 100000

/-! ### impl_isTrie: function 124 -/
def impl_isTrie.j0 : Nat → Bool → List (S74) → Option (Bool)
 | 0, _, _ => none
 | k + 1, x16, x174000 => if x16 = true then (some false) else ((impl_Trie_words.f k x174000).bind fun t179 => (if (t179.length : Int) ≤ 40 then ((slices_IsSorted_string_string.f k t179).bind fun t182 => (if t182 = true then ((impl_trieOf.f k t179).bind fun t183 => ((impl_Node.f k t183 x174000).bind fun t186 => (some t186))) else (some false))) else (some false)))
def impl_isTrie.f (k : Nat) (l0_0 : List (S74)) : Option (Bool) := (impl_Trie_prefixes.f k l0_0).bind fun bt174 => (if bt174.2 = true then ((slices_ContainsFunc_string_string.f bt174.1 (fun z_ => impl_isTrie_1.f z_)).bind fun t178 => (impl_isTrie.j0 k t178 l0_0)) else (impl_isTrie.j0 k true l0_0))
def impl_isTrie.T5 : Bool × List (List Nat × List Nat) := (true, [([], []), ([0], [0]), ([1], [1]), ([2], [2]), ([3], [3]), ([4, 3, 3], [3, 4]), ([3, 5], [3, 5]), ([6, 5], [6]), ([7], [7]), ([8, 7, 7], [7, 8]), ([9, 7], [7, 9]), ([7], [7]), ([11, 7], [7, 11]), ([10, 12, 9, 7], [7, 10, 12]), ([7, 13], [7, 13]), ([14, 13, 0, 1, 2, 3, 4, 5, 6, 7, 8, 9, 10, 11, 12, 13, 14], [14])])
def impl_isTrie.B5 : List Nat := [0, 1, 3, 7, 15, 31, 63, 127, 255, 511, 1023, 255, 2303, 8191, 16383, 32767]
theorem impl_isTrie.tab5 : rtab .any (opsOf Tryz.f124 5) = impl_isTrie.T5 := by kernel_rfl
theorem impl_isTrie.bits5 : waitsOk impl_isTrie.T5.2 impl_isTrie.B5 = true := by kernel_rfl
theorem impl_isTrie.calls (k : Nat) (A0_0 : Option Addr) (c0_0 : Nat) (l0_0 : List (S74)) (r : Bool) (w : World) (hr0_0 : Kd.C k74 w A0_0 l0_0.length l0_0) (hc0_0 : l0_0.length ≤ c0_0) (h : impl_isTrie.f k l0_0 = some r) :
  Calls Tryz.prog 124 #[.agg #[.slice A0_0 l0_0.length c0_0]] w fun e w' => e = .returned (.bool r) ∧ Below w.heap.size w w' := by
 have hu26 := Tryz.underlying26
 have hfd26_0 : ∀ (v0_ : Value) (W : World), (Instr.field 26 (.agg #[v0_]) 0).run Tryz.prog W = .ok (v0_) W := fun v0_ W => by kernel_rfl
 have HR0_0 := am hr0_0; have HC0_0 := am hc0_0; clear hr0_0 hc0_0; have HB := am (Below.refl w.heap.size w)
 unfold impl_isTrie.f at h
 have H := h; clear h; obtain ⟨⟨t174, t177⟩, A2, H⟩ := bs H; have HC3 := am H; clear H
 go_enter Tryz.func124, Tryz.ntmps124
 go_upto_region 2 with (first | ((with_reducible refine gt 1 ?_); refine bx 1 #[.slice A0_0 l0_0.length c0_0] 26 ?_; intro gb173 hg w4 hbox hb; have BK173 := am (hbox); have GW173 := uG hg HB; have GE173 := uG hg HB; replace HB := uB HB hb; clear hb hbox hg; obtain ⟨hcz5_0, hfz5_0⟩ := bz (.slice A0_0 l0_0.length c0_0) BK173) | ((with_reducible refine gd 8 164 ?_); refine gc 8 Tryz.func164 #[.agg #[.slice A0_0 l0_0.length c0_0]] (impl_Trie_prefixes.calls k _ _ l0_0 t174 t177 _ ax30 (HC0_0.out) A2.out) ?_; rintro e w6 ⟨v175, rfl, ho0, hb⟩; refine ⟨_, rfl, ?_⟩; have HO176 := am (Kd.R_lower ho0 (bS HB)); replace BK173 := ub BK173 hb; replace HB := uS HB hb; (try clear hb ho0)))
 (try simp only [Act.put, List.setIfInBounds_toArray, List.set_cons_zero, List.set_cons_succ])
 go_cut [16] (fun v16 wc => ∃ (kq : Nat) (x16_2 : Bool), v16 = .bool x16_2 ∧ Aside0 (impl_isTrie.j0 kq x16_2 l0_0 = some r) ∧ Aside0 (kq ≤ k) ∧ Aside0 (wc.heap[gb173]? = some (.cells #[(.slice A0_0 l0_0.length c0_0)] 26 (0, 0))) ∧ Aside0 (Below w.heap.size w wc))
 case first =>
  have H := HC3.out; clear HC3
  by_cases c7 : t177 = true
  ·subst c7
   rw [if_pos rfl] at H; obtain ⟨t178, A8, H⟩ := bs H; have H' := am H; clear H; obtain ⟨Ao9, co9, rfl⟩ := Kd.R_slice HO176.out
   go_wp2_with (first | (go_at_call 140; (with_reducible refine (slices_ContainsFunc_string_string.calls _ _ t174 (fun z_ => impl_isTrie_1.f z_) t178 _ ?side1 ?side2 ?side3 ?side4 A8.out).mono ?_); (case side1 => repeat (first | exact (Kd.R_reads' HO176.out).2.2 | (with_reducible refine Kd.C_alloc ?_ _) | (with_reducible refine Kd.C_drewN ?_ _) | (with_reducible refine Kd.C_drew ?_))); (case side2 => exact (Kd.R_reads' HO176.out).2.1); (case side3 => exact enters_of Tryz.func195 (by kernel_rfl) rfl); (case side4 => intro x_ hx_ W_ hW_ r_ h_; exact (impl_isTrie_1.calls x_ r_ W_ h_).mono (fun e_ w_ hp_ => ⟨hp_.1, hp_.2.below⟩)); rintro e w10 ⟨rfl, hb⟩; replace HO176 := uR HO176 hb; replace BK173 := ub BK173 hb; replace HB := uS HB hb; (try clear hb)))
   go_meet
   case rel => exact ⟨_, (t178), ax18, H', ⟨by first | omega | exact Nat.le_refl _⟩, ⟨aU⟩, ⟨aL⟩⟩
  ·replace c7 := Bool.eq_false_iff.mpr c7
   subst c7; rw [if_neg (show ¬ (false = true) by decide)] at H; have H' := am H; clear H
   go_wp2
   go_meet
   case rel => exact ⟨_, (true), ax18, H', ⟨by first | omega | exact Nat.le_refl _⟩, ⟨aU⟩, ⟨aL⟩⟩
 case rest =>
  clear HC3; (try clear hcz5_0);(try clear hfz5_0); obtain ⟨kq, x16_2, rfl, HA, HJ2, BK173, HB⟩ := hcut
  cases kq with
  | zero => exact absurd HA.out (by simp [impl_isTrie.j0])
  | succ kj2 =>
   have H := HA.out; clear HA; simp only [impl_isTrie.j0] at H
   by_cases c11 : x16_2 = true
   ·subst c11
    rw [if_pos rfl] at H; obtain rfl := Option.some.inj H
    go_wp2
    go_ret
    exact ⟨ax21, aL⟩
   ·replace c11 := Bool.eq_false_iff.mpr c11
    subst c11; rw [if_neg (show ¬ (false = true) by decide)] at H; obtain ⟨t179, A12, H⟩ := bs H
    by_cases c13 : (t179.length : Int) ≤ 40
    ·rw [if_pos c13] at H
     have c13b0 := decide_eq_true c13; have c13b1 : decide (t179.length ≤ 40) = true := decide_eq_true (by omega); clear c13; obtain ⟨t182, A14, H⟩ := bs H
     by_cases c15 : t182 = true
     ·subst c15
      rw [if_pos rfl] at H; obtain ⟨t183, A16, H⟩ := bs H; obtain ⟨t186, A17, H⟩ := bs H; obtain rfl := Option.some.inj H; obtain ⟨hcz18_0, hfz18_0⟩ := bz (.slice A0_0 l0_0.length c0_0) BK173
      try go_wp2_with (first | ((with_reducible refine gd 18 125 ?_); refine gc 18 Tryz.func125 #[.agg #[.slice A0_0 l0_0.length c0_0]] (impl_Trie_words.calls kj2 _ _ l0_0 t179 _ ax30 (HC0_0.out) A12.out) ?_; rintro e w19 ⟨v180, rfl, ho0, hb⟩; refine ⟨_, rfl, ?_⟩; have HO181 := am (Kd.R_lower ho0 (bS HB)); replace BK173 := ub BK173 hb; replace HB := uS HB hb; (try clear hb ho0)))
      replace HO181 := am (Kd.R_drew HO181.out); replace BK173 := am (blk_drew BK173.out); replace HB := am (below_drew1 HB.out); obtain ⟨Ao21, co21, eo21⟩ := Kd.R_slice HO181.out; (first | subst eo21 | (injection eo21 with f1_ f2_ f3_; have f4_ := f1_.symm; have f5_ := f3_.symm; clear f1_ f2_ f3_; subst f4_; subst f5_)); refine start_ (n := 16) (S := fun w' => w'.cell? ⟨gb173, 0, none⟩ = some (.slice A0_0 l0_0.length c0_0)) (ds := []) (ob 16 0) (by kernel_rfl) rfl rfl ((blk_cell BK173.out 0).trans rfl) (fun hHeld => ?_); refine with_tabW impl_isTrie.tab5 impl_isTrie.bits5 (fun HT_ HW_ => ?_); generalize w19.drew = w20 at HO181 BK173 HB hHeld ⊢; refine pu 0 19 ?_; refine pu 1 20 ?_; refine pu 2 21 ?_; refine pu 3 22 ?_; refine pu 4 23 ?_; refine one_ (i := 5) (N := some 24) (ob 16 63) rfl rfl (one_of HT_.out (by kernel_rfl)) (by decide) (fun K hK => ?_); refine goes_ Tryz.func196 (by kernel_rfl) rfl #[.slice Ao21 t179.length co21] (by rfl) rfl rfl ax26 ?_
      with_reducible refine (slices_IsSorted_string_string.calls kj2 _ _ t179 true _ ?side1 ?side2 A14.out).mono ?_
      (case side1 => exact ax46)
      (case side2 => exact (Kd.R_reads' HO181.out).2.1)
      rintro e w' ⟨rfl, ⟨nd, rfl⟩⟩; refine ⟨_, rfl, ?_⟩; refine hK.out _ _ ((blk_cell BK173.out 0).trans rfl) (fun hHeld => ?_); clear hK K; refine nm 24 ?_; refine pu 6 25 ?_; refine pu 7 26 ?_; refine pu 8 27 ?_; refine pu 11 30 ?_; refine take_ (i := 12) (N := some 31) (v := ?_) (a' := ?_) (ob 16 6655) rfl rfl (take_ofW HT_.out HW_.out (by kernel_rfl)) (fun _ _ _ h => h) (Or.inl ⟨by rfl, ?_⟩) hHeld ?_ ?_
      rotate_left
      ·exact ax10
      rotate_left
      ·exact ax11
      refine one_ (i := 9) (N := some 28) (ob 16 7167) rfl rfl (one_of HT_.out (by kernel_rfl)) (by decide) (fun K hK => ?_); refine goes_ Tryz.func150 (by kernel_rfl) rfl #[.slice Ao21 t179.length co21] (by rfl) rfl rfl ax26 ?_
      with_reducible refine (impl_trieOf.calls kj2 _ _ t179 t183 _ ?side1 ?side2 A16.out).mono ?_
      (case side1 => exact ax46)
      (case side2 => exact (Kd.R_reads' HO181.out).2.1)
      rintro e w22 ⟨v184, rfl, ho0, hb⟩; refine ⟨_, rfl, ?_⟩; replace HO181 := uR HO181 hb; have HO185 := am (Kd.R_lower ho0 (bS HB)); replace BK173 := ub BK173 hb; replace HB := uS HB hb; (try clear hb); (try clear hb2); (try clear hk); (try clear hi); (try clear ho0); obtain ⟨Ao23, co23, eo23⟩ := Kd.R_slice HO185.out; (first | subst eo23 | (injection eo23 with f1_ f2_ f3_; have f4_ := f1_.symm; have f5_ := f3_.symm; clear f1_ f2_ f3_; subst f4_; subst f5_)); refine hK.out _ _ ((blk_cell BK173.out 0).trans rfl) (fun hHeld => ?_); clear hK K; refine nm 28 ?_; refine pu 10 29 ?_; refine one_ (i := 13) (N := some 32) (ob 16 16383) rfl rfl (one_of HT_.out (by kernel_rfl)) (by decide) (fun K hK => ?_); refine goes_ Tryz.func197 (by kernel_rfl) rfl #[.slice Ao23 t183.length co23, .slice A0_0 l0_0.length c0_0] (by rfl) rfl rfl ax26 ?_
      with_reducible refine (impl_Node.calls kj2 _ _ t183 _ _ l0_0 t186 _ ?side1 ?side2 ?side3 ?side4 A17.out).mono ?_
      (case side1 => repeat (first | exact (Kd.R_reads' HO185.out).2.2 | (with_reducible refine Kd.C_alloc ?_ _) | (with_reducible refine Kd.C_drewN ?_ _) | (with_reducible refine Kd.C_drew ?_)))
      (case side2 => exact (Kd.R_reads' HO185.out).2.1)
      (case side3 => exact ax30)
      (case side4 => exact HC0_0.out)
      rintro e w' ⟨rfl, ⟨nd, rfl⟩⟩; refine ⟨_, rfl, ?_⟩; refine hK.out _ _ ((blk_cell BK173.out 0).trans rfl) (fun hHeld => ?_); clear hK K; refine nm 32 ?_; refine pu 14 33 ?_; refine pu 15 2 ?_; refine dn ?_
      try go_wp2
      go_ret
      exact ⟨ax21, aL⟩
     ·replace c15 := Bool.eq_false_iff.mpr c15
      subst c15; rw [if_neg (show ¬ (false = true) by decide)] at H; obtain rfl := Option.some.inj H; obtain ⟨hcz24_0, hfz24_0⟩ := bz (.slice A0_0 l0_0.length c0_0) BK173
      try go_wp2_with (first | ((with_reducible refine gd 18 125 ?_); refine gc 18 Tryz.func125 #[.agg #[.slice A0_0 l0_0.length c0_0]] (impl_Trie_words.calls kj2 _ _ l0_0 t179 _ ax30 (HC0_0.out) A12.out) ?_; rintro e w25 ⟨v180, rfl, ho0, hb⟩; refine ⟨_, rfl, ?_⟩; have HO181 := uL ho0 HB; replace HB := uB HB hb; (try clear hb ho0)))
      replace HO181 := am (Kd.R_drew HO181.out); replace HB := am (below_drew1 HB.out); obtain ⟨Ao27, co27, eo27⟩ := Kd.R_slice HO181.out; (first | subst eo27 | (injection eo27 with f1_ f2_ f3_; have f4_ := f1_.symm; have f5_ := f3_.symm; clear f1_ f2_ f3_; subst f4_; subst f5_)); refine start_ (n := 16) (S := fun w' => True) (ds := []) (ob 16 0) (by kernel_rfl) rfl rfl trivial (fun hHeld => ?_); refine with_tabW impl_isTrie.tab5 impl_isTrie.bits5 (fun HT_ HW_ => ?_); generalize w25.drew = w26 at HO181 HB hHeld ⊢; refine pu 0 19 ?_; refine pu 1 20 ?_; refine pu 2 21 ?_; refine pu 3 22 ?_; refine pu 4 23 ?_; refine one_ (i := 5) (N := some 24) (ob 16 63) rfl rfl (one_of HT_.out (by kernel_rfl)) (by decide) (fun K hK => ?_); refine goes_ Tryz.func196 (by kernel_rfl) rfl #[.slice Ao27 t179.length co27] (by rfl) rfl rfl ax26 ?_
      with_reducible refine (slices_IsSorted_string_string.calls kj2 _ _ t179 false _ ?side1 ?side2 A14.out).mono ?_
      (case side1 => exact ax46)
      (case side2 => exact (Kd.R_reads' HO181.out).2.1)
      rintro e w' ⟨rfl, ⟨nd, rfl⟩⟩; refine ⟨_, rfl, ?_⟩; refine hK.out _ _ trivial (fun hHeld => ?_); clear hK K; refine nm 24 ?_; refine pu 6 25 ?_; refine pu 7 26 ?_; refine pu 8 27 ?_; refine pu 9 28 ?_; refine pu 10 29 ?_; refine pu 11 30 ?_; refine pu 12 31 ?_; refine pu 13 32 ?_; refine pu 14 33 ?_; refine pu 15 2 ?_; refine dn ?_
      try go_wp2
      go_ret
      exact ⟨ax21, aL⟩
    ·rw [if_neg c13] at H
     have c13b0 := decide_eq_false c13; have c13b1 : decide (t179.length ≤ 40) = false := decide_eq_false (by omega); clear c13; obtain rfl := Option.some.inj H; obtain ⟨hcz28_0, hfz28_0⟩ := bz (.slice A0_0 l0_0.length c0_0) BK173
     try go_wp2_with (first | ((with_reducible refine gd 18 125 ?_); refine gc 18 Tryz.func125 #[.agg #[.slice A0_0 l0_0.length c0_0]] (impl_Trie_words.calls kj2 _ _ l0_0 t179 _ ax30 (HC0_0.out) A12.out) ?_; rintro e w29 ⟨v180, rfl, ho0, hb⟩; refine ⟨_, rfl, ?_⟩; have HO181 := uL ho0 HB; replace HB := uB HB hb; (try clear hb ho0)))
     replace HO181 := am (Kd.R_drew HO181.out); replace HB := am (below_drew1 HB.out); obtain ⟨Ao31, co31, eo31⟩ := Kd.R_slice HO181.out; (first | subst eo31 | (injection eo31 with f1_ f2_ f3_; have f4_ := f1_.symm; have f5_ := f3_.symm; clear f1_ f2_ f3_; subst f4_; subst f5_)); refine start_ (n := 16) (S := fun w' => True) (ds := []) (ob 16 0) (by kernel_rfl) rfl rfl trivial (fun hHeld => ?_); refine with_tabW impl_isTrie.tab5 impl_isTrie.bits5 (fun HT_ HW_ => ?_); generalize w29.drew = w30 at HO181 HB hHeld ⊢; refine pu 0 19 ?_; refine pu 1 20 ?_; refine pu 2 21 ?_; refine pu 3 22 ?_; refine pu 4 23 ?_; refine pu 5 24 ?_; refine pu 6 25 ?_; refine pu 7 26 ?_; refine pu 8 27 ?_; refine pu 9 28 ?_; refine pu 10 29 ?_; refine pu 11 30 ?_; refine pu 12 31 ?_; refine pu 13 32 ?_; refine pu 14 33 ?_; refine pu 15 2 ?_; refine dn ?_
     try go_wp2
     go_ret
     exact ⟨ax21, aL⟩

/-! ### impl_CountWords: function 22 -/
def impl_CountWords.f (k : Nat) (l0_0 : List (S74)) : Option (Int × Bool) := (impl_isTrie.f k l0_0).bind fun t188 => (if t188 = true then ((impl_Trie_words.f k l0_0).bind fun t189 => (some ((t189.length : Int), true))) else (some (0, false)))
theorem impl_CountWords.calls (k : Nat) (A0_0 : Option Addr) (c0_0 : Nat) (l0_0 : List (S74)) (r1 : Int) (r2 : Bool) (w : World) (hr0_0 : Kd.C k74 w A0_0 l0_0.length l0_0) (hc0_0 : l0_0.length ≤ c0_0) (h : impl_CountWords.f k l0_0 = some (r1, r2)) :
  Calls Tryz.prog 22 #[.agg #[.slice A0_0 l0_0.length c0_0]] w fun e w' => e = .returned (.tuple #[.int .i64 r1, .bool r2]) ∧ Below w.heap.size w w' := by
 have hu26 := Tryz.underlying26; have HR0_0 := am hr0_0; have HC0_0 := am hc0_0; clear hr0_0 hc0_0; have HB := am (Below.refl w.heap.size w)
 unfold impl_CountWords.f at h
 have H := h; clear h; obtain ⟨t188, A2, H⟩ := bs H
 by_cases c3 : t188 = true
 ·subst c3
  rw [if_pos rfl] at H; obtain ⟨t189, A4, H⟩ := bs H; simp only [Option.some.injEq, Prod.mk.injEq] at H; obtain ⟨rfl, rfl⟩ := H
  go_enter Tryz.func22, Tryz.ntmps22
  go_wp2_with (first | ((with_reducible refine gt 1 ?_); refine bx 1 #[.slice A0_0 l0_0.length c0_0] 26 ?_; intro gb187 hg w5 hbox hb; have BK187 := am (hbox); have GW187 := uG hg HB; have GE187 := uG hg HB; replace HB := uB HB hb; clear hb hbox hg; obtain ⟨hcz6_0, hfz6_0⟩ := bz (.slice A0_0 l0_0.length c0_0) BK187) | ((with_reducible refine gd 5 124 ?_); refine gc 5 Tryz.func124 #[.agg #[.slice A0_0 l0_0.length c0_0]] (impl_isTrie.calls k _ _ l0_0 true _ ax30 (HC0_0.out) A2.out) ?_; rintro e w7 ⟨rfl, hb⟩; refine ⟨_, rfl, ?_⟩; replace BK187 := ub BK187 hb; replace HB := uS HB hb; (try clear hb); obtain ⟨hcz8_0, hfz8_0⟩ := bz (.slice A0_0 l0_0.length c0_0) BK187) | ((with_reducible refine gd 8 125 ?_); refine gc 8 Tryz.func125 #[.agg #[.slice A0_0 l0_0.length c0_0]] (impl_Trie_words.calls k _ _ l0_0 t189 _ ax30 (HC0_0.out) A4.out) ?_; rintro e w9 ⟨v190, rfl, ho0, hb⟩; refine ⟨_, rfl, ?_⟩; have HO191 := uL ho0 HB; replace HB := uB HB hb; (try clear hb ho0); obtain ⟨Ao10, co10, rfl⟩ := Kd.R_slice HO191.out))
  go_ret2
  exact ⟨ax21, aL⟩
 ·replace c3 := Bool.eq_false_iff.mpr c3
  subst c3; rw [if_neg (show ¬ (false = true) by decide)] at H; simp only [Option.some.injEq, Prod.mk.injEq] at H; obtain ⟨rfl, rfl⟩ := H
  go_enter Tryz.func22, Tryz.ntmps22
  go_wp2_with (first | ((with_reducible refine gt 1 ?_); refine bx 1 #[.slice A0_0 l0_0.length c0_0] 26 ?_; intro gb187 hg w11 hbox hb; have BK187 := am (hbox); have GW187 := uG hg HB; have GE187 := uG hg HB; replace HB := uB HB hb; clear hb hbox hg; obtain ⟨hcz12_0, hfz12_0⟩ := bz (.slice A0_0 l0_0.length c0_0) BK187) | ((with_reducible refine gd 5 124 ?_); refine gc 5 Tryz.func124 #[.agg #[.slice A0_0 l0_0.length c0_0]] (impl_isTrie.calls k _ _ l0_0 false _ ax30 (HC0_0.out) A2.out) ?_; rintro e w13 ⟨rfl, hb⟩; refine ⟨_, rfl, ?_⟩; replace HB := uB HB hb; (try clear hb)))
  go_ret2
  exact ⟨ax21, aL⟩

/-! ### strings_Trim: function 216: a contract of our own -/
def strings_Trim.f (a0 a1 : ByteArray) : Option ByteArray := if a0.size ≤ 9223372036854775807 ∧ a1.size < 4294967281 ∧ a1.data.toList.all (fun b => decide (b.toNat < 128)) = true then some ⟨(Lib.trimS a0.data.toList a1.data.toList).toArray⟩ else none
theorem strings_Trim.calls (a0 a1 : ByteArray) (r : ByteArray) (w : World) (h : strings_Trim.f a0 a1 = some r) :
  Calls Tryz.prog 216 #[.string a0, .string a1] w fun e w' => e = .returned (.string r) ∧ Below w.heap.size w w' := by
 unfold strings_Trim.f at h
 by_cases hc : a0.size ≤ 9223372036854775807 ∧ a1.size < 4294967281 ∧ a1.data.toList.all (fun b => decide (b.toNat < 128)) = true
 ·rw [if_pos hc] at h
  obtain rfl := Option.some.inj h; refine (Any.strings_Trim_laid Tryz.laysTrim (by kernel_rfl) a0 a1 w hc.1 hc.2.1 (ascii_of_all hc.2.2)).mono ?_; rintro e w' ⟨rfl, hb⟩
  exact ⟨rfl, hb⟩
 ·rw [if_neg hc] at h; cases h

end Go.Proofs.YtcplbbflfgckbaaGreatDoor.X
namespace Go.Proofs.YtcplbbflfgckbaaGreatDoor.X
open Go.RowKit Go.Proofs.YtcplbbflfgckbaaGreatDoorW.PrintWords Go.Proofs.YtcplbbflfgckbaaGreatDoorW.PrintLast Go.Proofs.YtcplbbflfgckbaaGreatDoorW.PrintMore
attribute [local go_sem] max2_int min2_int max_two min_two max_three min_three max_four min_four   -- for this text's walks alone
set_option linter.unusedVariables false
set_option linter.unusedSimpArgs false
set_option maxHeartbeats 8000000
set_option maxRecDepth 100000

/-! ### impl_areLetters: function 199 -/
def impl_areLetters.f (a0 : ByteArray) : Option (Bool) := (strings_Trim.f a0 (⟨#[97, 98, 99, 100, 101, 102, 103, 104, 105, 106, 107, 108, 109, 110, 111, 112, 113, 114, 115, 116, 117, 118, 119, 120, 121, 122]⟩ : ByteArray)).bind fun t192 => (some (t192.toList == ([] : List UInt8)))
theorem impl_areLetters.calls (a0 : ByteArray) (r : Bool) (w : World) (h : impl_areLetters.f a0 = some r) :
  Calls Tryz.prog 199 #[.string a0] w fun e w' => e = .returned (.bool r) ∧ Below w.heap.size w w' := by
 have HB := am (Below.refl w.heap.size w)
 unfold impl_areLetters.f at h
 have H := h; clear h; obtain ⟨t192, A2, H⟩ := bs H; obtain rfl := Option.some.inj H
 go_enter Tryz.func199, Tryz.ntmps199
 go_wp2_with (first | ((with_reducible refine gd 4 216 ?_); refine gc 4 Tryz.func216 #[.string a0, .string (⟨#[97, 98, 99, 100, 101, 102, 103, 104, 105, 106, 107, 108, 109, 110, 111, 112, 113, 114, 115, 116, 117, 118, 119, 120, 121, 122]⟩ : ByteArray)] (strings_Trim.calls a0 (⟨#[97, 98, 99, 100, 101, 102, 103, 104, 105, 106, 107, 108, 109, 110, 111, 112, 113, 114, 115, 116, 117, 118, 119, 120, 121, 122]⟩ : ByteArray) t192 _ A2.out) ?_; rintro e w3 ⟨rfl, hb⟩; refine ⟨_, rfl, ?_⟩; replace HB := uB HB hb; (try clear hb)))
 go_ret
 exact ⟨ax21, aL⟩

/-! ### impl_isWord: function 142 -/
def impl_isWord.f (a0 : ByteArray) : Option (Bool) := if (a0.size : Int) ≤ 12 then ((impl_areLetters.f a0).bind fun t193 => (some t193)) else (some false)
theorem impl_isWord.calls (a0 : ByteArray) (r : Bool) (w : World) (h : impl_isWord.f a0 = some r) :
  Calls Tryz.prog 142 #[.string a0] w fun e w' => e = .returned (.bool r) ∧ Below w.heap.size w w' := by
 have HB := am (Below.refl w.heap.size w)
 unfold impl_isWord.f at h
 have H := h; clear h
 by_cases c2 : (a0.size : Int) ≤ 12
 ·rw [if_pos c2] at H
  have c2b0 := decide_eq_true c2; have c2b1 : decide (a0.size ≤ 12) = true := decide_eq_true (by omega); clear c2; obtain ⟨t193, A3, H⟩ := bs H; obtain rfl := Option.some.inj H
  go_enter Tryz.func142, Tryz.ntmps142
  go_wp2_with (first | (go_at_call 199; (with_reducible refine (impl_areLetters.calls a0 t193 _ A3.out).mono ?_); rintro e w4 ⟨rfl, hb⟩; replace HB := uB HB hb; (try clear hb)))
  go_ret
  exact ⟨ax21, aL⟩
 ·rw [if_neg c2] at H
  have c2b0 := decide_eq_false c2; have c2b1 : decide (a0.size ≤ 12) = false := decide_eq_false (by omega); clear c2; obtain rfl := Option.some.inj H
  go_enter Tryz.func142, Tryz.ntmps142
  go_wp2
  go_ret
  exact ⟨ax21, aL⟩

/-! ### impl_areKept: function 110 -/
def impl_areKept.f (k : Nat) (l0_0 : List (S74)) (a1 : ByteArray) : Option (Bool) := (impl_isTrie.f k l0_0).bind fun t195 => (if t195 = true then ((impl_isWord.f a1).bind fun t196 => (some t196)) else (some false))
theorem impl_areKept.calls (k : Nat) (A0_0 : Option Addr) (c0_0 : Nat) (l0_0 : List (S74)) (a1 : ByteArray) (r : Bool) (w : World) (hr0_0 : Kd.C k74 w A0_0 l0_0.length l0_0) (hc0_0 : l0_0.length ≤ c0_0) (h : impl_areKept.f k l0_0 a1 = some r) :
  Calls Tryz.prog 110 #[.agg #[.slice A0_0 l0_0.length c0_0], .string a1] w fun e w' => e = .returned (.bool r) ∧ Below w.heap.size w w' := by
 have hu26 := Tryz.underlying26; have HR0_0 := am hr0_0; have HC0_0 := am hc0_0; clear hr0_0 hc0_0; have HB := am (Below.refl w.heap.size w)
 unfold impl_areKept.f at h
 have H := h; clear h; obtain ⟨t195, A3, H⟩ := bs H
 by_cases c4 : t195 = true
 ·subst c4
  rw [if_pos rfl] at H; obtain ⟨t196, A5, H⟩ := bs H; obtain rfl := Option.some.inj H
  go_enter Tryz.func110, Tryz.ntmps110
  go_wp2_with (first | ((with_reducible refine gt 2 ?_); refine bx 2 #[.slice A0_0 l0_0.length c0_0] 26 ?_; intro gb194 hg w6 hbox hb; have BK194 := am (hbox); have GW194 := uG hg HB; have GE194 := uG hg HB; replace HB := uB HB hb; clear hb hbox hg; obtain ⟨hcz7_0, hfz7_0⟩ := bz (.slice A0_0 l0_0.length c0_0) BK194) | ((with_reducible refine gd 6 124 ?_); refine gc 6 Tryz.func124 #[.agg #[.slice A0_0 l0_0.length c0_0]] (impl_isTrie.calls k _ _ l0_0 true _ ax30 (HC0_0.out) A3.out) ?_; rintro e w8 ⟨rfl, hb⟩; refine ⟨_, rfl, ?_⟩; replace HB := uB HB hb; (try clear hb)) | (go_at_call 142; (with_reducible refine (impl_isWord.calls a1 t196 _ A5.out).mono ?_); rintro e w9 ⟨rfl, hb⟩; replace HB := uB HB hb; (try clear hb)))
  go_ret
  exact ⟨ax21, aL⟩
 ·replace c4 := Bool.eq_false_iff.mpr c4
  subst c4; rw [if_neg (show ¬ (false = true) by decide)] at H; obtain rfl := Option.some.inj H
  go_enter Tryz.func110, Tryz.ntmps110
  go_wp2_with (first | ((with_reducible refine gt 2 ?_); refine bx 2 #[.slice A0_0 l0_0.length c0_0] 26 ?_; intro gb194 hg w10 hbox hb; have BK194 := am (hbox); have GW194 := uG hg HB; have GE194 := uG hg HB; replace HB := uB HB hb; clear hb hbox hg; obtain ⟨hcz11_0, hfz11_0⟩ := bz (.slice A0_0 l0_0.length c0_0) BK194) | ((with_reducible refine gd 6 124 ?_); refine gc 6 Tryz.func124 #[.agg #[.slice A0_0 l0_0.length c0_0]] (impl_isTrie.calls k _ _ l0_0 false _ ax30 (HC0_0.out) A3.out) ?_; rintro e w12 ⟨rfl, hb⟩; refine ⟨_, rfl, ?_⟩; replace HB := uB HB hb; (try clear hb)))
  go_ret
  exact ⟨ax21, aL⟩

/-! ### slices_Index_string_string: function 167 -/
def slices_Index_string_string.l0 : Nat → List ByteArray → ByteArray → Int → Int → Option (Int)
 | 0, _, _, _, _ => none
 | k + 1, x0, x1, x7, x8 => if x8 < x7 then (if 0 ≤ x8 then (if x8 < (x0.length : Int) then (if x1.toList = (rdOf ByteArray.empty x0 x8).toList then (some x8) else (slices_Index_string_string.l0 k x0 x1 x7 (wrap64 (x8 + 1)))) else (none)) else (none)) else (some (-1))
def slices_Index_string_string.f (k : Nat) (l0 : List ByteArray) (a1 : ByteArray) : Option (Int) := slices_Index_string_string.l0 k l0 a1 (l0.length : Int) 0
theorem slices_Index_string_string.calls (k : Nat) (A0 : Option Addr) (c0 : Nat) (l0 : List ByteArray) (a1 : ByteArray) (r : Int) (w : World) (hr0 : Kd.C Kd.string w A0 l0.length l0) (hc0 : l0.length ≤ c0) (h : slices_Index_string_string.f k l0 a1 = some r) :
  Calls Tryz.prog 167 #[.slice A0 l0.length c0, .string a1] w fun e w' => e = .returned (.int .i64 r) ∧ Drawn0 w w' := by
 have HR0 := am hr0; have HC0 := am hc0; clear hr0 hc0
 unfold slices_Index_string_string.f at h
 have H := h; clear h; have H' := am H; clear H
 go_enter Tryz.func167, Tryz.ntmps167
 go_wp2
 go_loopg [8] k (fun kq v8 w' => ∃ (x8_1 : Int), v8 = .int .i64 x8_1 ∧ Aside0 (slices_Index_string_string.l0 kq l0 a1 (l0.length : Int) x8_1 = some r) ∧ Aside0 (kq ≤ k) ∧ Drawn0 w w')
 case atStart => exact ⟨(0), ax18, H', ⟨Nat.le_refl _⟩, by repeat (first | exact Drawn0.refl _ | apply Drawn0.step)⟩
 case round =>
  clear H'; obtain ⟨x8_1, rfl, HA, HK1, ⟨m1, rfl⟩⟩ := hrel
  cases gk with
  | zero => exact absurd HA.out (by simp [slices_Index_string_string.l0])
  | succ k1 =>
   have H := HA.out; clear HA; simp only [slices_Index_string_string.l0] at H
   by_cases c3 : x8_1 < (l0.length : Int)
   ·rw [if_pos c3] at H
    have c3b0 := decide_eq_true c3; clear c3
    by_cases c4 : 0 ≤ x8_1
    ·rw [if_pos c4] at H
     have c4b0 := decide_eq_true c4; clear c4
     by_cases c5 : x8_1 < (l0.length : Int)
     ·rw [if_pos c5] at H
      have c5b0 := decide_eq_true c5; clear c5
      by_cases c6 : a1.toList = (rdOf ByteArray.empty l0 x8_1).toList
      ·rw [if_pos c6] at H
       have c6b0 := beq_iff_eq.mpr c6; have c6b1 := bne_eq_false_iff_eq.mpr c6; clear c6; obtain rfl := Option.some.inj H; have p197 : 0 ≤ (x8_1 : Int) := of_decide_eq_true ax23; have q197 : x8_1 < (l0.length : Int) := of_decide_eq_true ax23; obtain ⟨ad197, e197, hx197_0⟩ := Kd.at_string HR0.out x8_1 p197 q197
       cases e197
       replace p197 := eq_true p197; replace q197 := eq_true q197
       go_wp2
       go_ret
       exact ⟨ax18, ax19⟩
      ·rw [if_neg c6] at H
       have c6b0 := beq_eq_false_iff_ne.mpr c6; have c6b1 := bne_iff_ne.mpr c6; have H' := am H; clear H; have p197 : 0 ≤ (x8_1 : Int) := of_decide_eq_true ax23; have q197 : x8_1 < (l0.length : Int) := of_decide_eq_true ax23; obtain ⟨ad197, e197, hx197_0⟩ := Kd.at_string HR0.out x8_1 p197 q197
       cases e197
       replace p197 := eq_true p197; replace q197 := eq_true q197
       go_wp2
       go_roundg k1
       case measure => have := HK1.out; omega
       case rel => exact ⟨(wrap64 (x8_1 + 1)), ax18, H', ⟨by have := HK1.out; omega⟩, ax19⟩
     ·exact ax6
    ·exact ax2
   ·exact ax12
/-! ### slices_Contains_string_string: function 190 -/
def slices_Contains_string_string.f (k : Nat) (l0 : List ByteArray) (a1 : ByteArray) : Option (Bool) := (slices_Index_string_string.f k l0 a1).bind fun t198 => (some (decide (t198 ≥ 0)))
theorem slices_Contains_string_string.calls (k : Nat) (A0 : Option Addr) (c0 : Nat) (l0 : List ByteArray) (a1 : ByteArray) (r : Bool) (w : World) (hr0 : Kd.C Kd.string w A0 l0.length l0) (hc0 : l0.length ≤ c0) (h : slices_Contains_string_string.f k l0 a1 = some r) :
  Calls Tryz.prog 190 #[.slice A0 l0.length c0, .string a1] w fun e w' => e = .returned (.bool r) ∧ Drawn0 w w' := by
 have HR0 := am hr0; have HC0 := am hc0; clear hr0 hc0
 unfold slices_Contains_string_string.f at h
 have H := h; clear h; obtain ⟨t198, A3, H⟩ := bs H; obtain rfl := Option.some.inj H
 go_enter Tryz.func190, Tryz.ntmps190
 go_wp2_with (first | ((with_reducible refine gd 7 167 ?_); refine gc 7 Tryz.func167 #[.slice A0 l0.length c0, .string a1] (slices_Index_string_string.calls k _ _ l0 a1 t198 _ ax47 (HC0.out) A3.out) ?_; rintro e w' ⟨rfl, ⟨nd, rfl⟩⟩; refine ⟨_, rfl, ?_⟩))
 go_ret
 exact ⟨ax18, ax19⟩

/-! ### impl_Trie_has: function 111 -/
def impl_Trie_has.f (k : Nat) (l0_0 : List (S74)) (a1 : ByteArray) : Option (Bool) := (impl_Trie_words.f k l0_0).bind fun t200 => ((slices_Contains_string_string.f k t200 a1).bind fun t203 => (some t203))
theorem impl_Trie_has.calls (k : Nat) (A0_0 : Option Addr) (c0_0 : Nat) (l0_0 : List (S74)) (a1 : ByteArray) (r : Bool) (w : World) (hr0_0 : Kd.C k74 w A0_0 l0_0.length l0_0) (hc0_0 : l0_0.length ≤ c0_0) (h : impl_Trie_has.f k l0_0 a1 = some r) :
  Calls Tryz.prog 111 #[.agg #[.slice A0_0 l0_0.length c0_0], .string a1] w fun e w' => e = .returned (.bool r) ∧ Below w.heap.size w w' := by
 have hu26 := Tryz.underlying26; have HR0_0 := am hr0_0; have HC0_0 := am hc0_0; clear hr0_0 hc0_0; have HB := am (Below.refl w.heap.size w)
 unfold impl_Trie_has.f at h
 have H := h; clear h; obtain ⟨t200, A3, H⟩ := bs H; obtain ⟨t203, A4, H⟩ := bs H; obtain rfl := Option.some.inj H
 go_enter Tryz.func111, Tryz.ntmps111
 go_wp2_with (first | ((with_reducible refine gt 2 ?_); refine bx 2 #[.slice A0_0 l0_0.length c0_0] 26 ?_; intro gb199 hg w5 hbox hb; have BK199 := am (hbox); have GW199 := uG hg HB; have GE199 := uG hg HB; replace HB := uB HB hb; clear hb hbox hg; obtain ⟨hcz6_0, hfz6_0⟩ := bz (.slice A0_0 l0_0.length c0_0) BK199) | ((with_reducible refine gd 6 125 ?_); refine gc 6 Tryz.func125 #[.agg #[.slice A0_0 l0_0.length c0_0]] (impl_Trie_words.calls k _ _ l0_0 t200 _ ax30 (HC0_0.out) A3.out) ?_; rintro e w7 ⟨v201, rfl, ho0, hb⟩; refine ⟨_, rfl, ?_⟩; have HO202 := uL ho0 HB; replace HB := uB HB hb; (try clear hb ho0); obtain ⟨Ao8, co8, rfl⟩ := Kd.R_slice HO202.out) | ((with_reducible refine gd 8 190 ?_); refine gc 8 Tryz.func190 #[.slice Ao8 t200.length co8, .string a1] (slices_Contains_string_string.calls k _ _ t200 a1 t203 _ (rd2 HO202) (rl HO202) A4.out) ?_; rintro e w' ⟨rfl, ⟨nd, rfl⟩⟩; refine ⟨_, rfl, ?_⟩))
 go_ret
 exact ⟨ax21, aL⟩

/-! ### impl_HasWord: function 34 -/
def impl_HasWord.f (k : Nat) (l0_0 : List (S74)) (a1 : ByteArray) : Option (Bool × Bool) := (impl_areKept.f k l0_0 a1).bind fun t205 => (if t205 = true then ((impl_Trie_has.f k l0_0 a1).bind fun t206 => (some (t206, true))) else (some (false, false)))
theorem impl_HasWord.calls (k : Nat) (A0_0 : Option Addr) (c0_0 : Nat) (l0_0 : List (S74)) (a1 : ByteArray) (r1 : Bool) (r2 : Bool) (w : World) (hr0_0 : Kd.C k74 w A0_0 l0_0.length l0_0) (hc0_0 : l0_0.length ≤ c0_0) (h : impl_HasWord.f k l0_0 a1 = some (r1, r2)) :
  Calls Tryz.prog 34 #[.agg #[.slice A0_0 l0_0.length c0_0], .string a1] w fun e w' => e = .returned (.tuple #[.bool r1, .bool r2]) ∧ Below w.heap.size w w' := by
 have hu26 := Tryz.underlying26; have HR0_0 := am hr0_0; have HC0_0 := am hc0_0; clear hr0_0 hc0_0; have HB := am (Below.refl w.heap.size w)
 unfold impl_HasWord.f at h
 have H := h; clear h; obtain ⟨t205, A3, H⟩ := bs H
 by_cases c4 : t205 = true
 ·subst c4
  rw [if_pos rfl] at H; obtain ⟨t206, A5, H⟩ := bs H; simp only [Option.some.injEq, Prod.mk.injEq] at H; obtain ⟨rfl, rfl⟩ := H
  go_enter Tryz.func34, Tryz.ntmps34
  go_wp2_with (first | ((with_reducible refine gt 2 ?_); refine bx 2 #[.slice A0_0 l0_0.length c0_0] 26 ?_; intro gb204 hg w6 hbox hb; have BK204 := am (hbox); have GW204 := uG hg HB; have GE204 := uG hg HB; replace HB := uB HB hb; clear hb hbox hg; obtain ⟨hcz7_0, hfz7_0⟩ := bz (.slice A0_0 l0_0.length c0_0) BK204) | ((with_reducible refine gd 8 110 ?_); refine gc 8 Tryz.func110 #[.agg #[.slice A0_0 l0_0.length c0_0], .string a1] (impl_areKept.calls k _ _ l0_0 a1 true _ ax30 (HC0_0.out) A3.out) ?_; rintro e w8 ⟨rfl, hb⟩; refine ⟨_, rfl, ?_⟩; replace BK204 := ub BK204 hb; replace HB := uS HB hb; (try clear hb); obtain ⟨hcz9_0, hfz9_0⟩ := bz (.slice A0_0 l0_0.length c0_0) BK204) | ((with_reducible refine gd 12 111 ?_); refine gc 12 Tryz.func111 #[.agg #[.slice A0_0 l0_0.length c0_0], .string a1] (impl_Trie_has.calls k _ _ l0_0 a1 t206 _ ax30 (HC0_0.out) A5.out) ?_; rintro e w10 ⟨rfl, hb⟩; refine ⟨_, rfl, ?_⟩; replace HB := uB HB hb; (try clear hb)))
  go_ret2
  exact ⟨ax21, aL⟩
 ·replace c4 := Bool.eq_false_iff.mpr c4
  subst c4; rw [if_neg (show ¬ (false = true) by decide)] at H; simp only [Option.some.injEq, Prod.mk.injEq] at H; obtain ⟨rfl, rfl⟩ := H
  go_enter Tryz.func34, Tryz.ntmps34
  go_wp2_with (first | ((with_reducible refine gt 2 ?_); refine bx 2 #[.slice A0_0 l0_0.length c0_0] 26 ?_; intro gb204 hg w11 hbox hb; have BK204 := am (hbox); have GW204 := uG hg HB; have GE204 := uG hg HB; replace HB := uB HB hb; clear hb hbox hg; obtain ⟨hcz12_0, hfz12_0⟩ := bz (.slice A0_0 l0_0.length c0_0) BK204) | ((with_reducible refine gd 8 110 ?_); refine gc 8 Tryz.func110 #[.agg #[.slice A0_0 l0_0.length c0_0], .string a1] (impl_areKept.calls k _ _ l0_0 a1 false _ ax30 (HC0_0.out) A3.out) ?_; rintro e w13 ⟨rfl, hb⟩; refine ⟨_, rfl, ?_⟩; replace HB := uB HB hb; (try clear hb)))
  go_ret2
  exact ⟨ax21, aL⟩

/-! ### laws_rBig: function 45 -/
def laws_rBig.f (l0 : List Int) : Option (Bool) := some (decide ((l0.length : Int) > 65536))
theorem laws_rBig.calls (A0 : Option Addr) (c0 : Nat) (l0 : List Int) (r : Bool) (w : World) (hr0 : Kd.C (Kd.int .u8) w A0 l0.length l0) (hc0 : l0.length ≤ c0) (h : laws_rBig.f l0 = some r) :
  Calls Tryz.prog 45 #[.slice A0 l0.length c0] w fun e w' => e = .returned (.bool r) ∧ Drawn0 w w' := by
 have HR0 := am hr0; have HC0 := am hc0; clear hr0 hc0
 unfold laws_rBig.f at h
 have H := h; clear h; obtain rfl := Option.some.inj H
 go_enter Tryz.func45, Tryz.ntmps45
 go_wp2
 go_ret
 exact ⟨ax18, ax19⟩

/-- A state of type 82 at block g of W; what its slices lead to came in by w0. -/
def IsS82 (w0 W : World) (g : Nat) (f0 : List Int) (f1 : Int) (f2 : Int) : Prop := ∃ A0 c0, W.heap[g]? = some (.cells #[.slice A0 f0.length c0, .int .i64 f1, .int .u64 f2] 82 (0, 0)) ∧ w0.heap.size ≤ g ∧ Kd.C (Kd.int .u8) w0 A0 f0.length f0
theorem IsS82.grown {w0 W : World} {g : Nat} {f0 : List Int} {f1 : Int} {f2 : Int} {W1 : World} {row : Option Nat} (h : IsS82 w0 W g f0 f1 f2) (hw : W.grownBy W1 row) (hne : some g ≠ row) : IsS82 w0 W1 g f0 f1 f2 := by
 obtain ⟨A0, c0, hb, hg, hr0⟩ := h
 exact ⟨A0, c0, blk_grown hb hw hne, hg, hr0⟩
theorem IsS82.fresh {w0 W : World} {g : Nat} {f0 : List Int} {f1 : Int} {f2 : Int} (h : IsS82 w0 W g f0 f1 f2) : ∀ k, W.heap.size ≤ k → k ≠ g := by
 obtain ⟨A0, c0, hb, hg, hr0⟩ := h
 exact Kd.freshB hb
theorem IsS82.kept {w0 W : World} {g : Nat} {f0 : List Int} {f1 : Int} {f2 : Int} {W1 : World} {S : Nat → Prop} (h : IsS82 w0 W g f0 f1 f2) (hk : Kept W W1 S) (hne : ¬ S g) : IsS82 w0 W1 g f0 f1 f2 := by
 obtain ⟨A0, c0, hb, hg, hr0⟩ := h
 exact ⟨A0, c0, blk_kept hb hk hne, hg, hr0⟩
theorem IsS82.below {w0 W : World} {g : Nat} {f0 : List Int} {f1 : Int} {f2 : Int} {W1 : World} (h : IsS82 w0 W g f0 f1 f2) (hw : Below W.heap.size W W1) : IsS82 w0 W1 g f0 f1 f2 := h.grown (grown_of_below hw none) (by simp)
theorem IsS82.alloc {w0 W : World} {g : Nat} {f0 : List Int} {f1 : Int} {f2 : Int} (h : IsS82 w0 W g f0 f1 f2) (o : Obj) : IsS82 w0 (W.alloc o) g f0 f1 f2 := h.below (below_alloc (Below.refl _ _) o)
theorem IsS82.drewN {w0 W : World} {g : Nat} {f0 : List Int} {f1 : Int} {f2 : Int} (h : IsS82 w0 W g f0 f1 f2) (m : Nat) : IsS82 w0 (W.drewN m) g f0 f1 f2 := h
theorem IsS82.drew {w0 W : World} {g : Nat} {f0 : List Int} {f1 : Int} {f2 : Int} (h : IsS82 w0 W g f0 f1 f2) : IsS82 w0 W.drew g f0 f1 f2 := h
theorem IsS82.at_ {w0 W : World} {g : Nat} {f0 : List Int} {f1 : Int} {f2 : Int} {w' : World} {m : Nat} (hq : W.drewN m = w') (h : IsS82 w0 W g f0 f1 f2) : IsS82 w0 w' g f0 f1 f2 := by subst hq; exact IsS82.drewN h m
theorem IsS82.apart {w0 W : World} {g : Nat} {f0 : List Int} {f1 : Int} {f2 : Int} {α : Type} {d : Kd α} {e : Nat} {base : Nat} {ok : Nat → Prop} {v : Value} {xs : List α} (h : IsS82 w0 W g f0 f1 f2) (ho : d.R e W base ok v xs) (ht : ∀ q, q ∈ e :: d.E → q ≠ 82) : d.R e W base (fun k => ok k ∧ k ≠ g) v xs := by
 obtain ⟨A0, c0, hb, hg, hr0⟩ := h
 exact Kd.R_types ho hb ht
theorem IsS82.own_ne {w0 W : World} {g : Nat} {f0 : List Int} {f1 : Int} {f2 : Int} {α : Type} {d : Kd α} {e : Nat} {base : Nat} {ok : Nat → Prop} {v : Value} {xs : List α} (h : IsS82 w0 W g f0 f1 f2) (ho : d.R e W base ok v xs) (ht : e ≠ 82) : some g ≠ v.ownBlock := by
 obtain ⟨A0, c0, hb, hg, hr0⟩ := h
 exact Kd.R_ne ho hb ht
theorem IsS82.lt {w0 W : World} {g : Nat} {f0 : List Int} {f1 : Int} {f2 : Int} (h : IsS82 w0 W g f0 f1 f2) : g < W.heap.size := by
 obtain ⟨A0, c0, hb, hg, hr0⟩ := h
 exact blk_lt hb
theorem IsS82.ge {w0 W : World} {g : Nat} {f0 : List Int} {f1 : Int} {f2 : Int} (h : IsS82 w0 W g f0 f1 f2) : w0.heap.size ≤ g := by
 obtain ⟨A0, c0, hb, hg, hr0⟩ := h
 exact hg
theorem IsS82.ne_blk {w0 W : World} {g : Nat} {f0 : List Int} {f1 : Int} {f2 : Int} {a : Nat} {cs : Array Value} {t : TypeId} {fr : Nat × Nat} (h : IsS82 w0 W g f0 f1 f2) (hb2 : W.heap[a]? = some (.cells cs t fr)) (ht : t ≠ 82) : g ≠ a := by
 obtain ⟨A0, c0, hb, hg, hr0⟩ := h; rintro rfl; rw [hb] at hb2
 injection hb2 with hb2
 injection hb2 with _ ht2
 exact ht ht2.symm
theorem IsS82.far {w0 W : World} {g : Nat} {f0 : List Int} {f1 : Int} {f2 : Int} {p : Addr} (h : IsS82 w0 W g f0 f1 f2) (hne : g ≠ p.block) (u : Value) : IsS82 w0 (W.setCell p u) g f0 f1 f2 := by
 obtain ⟨A0, c0, hb, hg, hr0⟩ := h
 exact ⟨A0, c0, blk_far hb hne u, hg, hr0⟩
theorem cellS82_0 {W : World} {g : Nat} {A0 : Option Addr} {c0 : Nat} {f0 : List Int} {f1 : Int} {f2 : Int} (h : W.heap[g]? = some (.cells #[.slice A0 f0.length c0, .int .i64 f1, .int .u64 f2] 82 (0, 0))) : W.cell? ⟨g, 0, none⟩ = some (.slice A0 f0.length c0) := (blk_cell h 0).trans rfl
theorem cellS82_1 {W : World} {g : Nat} {A0 : Option Addr} {c0 : Nat} {f0 : List Int} {f1 : Int} {f2 : Int} (h : W.heap[g]? = some (.cells #[.slice A0 f0.length c0, .int .i64 f1, .int .u64 f2] 82 (0, 0))) : W.cell? ⟨g, 1, none⟩ = some (.int .i64 f1) := (blk_cell h 1).trans rfl
theorem IsS82.set_1 {w0 W : World} {g : Nat} {f0 : List Int} {f1 : Int} {f2 : Int} (h : IsS82 w0 W g f0 f1 f2) (x : Int) : IsS82 w0 (W.setCell ⟨g, 1, none⟩ (.int .i64 x)) g f0 x f2 := by
 obtain ⟨A0, c0, hb, hg, hr0⟩ := h
 exact ⟨A0, c0, (by simpa using blk_set hb 1 (.int .i64 x)), hg, hr0⟩
theorem cellS82_2 {W : World} {g : Nat} {A0 : Option Addr} {c0 : Nat} {f0 : List Int} {f1 : Int} {f2 : Int} (h : W.heap[g]? = some (.cells #[.slice A0 f0.length c0, .int .i64 f1, .int .u64 f2] 82 (0, 0))) : W.cell? ⟨g, 2, none⟩ = some (.int .u64 f2) := (blk_cell h 2).trans rfl
theorem IsS82.set_2 {w0 W : World} {g : Nat} {f0 : List Int} {f1 : Int} {f2 : Int} (h : IsS82 w0 W g f0 f1 f2) (x : Int) : IsS82 w0 (W.setCell ⟨g, 2, none⟩ (.int .u64 x)) g f0 f1 x := by
 obtain ⟨A0, c0, hb, hg, hr0⟩ := h
 exact ⟨A0, c0, (by simpa using blk_set hb 2 (.int .u64 x)), hg, hr0⟩
theorem IsS82.new (w0 W : World) (A0 : Option Addr) (c0 : Nat) (f0 : List Int) (f1 : Int) (f2 : Int) (hB : Below w0.heap.size w0 W) (hr0 : Kd.C (Kd.int .u8) w0 A0 f0.length f0) : IsS82 w0 (W.alloc (.cells #[.slice A0 f0.length c0, .int .i64 f1, .int .u64 f2] 82)) W.heap.size f0 f1 f2 := ⟨A0, c0, by simpa using heap_alloc_new W _, hB.size, hr0⟩

/-! ### spec_l1Cur_next: function 198 -/
def spec_l1Cur_next.f (s0_0 : List Int) (s0_1 : Int) (s0_2 : Int) : Option (Int × Int × Int) := if s0_1 < (s0_0.length : Int) then (if 0 ≤ s0_1 then (if (wrap64 (s0_1 + 1)) ≤ (s0_0.length : Int) then (some (wrap64 (rd s0_0 s0_1), wrap64 (s0_1 + 1), IntKind.u64.wrap ((IntKind.u64.wrap ((IntKind.u64.wrap (s0_2 * 6364136223846793005)) + (IntKind.u64.wrap (wrap64 (rd s0_0 s0_1))))) + 462197))) else (some (wrap64 (Go.bits .and .u64 ((IntKind.u64.wrap ((IntKind.u64.wrap ((IntKind.u64.wrap (s0_2 * 6364136223846793005)) + (IntKind.u64.wrap (wrap64 (rd s0_0 s0_1))))) + 462197)) / 1099511627776) 255), wrap64 (s0_1 + 1), IntKind.u64.wrap ((IntKind.u64.wrap ((IntKind.u64.wrap (s0_2 * 6364136223846793005)) + (IntKind.u64.wrap (wrap64 (rd s0_0 s0_1))))) + 462197)))) else (none)) else (if (wrap64 (s0_1 + 1)) ≤ (s0_0.length : Int) then (some (0, wrap64 (s0_1 + 1), IntKind.u64.wrap ((IntKind.u64.wrap (IntKind.u64.wrap (s0_2 * 6364136223846793005))) + 462197))) else (some (wrap64 (Go.bits .and .u64 ((IntKind.u64.wrap ((IntKind.u64.wrap (IntKind.u64.wrap (s0_2 * 6364136223846793005))) + 462197)) / 1099511627776) 255), wrap64 (s0_1 + 1), IntKind.u64.wrap ((IntKind.u64.wrap (IntKind.u64.wrap (s0_2 * 6364136223846793005))) + 462197))))
theorem spec_l1Cur_next.calls (g : Nat) (s0_0 : List Int) (s0_1 : Int) (s0_2 : Int) (r1 : Int) (r2 : Int) (r3 : Int) (w0 w : World) (hI : IsS82 w0 w g s0_0 s0_1 s0_2) (hB : Below w0.heap.size w0 w) (h : spec_l1Cur_next.f s0_0 s0_1 s0_2 = some (r1, r2, r3)) :
  Calls Tryz.prog 198 #[.pointer (some ⟨g, 0, none⟩)] w fun e w' => e = .returned (.int .i64 r1) ∧ IsS82 w0 w' g s0_0 r2 r3 ∧ Below w0.heap.size w0 w' ∧ KeepBut w w' g none := by
 have HI0 := am hI; have HK := am (KeepBut.refl w g none); have HL := am hB.size; clear hI; have HW0 := am hB.size; have HB := am hB; clear hB
 unfold spec_l1Cur_next.f at h
 have H := h; clear h
 by_cases c2 : s0_1 < (s0_0.length : Int)
 ·rw [if_pos c2] at H
  have c2b0 := decide_eq_true c2; clear c2
  by_cases c3 : 0 ≤ s0_1
  ·rw [if_pos c3] at H
   have c3b0 := decide_eq_true c3; clear c3
   by_cases c4 : (wrap64 (s0_1 + 1)) ≤ (s0_0.length : Int)
   ·rw [if_pos c4] at H
    have c4b0 := decide_eq_true c4; clear c4; simp only [Option.some.injEq, Prod.mk.injEq] at H; obtain ⟨rfl, rfl, rfl⟩ := H; obtain ⟨ASz5_0, cSz5_0, HGz5, hgz5, HSz5_0⟩ := HI0.out; have hcz5_0 := cellS82_0 HGz5; have hcz5_1 := cellS82_1 HGz5; have hcz5_2 := cellS82_2 HGz5; have hfz5_1 := blk_frozen HGz5 1; have hfz5_2 := blk_frozen HGz5 2; clear HGz5 hgz5; have p207 : 0 ≤ (s0_1 : Int) := of_decide_eq_true ax23; have q207 : s0_1 < (s0_0.length : Int) := of_decide_eq_true ax23; obtain ⟨ad207, e207, hx207_0⟩ := Kd.at_int HSz5_0 s0_1 p207 q207
    cases e207
    replace hx207_0 := pw_cell_below HB.out hx207_0; replace p207 := eq_true p207; replace q207 := eq_true q207
    go_enter Tryz.func198, Tryz.ntmps198
    go_wp2
    repeat (go_quiet (fail); try go_wp2)
    go_ret
    exact ⟨ax21, ax48, ax49, ax50⟩
   ·rw [if_neg c4] at H
    have c4b0 := decide_eq_false c4; clear c4; simp only [Option.some.injEq, Prod.mk.injEq] at H; obtain ⟨rfl, rfl, rfl⟩ := H; obtain ⟨ASz6_0, cSz6_0, HGz6, hgz6, HSz6_0⟩ := HI0.out; have hcz6_0 := cellS82_0 HGz6; have hcz6_1 := cellS82_1 HGz6; have hcz6_2 := cellS82_2 HGz6; have hfz6_1 := blk_frozen HGz6 1; have hfz6_2 := blk_frozen HGz6 2; clear HGz6 hgz6; have p207 : 0 ≤ (s0_1 : Int) := of_decide_eq_true ax23; have q207 : s0_1 < (s0_0.length : Int) := of_decide_eq_true ax23; obtain ⟨ad207, e207, hx207_0⟩ := Kd.at_int HSz6_0 s0_1 p207 q207
    cases e207
    replace hx207_0 := pw_cell_below HB.out hx207_0; replace p207 := eq_true p207; replace q207 := eq_true q207
    go_enter Tryz.func198, Tryz.ntmps198
    go_wp2
    repeat (go_quiet (fail); try go_wp2)
    go_ret
    exact ⟨ax21, ax48, ax49, ax50⟩
  ·rw [if_neg c3] at H
   exact absurd H (by simp)
 ·rw [if_neg c2] at H
  have c2b0 := decide_eq_false c2; clear c2
  by_cases c7 : (wrap64 (s0_1 + 1)) ≤ (s0_0.length : Int)
  ·rw [if_pos c7] at H
   have c7b0 := decide_eq_true c7; clear c7; simp only [Option.some.injEq, Prod.mk.injEq] at H; obtain ⟨rfl, rfl, rfl⟩ := H; obtain ⟨ASz8_0, cSz8_0, HGz8, hgz8, HSz8_0⟩ := HI0.out; have hcz8_0 := cellS82_0 HGz8; have hcz8_1 := cellS82_1 HGz8; have hcz8_2 := cellS82_2 HGz8; have hfz8_1 := blk_frozen HGz8 1; have hfz8_2 := blk_frozen HGz8 2; clear HGz8 hgz8
   go_enter Tryz.func198, Tryz.ntmps198
   go_wp2
   repeat (go_quiet (fail); try go_wp2)
   go_ret
   exact ⟨ax21, ax48, ax49, ax50⟩
  ·rw [if_neg c7] at H
   have c7b0 := decide_eq_false c7; clear c7; simp only [Option.some.injEq, Prod.mk.injEq] at H; obtain ⟨rfl, rfl, rfl⟩ := H; obtain ⟨ASz9_0, cSz9_0, HGz9, hgz9, HSz9_0⟩ := HI0.out; have hcz9_0 := cellS82_0 HGz9; have hcz9_1 := cellS82_1 HGz9; have hcz9_2 := cellS82_2 HGz9; have hfz9_1 := blk_frozen HGz9 1; have hfz9_2 := blk_frozen HGz9 2; clear HGz9 hgz9
   go_enter Tryz.func198, Tryz.ntmps198
   go_wp2
   repeat (go_quiet (fail); try go_wp2)
   go_ret
   exact ⟨ax21, ax48, ax49, ax50⟩

/-! ### spec_l1Cur_pick: function 127 -/
def spec_l1Cur_pick.f (s0_0 : List Int) (s0_1 : Int) (s0_2 : Int) (a1 : Int) : Option (Int × Int × Int) := if a1 ≤ 1 then (some (0, s0_1, s0_2)) else ((spec_l1Cur_next.f s0_0 s0_1 s0_2).bind fun bt208 => (if a1 > 200 then ((spec_l1Cur_next.f s0_0 bt208.2.1 bt208.2.2).bind fun bt211 => (if a1 = 0 then (none) else (some (Int.tmod (wrap64 ((wrap64 (bt208.1 * 256)) + bt211.1)) a1, bt211.2.1, bt211.2.2)))) else (if a1 = 0 then (none) else (some (Int.tmod bt208.1 a1, bt208.2.1, bt208.2.2)))))
theorem spec_l1Cur_pick.calls (g : Nat) (s0_0 : List Int) (s0_1 : Int) (s0_2 : Int) (a1 : Int) (r1 : Int) (r2 : Int) (r3 : Int) (w0 w : World) (hI : IsS82 w0 w g s0_0 s0_1 s0_2) (hB : Below w0.heap.size w0 w) (h : spec_l1Cur_pick.f s0_0 s0_1 s0_2 a1 = some (r1, r2, r3)) :
  Calls Tryz.prog 127 #[.pointer (some ⟨g, 0, none⟩), .int .i64 a1] w fun e w' => e = .returned (.int .i64 r1) ∧ IsS82 w0 w' g s0_0 r2 r3 ∧ Below w0.heap.size w0 w' ∧ KeepBut w w' g none := by
 have HI0 := am hI; have HK := am (KeepBut.refl w g none); have HL := am hB.size; clear hI; have HW0 := am hB.size; have HB := am hB; clear hB
 unfold spec_l1Cur_pick.f at h
 have H := h; clear h
 by_cases c3 : a1 ≤ 1
 ·rw [if_pos c3] at H
  have c3b0 := decide_eq_true c3; clear c3; simp only [Option.some.injEq, Prod.mk.injEq] at H; obtain ⟨rfl, rfl, rfl⟩ := H
  go_enter Tryz.func127, Tryz.ntmps127
  go_wp2
  go_ret
  exact ⟨ax21, ax48, ax49, ax50⟩
 ·rw [if_neg c3] at H
  have c3b0 := decide_eq_false c3; clear c3; obtain ⟨⟨t208, t209, t210⟩, A4, H⟩ := bs H
  by_cases c5 : a1 > 200
  ·rw [if_pos c5] at H
   have c5b0 := decide_eq_true c5; clear c5; obtain ⟨⟨t211, t212, t213⟩, A6, H⟩ := bs H
   by_cases c7 : a1 = 0
   ·rw [if_pos c7] at H
    exact absurd H (by simp)
   ·rw [if_neg c7] at H
    have c7b0 := beq_eq_false_iff_ne.mpr c7; have c7b1 := bne_iff_ne.mpr c7; simp only [Option.some.injEq, Prod.mk.injEq] at H; obtain ⟨rfl, rfl, rfl⟩ := H
    go_enter Tryz.func127, Tryz.ntmps127
    go_wp2_with (first | ((with_reducible refine gd 9 198 ?_); refine gc 9 Tryz.func198 #[.pointer (some ⟨g, 0, none⟩)] (spec_l1Cur_next.calls g s0_0 s0_1 s0_2 t208 t209 t210 w0 _ ax48 ax51 A4.out) ?_; rintro e w8 ⟨rfl, hi, hb, hk⟩; refine ⟨_, rfl, ?_⟩; replace HK := am (KeepBut.trans ax50 hk (.inl rfl)); replace HB := am (hb); replace HI0 := am (hi); (try clear hb hk hi)) | ((with_reducible refine gd 15 198 ?_); refine gc 15 Tryz.func198 #[.pointer (some ⟨g, 0, none⟩)] (spec_l1Cur_next.calls g s0_0 t209 t210 t211 t212 t213 w0 _ ax48 ax51 A6.out) ?_; rintro e w9 ⟨rfl, hi, hb, hk⟩; refine ⟨_, rfl, ?_⟩; replace HK := am (KeepBut.trans ax50 hk (.inl rfl)); replace HB := am (hb); replace HI0 := am (hi); (try clear hb hk hi)))
    go_ret
    exact ⟨ax21, ax48, ax49, ax50⟩
  ·rw [if_neg c5] at H
   have c5b0 := decide_eq_false c5; clear c5
   by_cases c10 : a1 = 0
   ·rw [if_pos c10] at H
    exact absurd H (by simp)
   ·rw [if_neg c10] at H
    have c10b0 := beq_eq_false_iff_ne.mpr c10; have c10b1 := bne_iff_ne.mpr c10; simp only [Option.some.injEq, Prod.mk.injEq] at H; obtain ⟨rfl, rfl, rfl⟩ := H
    go_enter Tryz.func127, Tryz.ntmps127
    go_wp2_with (first | ((with_reducible refine gd 9 198 ?_); refine gc 9 Tryz.func198 #[.pointer (some ⟨g, 0, none⟩)] (spec_l1Cur_next.calls g s0_0 s0_1 s0_2 t208 t209 t210 w0 _ ax48 ax51 A4.out) ?_; rintro e w11 ⟨rfl, hi, hb, hk⟩; refine ⟨_, rfl, ?_⟩; replace HK := am (KeepBut.trans ax50 hk (.inl rfl)); replace HB := am (hb); replace HI0 := am (hi); (try clear hb hk hi)))
    go_ret
    exact ⟨ax21, ax48, ax49, ax50⟩

/-! ### spec_l1Cur_of: function 121 -/
def spec_l1Cur_of.f (s0_0 : List Int) (s0_1 : Int) (s0_2 : Int) (l1 : List ByteArray) : Option (ByteArray × Int × Int) := (spec_l1Cur_pick.f s0_0 s0_1 s0_2 (l1.length : Int)).bind fun bt214 => (if 0 ≤ bt214.1 then (if bt214.1 < (l1.length : Int) then (some (rdOf ByteArray.empty l1 bt214.1, bt214.2.1, bt214.2.2)) else (none)) else (none))
theorem spec_l1Cur_of.calls (g : Nat) (s0_0 : List Int) (s0_1 : Int) (s0_2 : Int) (A1 : Option Addr) (c1 : Nat) (l1 : List ByteArray) (r1 : ByteArray) (r2 : Int) (r3 : Int) (w0 w : World) (hI : IsS82 w0 w g s0_0 s0_1 s0_2) (hB : Below w0.heap.size w0 w) (hr1 : Kd.C Kd.string w A1 l1.length l1) (hc1 : l1.length ≤ c1) (hf1 : ∀ ad, A1 = some ad → 0 < l1.length → ad.block ≠ g) (h : spec_l1Cur_of.f s0_0 s0_1 s0_2 l1 = some (r1, r2, r3)) :
  Calls Tryz.prog 121 #[.pointer (some ⟨g, 0, none⟩), .slice A1 l1.length c1] w fun e w' => e = .returned (.string r1) ∧ IsS82 w0 w' g s0_0 r2 r3 ∧ Below w0.heap.size w0 w' ∧ KeepBut w w' g none := by
 have HR1 := am hr1; have HC1 := am hc1; clear hr1 hc1; have HI0 := am hI; have HK := am (KeepBut.refl w g none); have HL := am hB.size; clear hI; have HW0 := am hB.size; have HB := am hB; clear hB
 unfold spec_l1Cur_of.f at h
 have H := h; clear h; obtain ⟨⟨t214, t215, t216⟩, A3, H⟩ := bs H
 by_cases c4 : 0 ≤ t214
 ·rw [if_pos c4] at H
  have c4b0 := decide_eq_true c4; clear c4
  by_cases c5 : t214 < (l1.length : Int)
  ·rw [if_pos c5] at H
   have c5b0 := decide_eq_true c5; clear c5; simp only [Option.some.injEq, Prod.mk.injEq] at H; obtain ⟨rfl, rfl, rfl⟩ := H
   go_enter Tryz.func121, Tryz.ntmps121
   go_wp2_with (first | ((with_reducible refine gd 9 127 ?_); refine gc 9 Tryz.func127 #[.pointer (some ⟨g, 0, none⟩), .int .i64 (l1.length : Int)] (spec_l1Cur_pick.calls g s0_0 s0_1 s0_2 (l1.length : Int) t214 t215 t216 w0 _ ax48 ax51 A3.out) ?_; rintro e w6 ⟨rfl, hi, hb, hk⟩; refine ⟨_, rfl, ?_⟩; replace HK := am (KeepBut.trans ax50 hk (.inl rfl)); replace HB := am (hb); replace HI0 := am (hi); (try clear hb hk hi); have p217 : 0 ≤ (t214 : Int) := of_decide_eq_true ax23; have q217 : t214 < (l1.length : Int) := of_decide_eq_true ax23; obtain ⟨ad217, e217, hx217_0⟩ := Kd.at_string HR1.out t214 p217 q217; cases e217; replace hx217_0 := keep_cell HK.out hx217_0 (by first | (rw [add_block]; exact hf1 _ rfl (by omega)) | exact hf1 _ rfl (by omega) | exact hf1 ad217 rfl (by omega)); replace p217 := eq_true p217; replace q217 := eq_true q217))
   go_ret
   exact ⟨ax21, ax48, ax49, ax50⟩
  ·exact ax6
 ·exact ax2
/-! ### spec_l1Cur_one: function 122 -/
def spec_l1Cur_one.f (s0_0 : List Int) (s0_1 : Int) (s0_2 : Int) (a1 : Int) : Option (Bool × Int × Int) := (spec_l1Cur_pick.f s0_0 s0_1 s0_2 a1).bind fun bt218 => (some ((bt218.1 == 0), bt218.2.1, bt218.2.2))
theorem spec_l1Cur_one.calls (g : Nat) (s0_0 : List Int) (s0_1 : Int) (s0_2 : Int) (a1 : Int) (r1 : Bool) (r2 : Int) (r3 : Int) (w0 w : World) (hI : IsS82 w0 w g s0_0 s0_1 s0_2) (hB : Below w0.heap.size w0 w) (h : spec_l1Cur_one.f s0_0 s0_1 s0_2 a1 = some (r1, r2, r3)) :
  Calls Tryz.prog 122 #[.pointer (some ⟨g, 0, none⟩), .int .i64 a1] w fun e w' => e = .returned (.bool r1) ∧ IsS82 w0 w' g s0_0 r2 r3 ∧ Below w0.heap.size w0 w' ∧ KeepBut w w' g none := by
 have HI0 := am hI; have HK := am (KeepBut.refl w g none); have HL := am hB.size; clear hI; have HW0 := am hB.size; have HB := am hB; clear hB
 unfold spec_l1Cur_one.f at h
 have H := h; clear h; obtain ⟨⟨t218, t219, t220⟩, A3, H⟩ := bs H; simp only [Option.some.injEq, Prod.mk.injEq] at H; obtain ⟨rfl, rfl, rfl⟩ := H
 go_enter Tryz.func122, Tryz.ntmps122
 go_wp2_with (first | ((with_reducible refine gd 7 127 ?_); refine gc 7 Tryz.func127 #[.pointer (some ⟨g, 0, none⟩), .int .i64 a1] (spec_l1Cur_pick.calls g s0_0 s0_1 s0_2 a1 t218 t219 t220 w0 _ ax48 ax51 A3.out) ?_; rintro e w4 ⟨rfl, hi, hb, hk⟩; refine ⟨_, rfl, ?_⟩; replace HK := am (KeepBut.trans ax50 hk (.inl rfl)); replace HB := am (hb); replace HI0 := am (hi); (try clear hb hk hi)))
 go_ret
 exact ⟨ax21, ax48, ax49, ax50⟩

end Go.Proofs.YtcplbbflfgckbaaGreatDoor.X
namespace Go.Proofs.YtcplbbflfgckbaaGreatDoor.X
open Go.RowKit Go.Proofs.YtcplbbflfgckbaaGreatDoorW.PrintWords Go.Proofs.YtcplbbflfgckbaaGreatDoorW.PrintLast Go.Proofs.YtcplbbflfgckbaaGreatDoorW.PrintMore
attribute [local go_sem] max2_int min2_int max_two min_two max_three min_three max_four min_four   -- for this text's walks alone
set_option linter.unusedVariables false
set_option linter.unusedSimpArgs false
set_option maxHeartbeats 8000000
set_option maxRecDepth 100000

/-! ### spec_l1Cur_among: function 186 -/
def spec_l1Cur_among.f (s0_0 : List Int) (s0_1 : Int) (s0_2 : Int) (l1 : List Int) : Option (Int × Int × Int) := (spec_l1Cur_pick.f s0_0 s0_1 s0_2 (l1.length : Int)).bind fun bt221 => (if 0 ≤ bt221.1 then (if bt221.1 < (l1.length : Int) then (some (rd l1 bt221.1, bt221.2.1, bt221.2.2)) else (none)) else (none))
theorem spec_l1Cur_among.calls (g : Nat) (s0_0 : List Int) (s0_1 : Int) (s0_2 : Int) (A1 : Option Addr) (c1 : Nat) (l1 : List Int) (r1 : Int) (r2 : Int) (r3 : Int) (w0 w : World) (hI : IsS82 w0 w g s0_0 s0_1 s0_2) (hB : Below w0.heap.size w0 w) (hr1 : Kd.C (Kd.int .i64) w A1 l1.length l1) (hc1 : l1.length ≤ c1) (hf1 : ∀ ad, A1 = some ad → 0 < l1.length → ad.block ≠ g) (h : spec_l1Cur_among.f s0_0 s0_1 s0_2 l1 = some (r1, r2, r3)) :
  Calls Tryz.prog 186 #[.pointer (some ⟨g, 0, none⟩), .slice A1 l1.length c1] w fun e w' => e = .returned (.int .i64 r1) ∧ IsS82 w0 w' g s0_0 r2 r3 ∧ Below w0.heap.size w0 w' ∧ KeepBut w w' g none := by
 have HR1 := am hr1; have HC1 := am hc1; clear hr1 hc1; have HI0 := am hI; have HK := am (KeepBut.refl w g none); have HL := am hB.size; clear hI; have HW0 := am hB.size; have HB := am hB; clear hB
 unfold spec_l1Cur_among.f at h
 have H := h; clear h; obtain ⟨⟨t221, t222, t223⟩, A3, H⟩ := bs H
 by_cases c4 : 0 ≤ t221
 ·rw [if_pos c4] at H
  have c4b0 := decide_eq_true c4; clear c4
  by_cases c5 : t221 < (l1.length : Int)
  ·rw [if_pos c5] at H
   have c5b0 := decide_eq_true c5; clear c5; simp only [Option.some.injEq, Prod.mk.injEq] at H; obtain ⟨rfl, rfl, rfl⟩ := H
   go_enter Tryz.func186, Tryz.ntmps186
   go_wp2_with (first | ((with_reducible refine gd 9 127 ?_); refine gc 9 Tryz.func127 #[.pointer (some ⟨g, 0, none⟩), .int .i64 (l1.length : Int)] (spec_l1Cur_pick.calls g s0_0 s0_1 s0_2 (l1.length : Int) t221 t222 t223 w0 _ ax48 ax51 A3.out) ?_; rintro e w6 ⟨rfl, hi, hb, hk⟩; refine ⟨_, rfl, ?_⟩; replace HK := am (KeepBut.trans ax50 hk (.inl rfl)); replace HB := am (hb); replace HI0 := am (hi); (try clear hb hk hi); have p224 : 0 ≤ (t221 : Int) := of_decide_eq_true ax23; have q224 : t221 < (l1.length : Int) := of_decide_eq_true ax23; obtain ⟨ad224, e224, hx224_0⟩ := Kd.at_int HR1.out t221 p224 q224; cases e224; replace hx224_0 := keep_cell HK.out hx224_0 (by first | (rw [add_block]; exact hf1 _ rfl (by omega)) | exact hf1 _ rfl (by omega) | exact hf1 ad224 rfl (by omega)); replace p224 := eq_true p224; replace q224 := eq_true q224))
   go_ret
   exact ⟨ax21, ax48, ax49, ax50⟩
  ·exact ax6
 ·exact ax2
/-! ### spec_l1Cur_word: function 147 -/
def spec_l1Cur_word.l0 : Nat → ByteArray → Int → List Int → Int → Int → Option (ByteArray × Int × Int)
 | 0, _, _, _, _, _ => none
 | k + 1, x3, x4, x1000, x1001, x1002 => if x4 > 0 then ((spec_l1Cur_of.f x1000 x1001 x1002 (([(⟨#[97]⟩ : ByteArray), (⟨#[98]⟩ : ByteArray), (⟨#[97]⟩ : ByteArray), (⟨#[99]⟩ : ByteArray), (⟨#[98]⟩ : ByteArray), (⟨#[122]⟩ : ByteArray)] : List ByteArray))).bind fun bt234 => (if x3.size + bt234.1.size ≤ 9223372036854775807 then (spec_l1Cur_word.l0 k (x3 ++ bt234.1) (wrap64 (x4 - 1)) x1000 bt234.2.1 bt234.2.2) else (none))) else ((spec_l1Cur_one.f x1000 x1001 x1002 50).bind fun bt237 => (if bt237.1 = true then ((spec_l1Cur_of.f x1000 bt237.2.1 bt237.2.2 (([(⟨#[65]⟩ : ByteArray), (⟨#[123]⟩ : ByteArray), (⟨#[32]⟩ : ByteArray), (⟨#[97, 97, 97, 97, 97, 97, 97, 97, 97, 97, 97, 97, 97]⟩ : ByteArray)] : List ByteArray))).bind fun bt243 => (if x3.size + bt243.1.size ≤ 9223372036854775807 then (some (x3 ++ bt243.1, bt243.2.1, bt243.2.2)) else (none))) else (some (x3, bt237.2.1, bt237.2.2))))
def spec_l1Cur_word.f (k : Nat) (s0_0 : List Int) (s0_1 : Int) (s0_2 : Int) : Option (ByteArray × Int × Int) := (spec_l1Cur_among.f s0_0 s0_1 s0_2 (([3, 2, 4, 1, 5, 0, 3, 12] : List Int))).bind fun bt228 => (spec_l1Cur_word.l0 k (⟨#[]⟩ : ByteArray) bt228.1 s0_0 bt228.2.1 bt228.2.2)
theorem spec_l1Cur_word.calls (k : Nat) (g : Nat) (s0_0 : List Int) (s0_1 : Int) (s0_2 : Int) (r1 : ByteArray) (r2 : Int) (r3 : Int) (w0 w : World) (hI : IsS82 w0 w g s0_0 s0_1 s0_2) (hB : Below w0.heap.size w0 w) (h : spec_l1Cur_word.f k s0_0 s0_1 s0_2 = some (r1, r2, r3)) :
  Calls Tryz.prog 147 #[.pointer (some ⟨g, 0, none⟩)] w fun e w' => e = .returned (.string r1) ∧ IsS82 w0 w' g s0_0 r2 r3 ∧ Below w0.heap.size w0 w' ∧ KeepBut w w' g none := by
 have HI0 := am hI; have HK := am (KeepBut.refl w g none); have HL := am hB.size; clear hI; have HW0 := am hB.size; have HB := am hB; clear hB
 unfold spec_l1Cur_word.f at h
 have H := h; clear h; obtain ⟨y225, hy225⟩ : ∃ y_ : List Int, y_ = (([3, 2, 4, 1, 5, 0, 3, 12] : List Int)) := ⟨_, rfl⟩
 replace H : ((spec_l1Cur_among.f s0_0 s0_1 s0_2 y225).bind fun bt228 => (spec_l1Cur_word.l0 k (⟨#[]⟩ : ByteArray) bt228.1 s0_0 bt228.2.1 bt228.2.2)) = some (r1, r2, r3) := by first | (rw [hy225]; with_reducible exact H) | (have H2_ := (Option.bind_some _ _).symm.trans H; rw [hy225]; with_reducible exact H2_) | (have H2_ := (Option.bind_some _ _).symm.trans H; with_reducible exact H2_) | with_reducible exact H | (rw [hy225]; exact H) | exact H
 have Ny225 := am hy225; clear hy225; obtain ⟨⟨t228, t229, t230⟩, A2, H⟩ := bs H; have H' := am H; clear H
 go_enter Tryz.func147, Tryz.ntmps147
 go_wp2_with (first | ((with_reducible refine gt 6 ?_); refine Kd.R_lit (Kd.int .i64) _ 3 ?hg (N := 6) ?hd (xs := ([3, 2, 4, 1, 5, 0, 3, 12] : List Int)) (inner := [.int .i64 3, .int .i64 2, .int .i64 4, .int .i64 1, .int .i64 5, .int .i64 0, .int .i64 3, .int .i64 12]) (ok := fun _ => True) (okp := fun _ => True) ?hr ?hp (fun _ hk => hk) trivial (Below.refl _ _) (Nat.le_refl _) (by simp) ?_; (case hd => rfl); (case hg => rfl); (case hr => exact ax20); (case hp => exact (Reps.one (show Kd.M (Kd.int .i64) _ _ _ 3 [.int .i64 3] from rfl) (Reps.one (show Kd.M (Kd.int .i64) _ _ _ 2 [.int .i64 2] from rfl) (Reps.one (show Kd.M (Kd.int .i64) _ _ _ 4 [.int .i64 4] from rfl) (Reps.one (show Kd.M (Kd.int .i64) _ _ _ 1 [.int .i64 1] from rfl) (Reps.one (show Kd.M (Kd.int .i64) _ _ _ 5 [.int .i64 5] from rfl) (Reps.one (show Kd.M (Kd.int .i64) _ _ _ 0 [.int .i64 0] from rfl) (Reps.one (show Kd.M (Kd.int .i64) _ _ _ 3 [.int .i64 3] from rfl) (Reps.one (show Kd.M (Kd.int .i64) _ _ _ 12 [.int .i64 12] from rfl) (Reps.none _ _)))))))))); intro v226 w3 ho4 hb hg_ hnew_; clear hg_ hnew_; (first | rw [← Ny225.out] at ho4 | (simp only [Int.reduceToNat] at ho4; rw [← Ny225.out] at ho4)); have HO227 := am (Kd.R_lower ho4 (keep_size (w := w) (g := g) (row := none) ax50)); replace HK := am (KeepBut.trans ax50 (KeepBut.of_below hb g none) (.inl rfl)); replace HB := am (below_step ax51 hb); replace HI0 := am (IsS82.below ax48 hb); clear hb ho4; obtain ⟨Ao5, co5, rfl⟩ := Kd.R_slice HO227.out) | ((with_reducible refine gd 7 186 ?_); refine gc 7 Tryz.func186 #[.pointer (some ⟨g, 0, none⟩), .slice Ao5 y225.length co5] (spec_l1Cur_among.calls g s0_0 s0_1 s0_2 _ _ y225 t228 t229 t230 w0 _ ax48 ax51 (rd2 HO227) (rl HO227) (far_slice (IsS82.own_ne HI0.out HO227.out (by decide))) A2.out) ?_; rintro e w6 ⟨rfl, hi, hb, hk⟩; refine ⟨_, rfl, ?_⟩; replace HO227 := rK (IsS82.apart (show IsS82 w0 _ g s0_0 s0_1 s0_2 from ax48) (rX HO227) (by decide)) hk; replace HK := am (KeepBut.trans ax50 hk (.inl rfl)); replace HB := am (hb); replace HI0 := am (hi); (try clear hb hk hi)))
 go_loopg [3, 4] k (fun kq v3 v4 w' => ∃ (x3_1 : ByteArray) (x4_1 : Int) (x1001_1 : Int) (x1002_1 : Int), v3 = .string x3_1 ∧ v4 = .int .i64 x4_1 ∧ Aside0 (spec_l1Cur_word.l0 kq x3_1 x4_1 s0_0 x1001_1 x1002_1 = some (r1, r2, r3)) ∧ Aside0 (kq ≤ k) ∧ Aside0 (IsS82 w0 w' g s0_0 x1001_1 x1002_1) ∧ Aside0 (KeepBut w w' g none) ∧ Aside0 (Below w0.heap.size w0 w'))
 case atStart => exact ⟨((⟨#[]⟩ : ByteArray)), (t228), (t229), (t230), ax18, ax18, H', ⟨Nat.le_refl _⟩, ⟨ax48⟩, ⟨ax50⟩, ⟨ax49⟩⟩
 case round =>
  clear H'; obtain ⟨x3_1, x4_1, x1001_1, x1002_1, rfl, rfl, HA, HK1, HI0, HK, HB⟩ := hrel
  cases gk with
  | zero => exact absurd HA.out (by simp [spec_l1Cur_word.l0])
  | succ k1 =>
   have H := HA.out; clear HA; simp only [spec_l1Cur_word.l0] at H
   by_cases c7 : x4_1 > 0
   ·rw [if_pos c7] at H
    have c7b0 := decide_eq_true c7; clear c7; obtain ⟨y231, hy231⟩ : ∃ y_ : List ByteArray, y_ = (([(⟨#[97]⟩ : ByteArray), (⟨#[98]⟩ : ByteArray), (⟨#[97]⟩ : ByteArray), (⟨#[99]⟩ : ByteArray), (⟨#[98]⟩ : ByteArray), (⟨#[122]⟩ : ByteArray)] : List ByteArray)) := ⟨_, rfl⟩
    replace H : ((spec_l1Cur_of.f s0_0 x1001_1 x1002_1 y231).bind fun bt234 => (if x3_1.size + bt234.1.size ≤ 9223372036854775807 then (spec_l1Cur_word.l0 k1 (x3_1 ++ bt234.1) (wrap64 (x4_1 - 1)) s0_0 bt234.2.1 bt234.2.2) else (none))) = some (r1, r2, r3) := by first | (rw [hy231]; with_reducible exact H) | (have H2_ := (Option.bind_some _ _).symm.trans H; rw [hy231]; with_reducible exact H2_) | (have H2_ := (Option.bind_some _ _).symm.trans H; with_reducible exact H2_) | with_reducible exact H | (rw [hy231]; exact H) | exact H
    have Ny231 := am hy231; clear hy231; obtain ⟨⟨t234, t235, t236⟩, A8, H⟩ := bs H
    by_cases c9 : x3_1.size + t234.size ≤ 9223372036854775807
    ·rw [if_pos c9] at H
     have c9b0 := eq_true c9; have c9b1 := decide_eq_true c9
     try have c9b2 : (9223372036854775807 < x3_1.size + t234.size) = False := eq_false (Nat.not_lt.2 c9)
     clear c9; obtain ⟨js10, hjs10⟩ : ∃ j_ : ByteArray, (x3_1 ++ t234) = j_ := ⟨_, rfl⟩; (first | rw [hjs10] at H | simp only [hjs10] at H); have H' := am H; clear H
     go_wp2_with (first | ((with_reducible refine gt 14 ?_); refine Kd.R_lit Kd.string _ 9 ?hg (N := 14) ?hd (xs := ([(⟨#[97]⟩ : ByteArray), (⟨#[98]⟩ : ByteArray), (⟨#[97]⟩ : ByteArray), (⟨#[99]⟩ : ByteArray), (⟨#[98]⟩ : ByteArray), (⟨#[122]⟩ : ByteArray)] : List ByteArray)) (inner := [.string (⟨#[97]⟩ : ByteArray), .string (⟨#[98]⟩ : ByteArray), .string (⟨#[97]⟩ : ByteArray), .string (⟨#[99]⟩ : ByteArray), .string (⟨#[98]⟩ : ByteArray), .string (⟨#[122]⟩ : ByteArray)]) (ok := fun _ => True) (okp := fun _ => True) ?hr ?hp (fun _ hk => hk) trivial (Below.refl _ _) (Nat.le_refl _) (by simp) ?_; (case hd => rfl); (case hg => rfl); (case hr => exact ax20); (case hp => exact (Reps.one (show Kd.M Kd.string _ _ _ (⟨#[97]⟩ : ByteArray) [.string (⟨#[97]⟩ : ByteArray)] from rfl) (Reps.one (show Kd.M Kd.string _ _ _ (⟨#[98]⟩ : ByteArray) [.string (⟨#[98]⟩ : ByteArray)] from rfl) (Reps.one (show Kd.M Kd.string _ _ _ (⟨#[97]⟩ : ByteArray) [.string (⟨#[97]⟩ : ByteArray)] from rfl) (Reps.one (show Kd.M Kd.string _ _ _ (⟨#[99]⟩ : ByteArray) [.string (⟨#[99]⟩ : ByteArray)] from rfl) (Reps.one (show Kd.M Kd.string _ _ _ (⟨#[98]⟩ : ByteArray) [.string (⟨#[98]⟩ : ByteArray)] from rfl) (Reps.one (show Kd.M Kd.string _ _ _ (⟨#[122]⟩ : ByteArray) [.string (⟨#[122]⟩ : ByteArray)] from rfl) (Reps.none _ _)))))))); intro v232 w11 ho12 hb hg_ hnew_; clear hg_ hnew_; (first | rw [← Ny231.out] at ho12 | (simp only [Int.reduceToNat] at ho12; rw [← Ny231.out] at ho12)); have HO233 := am (Kd.R_lower ho12 (keep_size (w := w) (g := g) (row := none) ax50)); replace HK := am (KeepBut.trans ax50 (KeepBut.of_below hb g none) (.inl rfl)); replace HB := am (below_step ax51 hb); replace HI0 := am (IsS82.below ax48 hb); clear hb ho12; obtain ⟨Ao13, co13, rfl⟩ := Kd.R_slice HO233.out) | ((with_reducible refine gd 15 121 ?_); refine gc 15 Tryz.func121 #[.pointer (some ⟨g, 0, none⟩), .slice Ao13 y231.length co13] (spec_l1Cur_of.calls g s0_0 x1001_1 x1002_1 _ _ y231 t234 t235 t236 w0 _ ax48 ax51 (rd2 HO233) (rl HO233) (far_slice (IsS82.own_ne HI0.out HO233.out (by decide))) A8.out) ?_; rintro e w14 ⟨rfl, hi, hb, hk⟩; refine ⟨_, rfl, ?_⟩; replace HO233 := rK (IsS82.apart (show IsS82 w0 _ g s0_0 x1001_1 x1002_1 from ax48) (rX HO233) (by decide)) hk; replace HK := am (KeepBut.trans ax50 hk (.inl rfl)); replace HB := am (hb); replace HI0 := am (hi); (try clear hb hk hi)))
     go_roundg k1
     case measure => have := HK1.out; omega
     case rel => exact ⟨(js10), (wrap64 (x4_1 - 1)), (t235), (t236), (by first | rfl | (simp; done) | (simp only [← hjs10] <;> (first | rfl | simp)) | (simp [*]; done)), ax18, H', ⟨by have := HK1.out; omega⟩, ⟨ax48⟩, ⟨ax50⟩, ⟨ax49⟩⟩
    ·exact ax13
   ·rw [if_neg c7] at H
    have c7b0 := decide_eq_false c7; clear c7; obtain ⟨⟨t237, t238, t239⟩, A15, H⟩ := bs H
    by_cases c16 : t237 = true
    ·subst c16
     rw [if_pos rfl] at H; obtain ⟨y240, hy240⟩ : ∃ y_ : List ByteArray, y_ = (([(⟨#[65]⟩ : ByteArray), (⟨#[123]⟩ : ByteArray), (⟨#[32]⟩ : ByteArray), (⟨#[97, 97, 97, 97, 97, 97, 97, 97, 97, 97, 97, 97, 97]⟩ : ByteArray)] : List ByteArray)) := ⟨_, rfl⟩
     replace H : ((spec_l1Cur_of.f s0_0 t238 t239 y240).bind fun bt243 => (if x3_1.size + bt243.1.size ≤ 9223372036854775807 then (some (x3_1 ++ bt243.1, bt243.2.1, bt243.2.2)) else (none))) = some (r1, r2, r3) := by first | (rw [hy240]; with_reducible exact H) | (have H2_ := (Option.bind_some _ _).symm.trans H; rw [hy240]; with_reducible exact H2_) | (have H2_ := (Option.bind_some _ _).symm.trans H; with_reducible exact H2_) | with_reducible exact H | (rw [hy240]; exact H) | exact H
     have Ny240 := am hy240; clear hy240; obtain ⟨⟨t243, t244, t245⟩, A17, H⟩ := bs H
     by_cases c18 : x3_1.size + t243.size ≤ 9223372036854775807
     ·rw [if_pos c18] at H
      have c18b0 := eq_true c18; have c18b1 := decide_eq_true c18
      try have c18b2 : (9223372036854775807 < x3_1.size + t243.size) = False := eq_false (Nat.not_lt.2 c18)
      clear c18; obtain ⟨js19, hjs19⟩ : ∃ j_ : ByteArray, (x3_1 ++ t243) = j_ := ⟨_, rfl⟩; (first | rw [hjs19] at H | simp only [hjs19] at H); simp only [Option.some.injEq, Prod.mk.injEq] at H; obtain ⟨rfl, rfl, rfl⟩ := H
      go_wp2_with (first | ((with_reducible refine gd 18 122 ?_); refine gc 18 Tryz.func122 #[.pointer (some ⟨g, 0, none⟩), .int .i64 50] (spec_l1Cur_one.calls g s0_0 x1001_1 x1002_1 50 true t238 t239 w0 _ ax48 ax51 A15.out) ?_; rintro e w20 ⟨rfl, hi, hb, hk⟩; refine ⟨_, rfl, ?_⟩; replace HK := am (KeepBut.trans ax50 hk (.inl rfl)); replace HB := am (hb); replace HI0 := am (hi); (try clear hb hk hi)) | ((with_reducible refine gt 21 ?_); refine Kd.R_lit Kd.string _ 9 ?hg (N := 21) ?hd (xs := ([(⟨#[65]⟩ : ByteArray), (⟨#[123]⟩ : ByteArray), (⟨#[32]⟩ : ByteArray), (⟨#[97, 97, 97, 97, 97, 97, 97, 97, 97, 97, 97, 97, 97]⟩ : ByteArray)] : List ByteArray)) (inner := [.string (⟨#[65]⟩ : ByteArray), .string (⟨#[123]⟩ : ByteArray), .string (⟨#[32]⟩ : ByteArray), .string (⟨#[97, 97, 97, 97, 97, 97, 97, 97, 97, 97, 97, 97, 97]⟩ : ByteArray)]) (ok := fun _ => True) (okp := fun _ => True) ?hr ?hp (fun _ hk => hk) trivial (Below.refl _ _) (Nat.le_refl _) (by simp) ?_; (case hd => rfl); (case hg => rfl); (case hr => exact ax20); (case hp => exact (Reps.one (show Kd.M Kd.string _ _ _ (⟨#[65]⟩ : ByteArray) [.string (⟨#[65]⟩ : ByteArray)] from rfl) (Reps.one (show Kd.M Kd.string _ _ _ (⟨#[123]⟩ : ByteArray) [.string (⟨#[123]⟩ : ByteArray)] from rfl) (Reps.one (show Kd.M Kd.string _ _ _ (⟨#[32]⟩ : ByteArray) [.string (⟨#[32]⟩ : ByteArray)] from rfl) (Reps.one (show Kd.M Kd.string _ _ _ (⟨#[97, 97, 97, 97, 97, 97, 97, 97, 97, 97, 97, 97, 97]⟩ : ByteArray) [.string (⟨#[97, 97, 97, 97, 97, 97, 97, 97, 97, 97, 97, 97, 97]⟩ : ByteArray)] from rfl) (Reps.none _ _)))))); intro v241 w21 ho22 hb hg_ hnew_; clear hg_ hnew_; (first | rw [← Ny240.out] at ho22 | (simp only [Int.reduceToNat] at ho22; rw [← Ny240.out] at ho22)); have HO242 := am (Kd.R_lower ho22 (keep_size (w := w) (g := g) (row := none) ax50)); replace HK := am (KeepBut.trans ax50 (KeepBut.of_below hb g none) (.inl rfl)); replace HB := am (below_step ax51 hb); replace HI0 := am (IsS82.below ax48 hb); clear hb ho22; obtain ⟨Ao23, co23, rfl⟩ := Kd.R_slice HO242.out) | ((with_reducible refine gd 22 121 ?_); refine gc 22 Tryz.func121 #[.pointer (some ⟨g, 0, none⟩), .slice Ao23 y240.length co23] (spec_l1Cur_of.calls g s0_0 t238 t239 _ _ y240 t243 t244 t245 w0 _ ax48 ax51 (rd2 HO242) (rl HO242) (far_slice (IsS82.own_ne HI0.out HO242.out (by decide))) A17.out) ?_; rintro e w24 ⟨rfl, hi, hb, hk⟩; refine ⟨_, rfl, ?_⟩; replace HO242 := rK (IsS82.apart (show IsS82 w0 _ g s0_0 t238 t239 from ax48) (rX HO242) (by decide)) hk; replace HK := am (KeepBut.trans ax50 hk (.inl rfl)); replace HB := am (hb); replace HI0 := am (hi); (try clear hb hk hi)))
      go_ret
      exact ⟨(by first | rfl | (simp [errW_none, errW_some] <;> rfl) | (simp only [← hjs19]; first | rfl | (simp [errW_none, errW_some] <;> rfl)) | (simp [*, errW_none, errW_some] <;> rfl)), ax48, ax49, ax50⟩
     ·rw [if_neg c18] at H
      exact absurd H (by simp)
    ·replace c16 := Bool.eq_false_iff.mpr c16
     subst c16; rw [if_neg (show ¬ (false = true) by decide)] at H; simp only [Option.some.injEq, Prod.mk.injEq] at H; obtain ⟨rfl, rfl, rfl⟩ := H
     go_wp2_with (first | ((with_reducible refine gd 18 122 ?_); refine gc 18 Tryz.func122 #[.pointer (some ⟨g, 0, none⟩), .int .i64 50] (spec_l1Cur_one.calls g s0_0 x1001_1 x1002_1 50 false t238 t239 w0 _ ax48 ax51 A15.out) ?_; rintro e w25 ⟨rfl, hi, hb, hk⟩; refine ⟨_, rfl, ?_⟩; replace HK := am (KeepBut.trans ax50 hk (.inl rfl)); replace HB := am (hb); replace HI0 := am (hi); (try clear hb hk hi)))
     go_ret
     exact ⟨ax21, ax48, ax49, ax50⟩

/-! ### spec_l1Cur_words: function 139 -/
mutual
def spec_l1Cur_words.l0 : Nat → List ByteArray → Int → List Int → Int → Int → Option (List ByteArray × Int × Int)
 | 0, _, _, _, _, _ => none
 | k + 1, x3, x4, x1000, x1001, x1002 => if x4 > 0 then ((spec_l1Cur_word.f k x1000 x1001 x1002).bind fun bt255 => (if (x3.length : Int) > 0 then ((spec_l1Cur_one.f x1000 bt255.2.1 bt255.2.2 3).bind fun bt258 => (spec_l1Cur_words.j1 k x3 x4 bt255.1 bt258.1 x1000 bt258.2.1 bt258.2.2)) else (spec_l1Cur_words.j1 k x3 x4 bt255.1 false x1000 bt255.2.1 bt255.2.2))) else ((spec_l1Cur_one.f x1000 x1001 x1002 40).bind fun bt286 => (if bt286.1 = true then (spec_l1Cur_words.l1 k x3 0 x1000 bt286.2.1 bt286.2.2) else (some (x3, bt286.2.1, bt286.2.2))))
def spec_l1Cur_words.j1 : Nat → List ByteArray → Int → ByteArray → Bool → List Int → Int → Int → Option (List ByteArray × Int × Int)
 | 0, _, _, _, _, _, _, _ => none
 | k + 1, x3, x4, x5, x23, x1000, x1001, x1002 => if x23 = true then ((spec_l1Cur_pick.f x1000 x1001 x1002 (x3.length : Int)).bind fun bt261 => (if 0 ≤ bt261.1 then (if bt261.1 < (x3.length : Int) then ((spec_l1Cur_one.f x1000 bt261.2.1 bt261.2.2 2).bind fun bt265 => (if bt265.1 = true then (spec_l1Cur_words.j2 k x3 x4 (rdOf ByteArray.empty x3 bt261.1) (decide (((rdOf ByteArray.empty x3 bt261.1).size : Int) < 12)) x1000 bt265.2.1 bt265.2.2) else (spec_l1Cur_words.j2 k x3 x4 (rdOf ByteArray.empty x3 bt261.1) false x1000 bt265.2.1 bt265.2.2))) else (none)) else (none))) else (if x3.length < 8796093022208 then (spec_l1Cur_words.l0 k (x3 ++ [x5]) (wrap64 (x4 - 1)) x1000 x1001 x1002) else (none))
def spec_l1Cur_words.j2 : Nat → List ByteArray → Int → ByteArray → Bool → List Int → Int → Int → Option (List ByteArray × Int × Int)
 | 0, _, _, _, _, _, _, _ => none
 | k + 1, x3, x4, x5, x37, x1000, x1001, x1002 => if x37 = true then ((spec_l1Cur_of.f x1000 x1001 x1002 (([(⟨#[97]⟩ : ByteArray), (⟨#[98]⟩ : ByteArray), (⟨#[99]⟩ : ByteArray)] : List ByteArray))).bind fun bt271 => (if x5.size + bt271.1.size ≤ 9223372036854775807 then (if x3.length < 8796093022208 then (spec_l1Cur_words.l0 k (x3 ++ [x5 ++ bt271.1]) (wrap64 (x4 - 1)) x1000 bt271.2.1 bt271.2.2) else (none)) else (none))) else (if (x5.size : Int) > 0 then (if 0 ≤ (wrap64 ((x5.size : Int) - 1)) then (if (wrap64 ((x5.size : Int) - 1)) ≤ (x5.size : Int) then (if x3.length < 8796093022208 then (spec_l1Cur_words.l0 k (x3 ++ [x5.extract 0 ((wrap64 ((x5.size : Int) - 1)) : Int).toNat]) (wrap64 (x4 - 1)) x1000 x1001 x1002) else (none)) else (none)) else (none)) else (if x3.length < 8796093022208 then (spec_l1Cur_words.l0 k (x3 ++ [x5]) (wrap64 (x4 - 1)) x1000 x1001 x1002) else (none)))
def spec_l1Cur_words.l1 : Nat → List ByteArray → Int → List Int → Int → Int → Option (List ByteArray × Int × Int)
 | 0, _, _, _, _, _ => none
 | k + 1, x3, x6, x1000, x1001, x1002 => if x6 < 41 then (if x3.length < 8796093022208 then (spec_l1Cur_words.l1 k (x3 ++ [strOfNums (([(wrap64 (97 + (Int.tmod x6 26))) % 256, (wrap64 (97 + (wrap64 (Int.tdiv x6 26)))) % 256] : List Int))]) (wrap64 (x6 + 1)) x1000 x1001 x1002) else (none)) else (some (x3, x1001, x1002))
end
def spec_l1Cur_words.f (k : Nat) (s0_0 : List Int) (s0_1 : Int) (s0_2 : Int) : Option (List ByteArray × Int × Int) := (spec_l1Cur_among.f s0_0 s0_1 s0_2 (([4, 6, 2, 8, 1, 0, 12, 3] : List Int))).bind fun bt252 => (spec_l1Cur_words.l0 k (([] : List ByteArray)) bt252.1 s0_0 bt252.2.1 bt252.2.2)
theorem spec_l1Cur_words.calls (k : Nat) (g : Nat) (s0_0 : List Int) (s0_1 : Int) (s0_2 : Int) (r1 : List ByteArray) (r2 : Int) (r3 : Int) (w0 w : World) (hI : IsS82 w0 w g s0_0 s0_1 s0_2) (hB : Below w0.heap.size w0 w) (h : spec_l1Cur_words.f k s0_0 s0_1 s0_2 = some (r1, r2, r3)) :
  Calls Tryz.prog 139 #[.pointer (some ⟨g, 0, none⟩)] w fun e w' => ∃ v0_ : Value, e = .returned (v0_) ∧ Kd.R Kd.string 9 w' w.heap.size (fun _ => True) v0_ r1 ∧ IsS82 w0 w' g s0_0 r2 r3 ∧ Below w0.heap.size w0 w' ∧ KeepBut w w' g none := by
 have HI0 := am hI; have HK := am (KeepBut.refl w g none); have HL := am hB.size; clear hI; have HW0 := am hB.size; have HB := am hB; clear hB
 unfold spec_l1Cur_words.f at h
 have H := h; clear h; obtain ⟨y246, hy246⟩ : ∃ y_ : List ByteArray, y_ = (([] : List ByteArray)) := ⟨_, rfl⟩
 replace H : ((spec_l1Cur_among.f s0_0 s0_1 s0_2 (([4, 6, 2, 8, 1, 0, 12, 3] : List Int))).bind fun bt252 => (spec_l1Cur_words.l0 k y246 bt252.1 s0_0 bt252.2.1 bt252.2.2)) = some (r1, r2, r3) := by first | (rw [hy246]; with_reducible exact H) | (have H2_ := (Option.bind_some _ _).symm.trans H; rw [hy246]; with_reducible exact H2_) | (have H2_ := (Option.bind_some _ _).symm.trans H; with_reducible exact H2_) | with_reducible exact H | (rw [hy246]; exact H) | exact H
 have Ny246 := am hy246; clear hy246; obtain ⟨y249, hy249⟩ : ∃ y_ : List Int, y_ = (([4, 6, 2, 8, 1, 0, 12, 3] : List Int)) := ⟨_, rfl⟩
 replace H : ((spec_l1Cur_among.f s0_0 s0_1 s0_2 y249).bind fun bt252 => (spec_l1Cur_words.l0 k y246 bt252.1 s0_0 bt252.2.1 bt252.2.2)) = some (r1, r2, r3) := by first | (rw [hy249]; with_reducible exact H) | (have H2_ := (Option.bind_some _ _).symm.trans H; rw [hy249]; with_reducible exact H2_) | (have H2_ := (Option.bind_some _ _).symm.trans H; with_reducible exact H2_) | with_reducible exact H | (rw [hy249]; exact H) | exact H
 have Ny249 := am hy249; clear hy249; obtain ⟨⟨t252, t253, t254⟩, A2, H⟩ := bs H; have H' := am H; clear H
 go_enter Tryz.func139, Tryz.ntmps139
 go_wp2_with (first | ((with_reducible refine gt 7 ?_); (try (refine gate_guard (by rfl) ?_; dsimp only)); refine Kd.R_lit Kd.string _ 9 ?hg (N := 7) ?hd (xs := ([] : List ByteArray)) (inner := []) (ok := fun _ => True) (okp := fun _ => True) ?hr ?hp (fun _ hk => hk) trivial (Below.refl _ _) (Nat.le_refl _) (by simp) ?_; (case hd => rfl); (case hg => rfl); (case hr => exact ax20); (case hp => exact ax31); intro v247 w3 ho4 hb hg_ hnew_; clear hg_ hnew_; (first | rw [← Ny246.out] at ho4 | (simp only [Int.reduceToNat] at ho4; rw [← Ny246.out] at ho4)); have HO248 := am (Kd.R_lower ho4 (keep_size (w := w) (g := g) (row := none) ax50)); replace HK := am (KeepBut.trans ax50 (KeepBut.of_below hb g none) (.inl rfl)); replace HB := am (below_step ax51 hb); replace HI0 := am (IsS82.below ax48 hb); clear hb ho4) | ((with_reducible refine gt 9 ?_); (try (refine gate_guard (by rfl) ?_; dsimp only)); refine Kd.R_lit (Kd.int .i64) _ 3 ?hg (N := 9) ?hd (xs := ([4, 6, 2, 8, 1, 0, 12, 3] : List Int)) (inner := [.int .i64 4, .int .i64 6, .int .i64 2, .int .i64 8, .int .i64 1, .int .i64 0, .int .i64 12, .int .i64 3]) (ok := fun _ => True) (okp := fun _ => True) ?hr ?hp (fun _ hk => hk) trivial (Below.refl _ _) (Nat.le_refl _) (by simp) ?_; (case hd => rfl); (case hg => rfl); (case hr => exact ax20); (case hp => exact (Reps.one (show Kd.M (Kd.int .i64) _ _ _ 4 [.int .i64 4] from rfl) (Reps.one (show Kd.M (Kd.int .i64) _ _ _ 6 [.int .i64 6] from rfl) (Reps.one (show Kd.M (Kd.int .i64) _ _ _ 2 [.int .i64 2] from rfl) (Reps.one (show Kd.M (Kd.int .i64) _ _ _ 8 [.int .i64 8] from rfl) (Reps.one (show Kd.M (Kd.int .i64) _ _ _ 1 [.int .i64 1] from rfl) (Reps.one (show Kd.M (Kd.int .i64) _ _ _ 0 [.int .i64 0] from rfl) (Reps.one (show Kd.M (Kd.int .i64) _ _ _ 12 [.int .i64 12] from rfl) (Reps.one (show Kd.M (Kd.int .i64) _ _ _ 3 [.int .i64 3] from rfl) (Reps.none _ _)))))))))); intro v250 w5 ho6 hb hg_ hnew_; clear hg_ hnew_; (first | rw [← Ny249.out] at ho6 | (simp only [Int.reduceToNat] at ho6; rw [← Ny249.out] at ho6)); replace HO248 := uR HO248 hb; have HO251 := am (Kd.R_lower ho6 (keep_size (w := w) (g := g) (row := none) ax50)); replace HK := am (KeepBut.trans ax50 (KeepBut.of_below hb g none) (.inl rfl)); replace HB := am (below_step ax51 hb); replace HI0 := am (IsS82.below ax48 hb); clear hb ho6; obtain ⟨Ao7, co7, rfl⟩ := Kd.R_slice HO251.out) | ((with_reducible refine gd 10 186 ?_); refine gc 10 Tryz.func186 #[.pointer (some ⟨g, 0, none⟩), .slice Ao7 y249.length co7] (spec_l1Cur_among.calls g s0_0 s0_1 s0_2 _ _ y249 t252 t253 t254 w0 _ ax48 ax51 (rd2 HO251) (rl HO251) (far_slice (IsS82.own_ne HI0.out HO251.out (by decide))) A2.out) ?_; rintro e w8 ⟨rfl, hi, hb, hk⟩; refine ⟨_, rfl, ?_⟩; replace HO248 := rK (IsS82.apart (show IsS82 w0 _ g s0_0 s0_1 s0_2 from ax48) (rX HO248) (by decide)) hk; replace HO251 := rK (IsS82.apart (show IsS82 w0 _ g s0_0 s0_1 s0_2 from ax48) (rX HO251) (by decide)) hk; replace HK := am (KeepBut.trans ax50 hk (.inl rfl)); replace HB := am (hb); replace HI0 := am (hi); (try clear hb hk hi)))
 go_loopg [3, 4] k (fun kq v3 v4 w' => ∃ (x3_1 : List ByteArray) (x4_1 : Int) (x1001_1 : Int) (x1002_1 : Int), v4 = .int .i64 x4_1 ∧ Aside0 (spec_l1Cur_words.l0 kq x3_1 x4_1 s0_0 x1001_1 x1002_1 = some (r1, r2, r3)) ∧ Aside0 (kq ≤ k) ∧ Aside0 (Kd.R Kd.string 9 w' w.heap.size (fun _ => True) v3 x3_1) ∧ Aside0 (IsS82 w0 w' g s0_0 x1001_1 x1002_1) ∧ Aside0 (KeepBut w w' g none) ∧ Aside0 (Below w0.heap.size w0 w'))
 case atStart => exact ⟨(y246), (t252), (t253), (t254), ax18, H', ⟨Nat.le_refl _⟩, ⟨aU⟩, ⟨ax48⟩, ⟨ax50⟩, ⟨ax49⟩⟩
 case round =>
  clear H'; obtain ⟨x3_1, x4_1, x1001_1, x1002_1, rfl, HA, HK1, HO_3, HI0, HK, HB⟩ := hrel
  cases gk with
  | zero => exact absurd HA.out (by simp [spec_l1Cur_words.l0])
  | succ k1 =>
   have H := HA.out; clear HA; simp only [spec_l1Cur_words.l0] at H
   by_cases c9 : x4_1 > 0
   ·rw [if_pos c9] at H
    have c9b0 := decide_eq_true c9; clear c9; obtain ⟨⟨t255, t256, t257⟩, A10, H⟩ := bs H; have HC11 := am H; clear H
    go_upto_region 6 with (first | ((with_reducible refine gd 16 147 ?_); refine gc 16 Tryz.func147 #[.pointer (some ⟨g, 0, none⟩)] (spec_l1Cur_word.calls k1 g s0_0 x1001_1 x1002_1 t255 t256 t257 w0 _ ax48 ax51 A10.out) ?_; rintro e w12 ⟨rfl, hi, hb, hk⟩; refine ⟨_, rfl, ?_⟩; replace HO_3 := rK (IsS82.apart (show IsS82 w0 _ g s0_0 x1001_1 x1002_1 from ax48) (rX HO_3) (by decide)) hk; replace HK := am (KeepBut.trans ax50 hk (.inl rfl)); replace HB := am (hb); replace HI0 := am (hi); (try clear hb hk hi)))
    (try simp only [Act.put, List.setIfInBounds_toArray, List.set_cons_zero, List.set_cons_succ])
    go_cut [23] (fun v23 wc => ∃ (kq : Nat) (x23_10 : Bool) (x1001_10 : Int) (x1002_10 : Int), v23 = .bool x23_10 ∧ Aside0 (spec_l1Cur_words.j1 kq x3_1 x4_1 t255 x23_10 s0_0 x1001_10 x1002_10 = some (r1, r2, r3)) ∧ Aside0 (kq ≤ k1) ∧ Aside0 (Kd.R Kd.string 9 wc w.heap.size (fun _ => True) u3 x3_1) ∧ Aside0 (IsS82 w0 wc g s0_0 x1001_10 x1002_10) ∧ Aside0 (KeepBut w wc g none) ∧ Aside0 (Below w0.heap.size w0 wc))
    case first =>
     have H := HC11.out; clear HC11
     by_cases c13 : (x3_1.length : Int) > 0
     ·rw [if_pos c13] at H
      have c13b0 := decide_eq_true c13; have c13b1 : decide (0 < x3_1.length) = true := decide_eq_true (by omega); clear c13; (first | rw [c13b0] | (simp only [i64_w, i32_w]; rw [c13b0]) | skip); obtain ⟨⟨t258, t259, t260⟩, A14, H⟩ := bs H; have H' := am H; clear H; obtain ⟨Ao15, co15, rfl⟩ := Kd.R_slice HO_3.out
      go_wp2_with (first | (go_at_call 122; (with_reducible refine (spec_l1Cur_one.calls g s0_0 t256 t257 3 t258 t259 t260 w0 _ ?side1 ?side2 A14.out).mono ?_); (case side1 => exact ax48); (case side2 => exact ax51); rintro e w16 ⟨rfl, hi, hb, hk⟩; replace HO_3 := rK (IsS82.apart (show IsS82 w0 _ g s0_0 t256 t257 from ax48) (rX HO_3) (by decide)) hk; replace HK := am (KeepBut.trans ax50 hk (.inl rfl)); replace HB := am (hb); replace HI0 := am (hi); (try clear hb hk hi)))
      go_meet
      case rel => exact ⟨_, (t258), (t259), (t260), ax18, H', ⟨ax52⟩, ⟨aU⟩, ⟨ax48⟩, ⟨ax50⟩, ⟨ax49⟩⟩
     ·rw [if_neg c13] at H
      have c13b0 := decide_eq_false c13; have c13b1 : decide (0 < x3_1.length) = false := decide_eq_false (by omega); clear c13; (first | rw [c13b0] | (simp only [i64_w, i32_w]; rw [c13b0]) | skip); have H' := am H; clear H; obtain ⟨Ao17, co17, rfl⟩ := Kd.R_slice HO_3.out
      go_wp2
      go_meet
      case rel => exact ⟨_, (false), (t256), (t257), ax18, H', ⟨ax52⟩, ⟨aU⟩, ⟨ax48⟩, ⟨ax50⟩, ⟨ax49⟩⟩
    case rest =>
     clear HC11; (try clear c9);(try clear c9b0); obtain ⟨kq, x23_10, x1001_10, x1002_10, rfl, HA, HJ10, HO_3, HI0, HK, HB⟩ := hcut
     cases kq with
     | zero => exact absurd HA.out (by simp [spec_l1Cur_words.j1])
     | succ kj10 =>
      have H := HA.out; clear HA; simp only [spec_l1Cur_words.j1] at H
      by_cases c18 : x23_10 = true
      ·subst c18
       rw [if_pos rfl] at H; obtain ⟨⟨t261, t262, t263⟩, A19, H⟩ := bs H
       by_cases c20 : 0 ≤ t261
       ·rw [if_pos c20] at H
        have c20b0 := decide_eq_true c20; clear c20
        by_cases c21 : t261 < (x3_1.length : Int)
        ·rw [if_pos c21] at H
         have c21b0 := decide_eq_true c21; clear c21; have HC22 := am H; clear H; obtain ⟨Ao23, co23, rfl⟩ := Kd.R_slice HO_3.out
         go_upto_region 8 with (first | ((with_reducible refine gd 28 127 ?_); refine gc 28 Tryz.func127 #[.pointer (some ⟨g, 0, none⟩), .int .i64 (x3_1.length : Int)] (spec_l1Cur_pick.calls g s0_0 x1001_10 x1002_10 (x3_1.length : Int) t261 t262 t263 w0 _ ax48 ax51 A19.out) ?_; rintro e w24 ⟨rfl, hi, hb, hk⟩; refine ⟨_, rfl, ?_⟩; replace HO_3 := rK (IsS82.apart (show IsS82 w0 _ g s0_0 x1001_10 x1002_10 from ax48) (rX HO_3) (by decide)) hk; replace HK := am (KeepBut.trans ax50 hk (.inl rfl)); replace HB := am (hb); replace HI0 := am (hi); (try clear hb hk hi); have p264 : 0 ≤ (t261 : Int) := of_decide_eq_true ax23; have q264 : t261 < (x3_1.length : Int) := of_decide_eq_true ax23; obtain ⟨ad264, e264, hx264_0⟩ := Kd.at_string (Kd.R_reads' HO_3.out).2.2 t261 p264 q264; cases e264; replace p264 := eq_true p264; replace q264 := eq_true q264))
         (try simp only [Act.put, List.setIfInBounds_toArray, List.set_cons_zero, List.set_cons_succ])
         go_cut [37] (fun v37 wc => ∃ (kq : Nat) (x37_21 : Bool) (x1001_21 : Int) (x1002_21 : Int), v37 = .bool x37_21 ∧ Aside0 (spec_l1Cur_words.j2 kq x3_1 x4_1 (rdOf ByteArray.empty x3_1 t261) x37_21 s0_0 x1001_21 x1002_21 = some (r1, r2, r3)) ∧ Aside0 (kq ≤ kj10) ∧ Aside0 (Kd.R Kd.string 9 wc w.heap.size (fun _ => True) (.slice (some ad264) x3_1.length co23) x3_1) ∧ Aside0 (IsS82 w0 wc g s0_0 x1001_21 x1002_21) ∧ Aside0 (KeepBut w wc g none) ∧ Aside0 (Below w0.heap.size w0 wc))
         case first =>
          have H := HC22.out; clear HC22; obtain ⟨⟨t265, t266, t267⟩, A25, H⟩ := bs H
          by_cases c26 : t265 = true
          ·subst c26
           rw [if_pos rfl] at H; have H' := am H; clear H
           go_wp2_with (first | ((with_reducible refine gd 32 122 ?_); refine gc 32 Tryz.func122 #[.pointer (some ⟨g, 0, none⟩), .int .i64 2] (spec_l1Cur_one.calls g s0_0 t262 t263 2 true t266 t267 w0 _ ax48 ax51 A25.out) ?_; rintro e w27 ⟨rfl, hi, hb, hk⟩; refine ⟨_, rfl, ?_⟩; replace HO_3 := rK (IsS82.apart (show IsS82 w0 _ g s0_0 t262 t263 from ax48) (rX HO_3) (by decide)) hk; replace HK := am (KeepBut.trans ax50 hk (.inl rfl)); replace HB := am (hb); replace HI0 := am (hi); (try clear hb hk hi)))
           go_meet
           case rel => exact ⟨_, (decide (((rdOf ByteArray.empty x3_1 t261).size : Int) < 12)), (t266), (t267), ax18, H', ⟨ax53⟩, ⟨aU⟩, ⟨ax48⟩, ⟨ax50⟩, ⟨ax49⟩⟩
          ·replace c26 := Bool.eq_false_iff.mpr c26
           subst c26; rw [if_neg (show ¬ (false = true) by decide)] at H; have H' := am H; clear H
           go_wp2_with (first | ((with_reducible refine gd 32 122 ?_); refine gc 32 Tryz.func122 #[.pointer (some ⟨g, 0, none⟩), .int .i64 2] (spec_l1Cur_one.calls g s0_0 t262 t263 2 false t266 t267 w0 _ ax48 ax51 A25.out) ?_; rintro e w28 ⟨rfl, hi, hb, hk⟩; refine ⟨_, rfl, ?_⟩; replace HO_3 := rK (IsS82.apart (show IsS82 w0 _ g s0_0 t262 t263 from ax48) (rX HO_3) (by decide)) hk; replace HK := am (KeepBut.trans ax50 hk (.inl rfl)); replace HB := am (hb); replace HI0 := am (hi); (try clear hb hk hi)))
           go_meet
           case rel => exact ⟨_, (false), (t266), (t267), ax18, H', ⟨ax53⟩, ⟨aU⟩, ⟨ax48⟩, ⟨ax50⟩, ⟨ax49⟩⟩
         case rest =>
          clear HC22; (try clear p264);(try clear q264);(try clear hx264_0);(try clear c21);(try clear c21b0);(try clear c20);(try clear c20b0);(try clear c18); obtain ⟨kq, x37_21, x1001_21, x1002_21, rfl, HA, HJ21, HO_3, HI0, HK, HB⟩ := hcut
          cases kq with
          | zero => exact absurd HA.out (by simp [spec_l1Cur_words.j2])
          | succ kj21 =>
           have H := HA.out; clear HA; simp only [spec_l1Cur_words.j2] at H
           by_cases c29 : x37_21 = true
           ·subst c29
            rw [if_pos rfl] at H; obtain ⟨y268, hy268⟩ : ∃ y_ : List ByteArray, y_ = (([(⟨#[97]⟩ : ByteArray), (⟨#[98]⟩ : ByteArray), (⟨#[99]⟩ : ByteArray)] : List ByteArray)) := ⟨_, rfl⟩
            replace H : ((spec_l1Cur_of.f s0_0 x1001_21 x1002_21 y268).bind fun bt271 => (if (rdOf ByteArray.empty x3_1 t261).size + bt271.1.size ≤ 9223372036854775807 then (if x3_1.length < 8796093022208 then (spec_l1Cur_words.l0 kj21 (x3_1 ++ [(rdOf ByteArray.empty x3_1 t261) ++ bt271.1]) (wrap64 (x4_1 - 1)) s0_0 bt271.2.1 bt271.2.2) else (none)) else (none))) = some (r1, r2, r3) := by first | (rw [hy268]; with_reducible exact H) | (have H2_ := (Option.bind_some _ _).symm.trans H; rw [hy268]; with_reducible exact H2_) | (have H2_ := (Option.bind_some _ _).symm.trans H; with_reducible exact H2_) | with_reducible exact H | (rw [hy268]; exact H) | exact H
            have Ny268 := am hy268; clear hy268; obtain ⟨⟨t271, t272, t273⟩, A30, H⟩ := bs H
            by_cases c31 : (rdOf ByteArray.empty x3_1 t261).size + t271.size ≤ 9223372036854775807
            ·rw [if_pos c31] at H
             have c31b0 := eq_true c31; have c31b1 := decide_eq_true c31
             try have c31b2 : (9223372036854775807 < (rdOf ByteArray.empty x3_1 t261).size + t271.size) = False := eq_false (Nat.not_lt.2 c31)
             clear c31; obtain ⟨js32, hjs32⟩ : ∃ j_ : ByteArray, ((rdOf ByteArray.empty x3_1 t261) ++ t271) = j_ := ⟨_, rfl⟩; (first | rw [hjs32] at H | simp only [hjs32] at H)
             by_cases c33 : x3_1.length < 8796093022208
             ·rw [if_pos c33] at H
              have LMc33 := am c33; clear c33; obtain ⟨y274, hy274⟩ : ∃ y_ : List ByteArray, y_ = (x3_1 ++ [js32]) := ⟨_, rfl⟩
              replace H : (spec_l1Cur_words.l0 kj21 y274 (wrap64 (x4_1 - 1)) s0_0 t272 t273) = some (r1, r2, r3) := by first | (rw [hy274]; with_reducible exact H) | (have H2_ := (Option.bind_some _ _).symm.trans H; rw [hy274]; with_reducible exact H2_) | (have H2_ := (Option.bind_some _ _).symm.trans H; with_reducible exact H2_) | with_reducible exact H | (rw [hy274]; exact H) | exact H
              have Ny274 := am hy274; clear hy274; have H' := am H; clear H
              go_wp2_with (first | ((with_reducible refine gt 40 ?_); (try (refine gate_guard (by rfl) ?_; dsimp only)); refine Kd.R_lit Kd.string _ 9 ?hg (N := 40) ?hd (xs := ([(⟨#[97]⟩ : ByteArray), (⟨#[98]⟩ : ByteArray), (⟨#[99]⟩ : ByteArray)] : List ByteArray)) (inner := [.string (⟨#[97]⟩ : ByteArray), .string (⟨#[98]⟩ : ByteArray), .string (⟨#[99]⟩ : ByteArray)]) (ok := fun _ => True) (okp := fun _ => True) ?hr ?hp (fun _ hk => hk) trivial (Below.refl _ _) (Nat.le_refl _) (by simp) ?_; (case hd => rfl); (case hg => rfl); (case hr => exact ax20); (case hp => exact ax54); intro v269 w34 ho35 hb hg_ hnew_; clear hg_ hnew_; (first | rw [← Ny268.out] at ho35 | (simp only [Int.reduceToNat] at ho35; rw [← Ny268.out] at ho35)); have HO270 := am (Kd.R_lower (Kd.R_new' ho35 (Kd.R_lt (rX HO_3))) (keep_size (w := w) (g := g) (row := none) ax50)); replace HO_3 := am (Kd.R_elder' (rX HO_3) (Kd.R_base ho35) hb); replace HK := am (KeepBut.trans ax50 (KeepBut.of_below hb g none) (.inl rfl)); replace HB := am (below_step ax51 hb); replace HI0 := am (IsS82.below ax48 hb); clear hb ho35; obtain ⟨Ao36, co36, rfl⟩ := Kd.R_slice HO270.out) | ((with_reducible refine gd 41 121 ?_); refine gc 41 Tryz.func121 #[.pointer (some ⟨g, 0, none⟩), .slice Ao36 y268.length co36] (spec_l1Cur_of.calls g s0_0 x1001_21 x1002_21 _ _ y268 t271 t272 t273 w0 _ ax48 ax51 (rd2 HO270) (rl HO270) (far_slice (IsS82.own_ne HI0.out HO270.out (by decide))) A30.out) ?_; rintro e w37 ⟨rfl, hi, hb, hk⟩; refine ⟨_, rfl, ?_⟩; replace HO_3 := rK (IsS82.apart (show IsS82 w0 _ g s0_0 x1001_21 x1002_21 from ax48) (rX HO_3) (by decide)) hk; replace HO270 := rK (IsS82.apart (show IsS82 w0 _ g s0_0 x1001_21 x1002_21 from ax48) (rX HO270) (by decide)) hk; replace HK := am (KeepBut.trans ax50 hk (.inl rfl)); replace HB := am (hb); replace HI0 := am (hi); (try clear hb hk hi)) | ((with_reducible refine gate_builtin (b := .append) (xs := #[.tmp 51, .tmp 53]) rfl ?_); (try (refine gate_guard (by rfl) ?_; dsimp only)); at_builtin; refine Kd.R_append Kd.string w.heap.size rfl (.tmp 51) (.tmp 53) 31 9 (.string ⟨#[]⟩) 16 rfl Tryz.underlying31 info9 rfl (by decide) (by omega) (.slice (some ad264) x3_1.length co23) x3_1 js32 [.string js32] (fun k_ => some k_ ≠ (.slice Ao36 y268.length co36 : Value).ownBlock) (fun _ => False) rfl rfl ?aP (fun _ hk => hk.elim) ?aF ?aO (Below.refl _ _) ?aS ?aL ?_; (case aP => exact rfl); (case aF => exact (fun k_ hk => Kd.fresh' (Kd.R_lt (rX HO270)) k_ hk)); (case aO => exact ax32); (case aS => exact ax55); (case aL => have := LMc33.out; omega); intro v275 w38 ho hb hg hat; rw [← Ny274.out] at ho; have n0_ := am (IsS82.grown ax48 hg (IsS82.own_ne HI0.out HO_3.out (by decide))); have n1_ := am (Kd.R_after (ok := (fun _ => True)) (rX HO270) hg hat); have n2_ := am (below_weaken ax51 HL.out hb); have n3_ := am (KeepBut.trans ax50 (KeepBut.of_grown hg g) (Kd.R_base2 HO_3.out)); have n4_ := am (ho); clear HI0; clear HO270; clear HB; clear HK; clear HO_3; have HI0 := n0_; have HO270 := n1_; have HB := n2_; have HK := n3_; have HO276 := n4_; clear n0_ n1_ n2_ n3_ n4_; clear ho hb hg hat))
              go_roundg kj21
              case measure => have := HK1.out; have := HJ10.out; have := HJ21.out; omega
              case rel => exact ⟨(y274), (wrap64 (x4_1 - 1)), (t272), (t273), ax18, H', ⟨ax56⟩, ⟨aU⟩, ⟨ax48⟩, ⟨ax50⟩, ⟨ax49⟩⟩
             ·exact ax14
            ·exact ax15
           ·replace c29 := Bool.eq_false_iff.mpr c29
            subst c29; rw [if_neg (show ¬ (false = true) by decide)] at H
            by_cases c39 : ((rdOf ByteArray.empty x3_1 t261).size : Int) > 0
            ·rw [if_pos c39] at H
             have c39b0 := decide_eq_true c39; have c39b1 : decide (0 < (rdOf ByteArray.empty x3_1 t261).size) = true := decide_eq_true (by omega); clear c39; obtain ⟨ji40, hji40⟩ : ∃ j_ : Int, (wrap64 (((rdOf ByteArray.empty x3_1 t261).size : Int) - 1)) = j_ := ⟨_, rfl⟩; (first | rw [hji40] at H | simp only [hji40] at H); have hji40w : (IntKind.i64.wrap (((rdOf ByteArray.empty x3_1 t261).size : Int) - 1)) = ji40 := (i64_w _).trans hji40
             by_cases c41 : 0 ≤ (ji40)
             ·rw [if_pos c41] at H
              have c41b0 := eq_true c41; have c41b1 := decide_eq_true c41; clear c41
              by_cases c42 : (ji40) ≤ ((rdOf ByteArray.empty x3_1 t261).size : Int)
              ·rw [if_pos c42] at H
               have c42b0 := eq_true c42; have c42b1 := decide_eq_true c42; clear c42; obtain ⟨js43, hjs43⟩ : ∃ j_ : ByteArray, ((rdOf ByteArray.empty x3_1 t261).extract 0 ((ji40) : Int).toNat) = j_ := ⟨_, rfl⟩; (first | rw [hjs43] at H | simp only [hjs43] at H)
               by_cases c44 : x3_1.length < 8796093022208
               ·rw [if_pos c44] at H
                have LMc44 := am c44; clear c44; obtain ⟨y277, hy277⟩ : ∃ y_ : List ByteArray, y_ = (x3_1 ++ [js43]) := ⟨_, rfl⟩
                replace H : (spec_l1Cur_words.l0 kj21 y277 (wrap64 (x4_1 - 1)) s0_0 x1001_21 x1002_21) = some (r1, r2, r3) := by first | (rw [hy277]; with_reducible exact H) | (have H2_ := (Option.bind_some _ _).symm.trans H; rw [hy277]; with_reducible exact H2_) | (have H2_ := (Option.bind_some _ _).symm.trans H; with_reducible exact H2_) | with_reducible exact H | (rw [hy277]; exact H) | exact H
                have Ny277 := am hy277; clear hy277; have H' := am H; clear H
                go_wp2_with (first | ((with_reducible refine gate_builtin (b := .append) (xs := #[.tmp 51, .tmp 53]) rfl ?_); (try (refine gate_guard (by rfl) ?_; dsimp only)); at_builtin; refine Kd.R_append Kd.string w.heap.size rfl (.tmp 51) (.tmp 53) 31 9 (.string ⟨#[]⟩) 16 rfl Tryz.underlying31 info9 rfl (by decide) (by omega) (.slice (some ad264) x3_1.length co23) x3_1 js43 [.string js43] (fun _ => True) (fun _ => False) rfl rfl ?aP (fun _ hk => hk.elim) ?aF ?aO (Below.refl _ _) ?aS ?aL ?_; (case aP => exact rfl); (case aF => exact ax27); (case aO => exact (rX HO_3)); (case aS => exact ax55); (case aL => have := LMc44.out; omega); intro v278 w45 ho hb hg hat; rw [← Ny277.out] at ho; have n0_ := am (IsS82.grown ax48 hg (IsS82.own_ne HI0.out HO_3.out (by decide))); have n1_ := am (below_weaken ax51 HL.out hb); have n2_ := am (KeepBut.trans ax50 (KeepBut.of_grown hg g) (Kd.R_base2 HO_3.out)); have n3_ := am (ho); clear HI0; clear HB; clear HK; clear HO_3; have HI0 := n0_; have HB := n1_; have HK := n2_; have HO279 := n3_; clear n0_ n1_ n2_ n3_; clear ho hb hg hat))
                go_roundg kj21
                case measure => have := HK1.out; have := HJ10.out; have := HJ21.out; omega
                case rel => exact ⟨(y277), (wrap64 (x4_1 - 1)), (x1001_21), (x1002_21), ax18, H', ⟨ax56⟩, ⟨aU⟩, ⟨ax48⟩, ⟨ax50⟩, ⟨ax49⟩⟩
               ·rw [if_neg c44] at H
                exact absurd H (by simp)
              ·rw [if_neg c42] at H
               exact absurd H (by simp)
             ·rw [if_neg c41] at H
              exact absurd H (by simp)
            ·rw [if_neg c39] at H
             have c39b0 := decide_eq_false c39; have c39b1 : decide (0 < (rdOf ByteArray.empty x3_1 t261).size) = false := decide_eq_false (by omega); clear c39
             by_cases c46 : x3_1.length < 8796093022208
             ·rw [if_pos c46] at H
              have LMc46 := am c46; clear c46; obtain ⟨y280, hy280⟩ : ∃ y_ : List ByteArray, y_ = (x3_1 ++ [(rdOf ByteArray.empty x3_1 t261)]) := ⟨_, rfl⟩
              replace H : (spec_l1Cur_words.l0 kj21 y280 (wrap64 (x4_1 - 1)) s0_0 x1001_21 x1002_21) = some (r1, r2, r3) := by first | (rw [hy280]; with_reducible exact H) | (have H2_ := (Option.bind_some _ _).symm.trans H; rw [hy280]; with_reducible exact H2_) | (have H2_ := (Option.bind_some _ _).symm.trans H; with_reducible exact H2_) | with_reducible exact H | (rw [hy280]; exact H) | exact H
              have Ny280 := am hy280; clear hy280; have H' := am H; clear H
              go_wp2_with (first | ((with_reducible refine gate_builtin (b := .append) (xs := #[.tmp 51, .tmp 53]) rfl ?_); (try (refine gate_guard (by rfl) ?_; dsimp only)); at_builtin; refine Kd.R_append Kd.string w.heap.size rfl (.tmp 51) (.tmp 53) 31 9 (.string ⟨#[]⟩) 16 rfl Tryz.underlying31 info9 rfl (by decide) (by omega) (.slice (some ad264) x3_1.length co23) x3_1 (rdOf ByteArray.empty x3_1 t261) [.string (rdOf ByteArray.empty x3_1 t261)] (fun _ => True) (fun _ => False) rfl rfl ?aP (fun _ hk => hk.elim) ?aF ?aO (Below.refl _ _) ?aS ?aL ?_; (case aP => exact rfl); (case aF => exact ax27); (case aO => exact (rX HO_3)); (case aS => exact ax55); (case aL => have := LMc46.out; omega); intro v281 w47 ho hb hg hat; rw [← Ny280.out] at ho; have n0_ := am (IsS82.grown ax48 hg (IsS82.own_ne HI0.out HO_3.out (by decide))); have n1_ := am (below_weaken ax51 HL.out hb); have n2_ := am (KeepBut.trans ax50 (KeepBut.of_grown hg g) (Kd.R_base2 HO_3.out)); have n3_ := am (ho); clear HI0; clear HB; clear HK; clear HO_3; have HI0 := n0_; have HB := n1_; have HK := n2_; have HO282 := n3_; clear n0_ n1_ n2_ n3_; clear ho hb hg hat))
              go_roundg kj21
              case measure => have := HK1.out; have := HJ10.out; have := HJ21.out; omega
              case rel => exact ⟨(y280), (wrap64 (x4_1 - 1)), (x1001_21), (x1002_21), ax18, H', ⟨ax56⟩, ⟨aU⟩, ⟨ax48⟩, ⟨ax50⟩, ⟨ax49⟩⟩
             ·rw [if_neg c46] at H
              exact absurd H (by simp)
        ·rw [if_neg c21] at H
         exact absurd H (by simp)
       ·rw [if_neg c20] at H
        exact absurd H (by simp)
      ·replace c18 := Bool.eq_false_iff.mpr c18
       subst c18; rw [if_neg (show ¬ (false = true) by decide)] at H
       by_cases c48 : x3_1.length < 8796093022208
       ·rw [if_pos c48] at H
        have LMc48 := am c48; clear c48; obtain ⟨y283, hy283⟩ : ∃ y_ : List ByteArray, y_ = (x3_1 ++ [t255]) := ⟨_, rfl⟩
        replace H : (spec_l1Cur_words.l0 kj10 y283 (wrap64 (x4_1 - 1)) s0_0 x1001_10 x1002_10) = some (r1, r2, r3) := by first | (rw [hy283]; with_reducible exact H) | (have H2_ := (Option.bind_some _ _).symm.trans H; rw [hy283]; with_reducible exact H2_) | (have H2_ := (Option.bind_some _ _).symm.trans H; with_reducible exact H2_) | with_reducible exact H | (rw [hy283]; exact H) | exact H
        have Ny283 := am hy283; clear hy283; have H' := am H; clear H
        go_wp2_with (first | ((with_reducible refine gate_builtin (b := .append) (xs := #[.tmp 51, .tmp 53]) rfl ?_); (try (refine gate_guard (by rfl) ?_; dsimp only)); at_builtin; refine Kd.R_append Kd.string w.heap.size rfl (.tmp 51) (.tmp 53) 31 9 (.string ⟨#[]⟩) 16 rfl Tryz.underlying31 info9 rfl (by decide) (by omega) u3 x3_1 t255 [.string t255] (fun _ => True) (fun _ => False) rfl rfl ?aP (fun _ hk => hk.elim) ?aF ?aO (Below.refl _ _) ?aS ?aL ?_; (case aP => exact rfl); (case aF => exact ax27); (case aO => exact (rX HO_3)); (case aS => exact ax55); (case aL => have := LMc48.out; omega); intro v284 w49 ho hb hg hat; rw [← Ny283.out] at ho; have n0_ := am (IsS82.grown ax48 hg (IsS82.own_ne HI0.out HO_3.out (by decide))); have n1_ := am (below_weaken ax51 HL.out hb); have n2_ := am (KeepBut.trans ax50 (KeepBut.of_grown hg g) (Kd.R_base2 HO_3.out)); have n3_ := am (ho); clear HI0; clear HB; clear HK; clear HO_3; have HI0 := n0_; have HB := n1_; have HK := n2_; have HO285 := n3_; clear n0_ n1_ n2_ n3_; clear ho hb hg hat))
        go_roundg kj10
        case measure => have := HK1.out; have := HJ10.out; omega
        case rel => exact ⟨(y283), (wrap64 (x4_1 - 1)), (x1001_10), (x1002_10), ax18, H', ⟨(by have := HK1.out; have := HJ10.out; omega)⟩, ⟨aU⟩, ⟨ax48⟩, ⟨ax50⟩, ⟨ax49⟩⟩
       ·rw [if_neg c48] at H
        exact absurd H (by simp)
   ·rw [if_neg c9] at H
    have c9b0 := decide_eq_false c9; clear c9; obtain ⟨⟨t286, t287, t288⟩, A50, H⟩ := bs H
    by_cases c51 : t286 = true
    ·subst c51
     rw [if_pos rfl] at H; have H' := am H; clear H
     go_wp2_with (first | ((with_reducible refine gd 56 122 ?_); refine gc 56 Tryz.func122 #[.pointer (some ⟨g, 0, none⟩), .int .i64 40] (spec_l1Cur_one.calls g s0_0 x1001_1 x1002_1 40 true t287 t288 w0 _ ax48 ax51 A50.out) ?_; rintro e w52 ⟨rfl, hi, hb, hk⟩; refine ⟨_, rfl, ?_⟩; replace HO_3 := rK (IsS82.apart (show IsS82 w0 _ g s0_0 x1001_1 x1002_1 from ax48) (rX HO_3) (by decide)) hk; replace HK := am (KeepBut.trans ax50 hk (.inl rfl)); replace HB := am (hb); replace HI0 := am (hi); (try clear hb hk hi)))
     go_loopg [3, 6] k1 (fun kq v3 v6 w' => ∃ (x3_2 : List ByteArray) (x6_2 : Int), v6 = .int .i64 x6_2 ∧ Aside0 (spec_l1Cur_words.l1 kq x3_2 x6_2 s0_0 t287 t288 = some (r1, r2, r3)) ∧ Aside0 (kq ≤ k1) ∧ Aside0 (Kd.R Kd.string 9 w' w.heap.size (fun _ => True) v3 x3_2) ∧ Aside0 (IsS82 w0 w' g s0_0 t287 t288) ∧ Aside0 (KeepBut w w' g none) ∧ Aside0 (Below w0.heap.size w0 w'))
     case atStart => exact ⟨(x3_1), (0), ax18, H', ⟨Nat.le_refl _⟩, ⟨aU⟩, ⟨ax48⟩, ⟨ax50⟩, ⟨ax49⟩⟩
     case round =>
      clear H'; (try clear c51);(try clear c9);(try clear c9b0); obtain ⟨x3_2, x6_2, rfl, HA, HK2, HO_3, HI0, HK, HB⟩ := hrel
      cases gk with
      | zero => exact absurd HA.out (by simp [spec_l1Cur_words.l1])
      | succ k2 =>
       have H := HA.out; clear HA; simp only [spec_l1Cur_words.l1] at H
       by_cases c53 : x6_2 < 41
       ·rw [if_pos c53] at H
        have c53b0 := decide_eq_true c53; clear c53; obtain ⟨y289, hy289⟩ : ∃ y_ : List Int, y_ = (([(wrap64 (97 + (Int.tmod x6_2 26))) % 256, (wrap64 (97 + (wrap64 (Int.tdiv x6_2 26)))) % 256] : List Int)) := ⟨_, rfl⟩
        replace H : (if x3_2.length < 8796093022208 then (spec_l1Cur_words.l1 k2 (x3_2 ++ [strOfNums y289]) (wrap64 (x6_2 + 1)) s0_0 t287 t288) else (none)) = some (r1, r2, r3) := by first | (rw [hy289]; with_reducible exact H) | (have H2_ := (Option.bind_some _ _).symm.trans H; rw [hy289]; with_reducible exact H2_) | (have H2_ := (Option.bind_some _ _).symm.trans H; with_reducible exact H2_) | with_reducible exact H | (rw [hy289]; exact H) | exact H
        have Ny289 := am hy289; clear hy289
        by_cases c54 : x3_2.length < 8796093022208
        ·rw [if_pos c54] at H
         have LMc54 := am c54; clear c54; obtain ⟨y292, hy292⟩ : ∃ y_ : List ByteArray, y_ = (x3_2 ++ [strOfNums y289]) := ⟨_, rfl⟩
         replace H : (spec_l1Cur_words.l1 k2 y292 (wrap64 (x6_2 + 1)) s0_0 t287 t288) = some (r1, r2, r3) := by first | (rw [hy292]; with_reducible exact H) | (have H2_ := (Option.bind_some _ _).symm.trans H; rw [hy292]; with_reducible exact H2_) | (have H2_ := (Option.bind_some _ _).symm.trans H; with_reducible exact H2_) | with_reducible exact H | (rw [hy292]; exact H) | exact H
         have Ny292 := am hy292; clear hy292; have H' := am H; clear H
         go_wp2_with (first | ((with_reducible refine gt 70 ?_); (try (refine gate_guard (by rfl) ?_; dsimp only)); refine Kd.R_lit (Kd.int .u8) _ 5 ?hg (N := 70) ?hd (xs := ([(wrap64 (97 + (Int.tmod x6_2 26))) % 256, (wrap64 (97 + (wrap64 (Int.tdiv x6_2 26)))) % 256] : List Int)) (inner := [.int .u8 ((wrap64 (97 + (Int.tmod x6_2 26))) % 256), .int .u8 ((wrap64 (97 + (wrap64 (Int.tdiv x6_2 26)))) % 256)]) (ok := fun _ => True) (okp := fun _ => True) ?hr ?hp (fun _ hk => hk) trivial (Below.refl _ _) (Nat.le_refl _) (by simp) ?_; (case hd => rfl); (case hg => rfl); (case hr => exact ax20); (case hp => exact (Reps.one (show Kd.M (Kd.int .u8) _ _ _ ((wrap64 (97 + (Int.tmod x6_2 26))) % 256) [.int .u8 ((wrap64 (97 + (Int.tmod x6_2 26))) % 256)] from rfl) (Reps.one (show Kd.M (Kd.int .u8) _ _ _ ((wrap64 (97 + (wrap64 (Int.tdiv x6_2 26)))) % 256) [.int .u8 ((wrap64 (97 + (wrap64 (Int.tdiv x6_2 26)))) % 256)] from rfl) (Reps.none _ _)))); intro v290 w55 ho56 hb hg_ hnew_; clear hg_ hnew_; (first | rw [← Ny289.out] at ho56 | (simp only [Int.reduceToNat] at ho56; rw [← Ny289.out] at ho56)); replace HO_3 := uR HO_3 hb; have HO291 := am (Kd.R_lower ho56 (keep_size (w := w) (g := g) (row := none) ax50)); replace HK := am (KeepBut.trans ax50 (KeepBut.of_below hb g none) (.inl rfl)); replace HB := am (below_step ax51 hb); replace HI0 := am (IsS82.below ax48 hb); clear hb ho56; have hcv57 := own_string (P := Tryz.prog) Tryz.underlying22 Tryz.underlying5 Tryz.underlying9 (Kd.own_of_R HO291.out)) | ((with_reducible refine gate_builtin (b := .append) (xs := #[.tmp 61, .tmp 72]) rfl ?_); (try (refine gate_guard (by rfl) ?_; dsimp only)); at_builtin; refine Kd.R_append Kd.string w.heap.size rfl (.tmp 61) (.tmp 72) 31 9 (.string ⟨#[]⟩) 16 rfl Tryz.underlying31 info9 rfl (by decide) (by omega) u3 x3_2 (strOfNums y289) [.string (strOfNums y289)] (fun _ => True) (fun _ => False) rfl rfl ?aP (fun _ hk => hk.elim) ?aF ?aO (Below.refl _ _) ?aS ?aL ?_; (case aP => exact rfl); (case aF => exact ax27); (case aO => exact (rX HO_3)); (case aS => exact ax55); (case aL => have := LMc54.out; omega); intro v293 w58 ho hb hg hat; rw [← Ny292.out] at ho; have n0_ := am (IsS82.grown ax48 hg (IsS82.own_ne HI0.out HO_3.out (by decide))); have n1_ := am (below_weaken ax51 HL.out hb); have n2_ := am (KeepBut.trans ax50 (KeepBut.of_grown hg g) (Kd.R_base2 HO_3.out)); have n3_ := am (ho); clear HI0; clear HB; clear HK; clear HO_3; have HI0 := n0_; have HB := n1_; have HK := n2_; have HO294 := n3_; clear n0_ n1_ n2_ n3_; clear ho hb hg hat))
         go_roundg k2
         case measure => have := HK1.out; have := HK2.out; omega
         case rel => exact ⟨(y292), (wrap64 (x6_2 + 1)), ax18, H', ⟨ax35⟩, ⟨aU⟩, ⟨ax48⟩, ⟨ax50⟩, ⟨ax49⟩⟩
        ·rw [if_neg c54] at H
         exact absurd H (by simp)
       ·rw [if_neg c53] at H
        have c53b0 := decide_eq_false c53; clear c53; simp only [Option.some.injEq, Prod.mk.injEq] at H; obtain ⟨rfl, rfl, rfl⟩ := H
        go_wp2
        go_ret
        exact ⟨_, ax21, aU, ax48, ax49, ax50⟩
    ·replace c51 := Bool.eq_false_iff.mpr c51
     subst c51; rw [if_neg (show ¬ (false = true) by decide)] at H; simp only [Option.some.injEq, Prod.mk.injEq] at H; obtain ⟨rfl, rfl, rfl⟩ := H
     go_wp2_with (first | ((with_reducible refine gd 56 122 ?_); refine gc 56 Tryz.func122 #[.pointer (some ⟨g, 0, none⟩), .int .i64 40] (spec_l1Cur_one.calls g s0_0 x1001_1 x1002_1 40 false t287 t288 w0 _ ax48 ax51 A50.out) ?_; rintro e w59 ⟨rfl, hi, hb, hk⟩; refine ⟨_, rfl, ?_⟩; replace HO_3 := rK (IsS82.apart (show IsS82 w0 _ g s0_0 x1001_1 x1002_1 from ax48) (rX HO_3) (by decide)) hk; replace HK := am (KeepBut.trans ax50 hk (.inl rfl)); replace HB := am (hb); replace HI0 := am (hi); (try clear hb hk hi)))
     go_ret
     exact ⟨_, ax21, aU, ax48, ax49, ax50⟩

end Go.Proofs.YtcplbbflfgckbaaGreatDoor.X
namespace Go.Proofs.YtcplbbflfgckbaaGreatDoor.X
open Go.RowKit Go.Proofs.YtcplbbflfgckbaaGreatDoorW.PrintWords Go.Proofs.YtcplbbflfgckbaaGreatDoorW.PrintLast Go.Proofs.YtcplbbflfgckbaaGreatDoorW.PrintMore
attribute [local go_sem] max2_int min2_int max_two min_two max_three min_three max_four min_four   -- for this text's walks alone
set_option linter.unusedVariables false
set_option linter.unusedSimpArgs false
set_option maxHeartbeats 8000000
set_option maxRecDepth 100000

/-! ### spec_DrawTrieOf: function 46 -/
def spec_DrawTrieOf.f (k : Nat) (l0 : List Int) : Option (List ByteArray) := (spec_l1Cur_words.f k l0 0 0).bind fun bt296 => (some bt296.1)
theorem spec_DrawTrieOf.calls (k : Nat) (A0 : Option Addr) (c0 : Nat) (l0 : List Int) (r : List ByteArray) (w : World) (hr0 : Kd.C (Kd.int .u8) w A0 l0.length l0) (hc0 : l0.length ≤ c0) (h : spec_DrawTrieOf.f k l0 = some r) :
  Calls Tryz.prog 46 #[.slice A0 l0.length c0] w fun e w' => ∃ v0_ : Value, e = .returned (v0_) ∧ Kd.R Kd.string 9 w' w.heap.size (fun _ => True) v0_ r ∧ Below w.heap.size w w' := by
 have hu82 := Tryz.underlying82; have HR0 := am hr0; have HC0 := am hc0; clear hr0 hc0; have HB := am (Below.refl w.heap.size w)
 unfold spec_DrawTrieOf.f at h
 have H := h; clear h; obtain ⟨⟨t296, t299, t300⟩, A2, H⟩ := bs H; obtain rfl := Option.some.inj H
 go_enter Tryz.func46, Tryz.ntmps46
 go_wp2_with (first | ((with_reducible refine gt 6 ?_); refine bx 6 #[.slice A0 l0.length c0, .int .i64 0, .int .u64 0] 82 ?_; intro gb295 hg w3 hbox hb; have BK295 := am (hbox); have GW295 := uG hg HB; have GE295 := uG hg HB; have HI295 := am ((⟨_, _, hbox, ax36, HR0.out⟩ : IsS82 w w3 gb295 l0 0 0)); replace HB := uB HB hb; clear hb hbox hg) | ((with_reducible refine gd 8 139 ?_); refine gc 8 Tryz.func139 #[.pointer (some ⟨gb295, 0, none⟩)] (spec_l1Cur_words.calls k gb295 l0 0 0 t296 t299 t300 w _ (by repeat (first | (with_reducible first | exact HI295.out | apply IsS82.alloc | apply IsS82.drewN | apply IsS82.drew | apply IsS82.set_1 | apply IsS82.set_2) | exact HI295.out)) ax57 A2.out) ?_; rintro e w4 ⟨v297, rfl, ho0, hi, hb, hk⟩; refine ⟨_, rfl, ?_⟩; have HO298 := am (Kd.R_lower ho0 (below_size ax57)); replace HB := am (hb); replace HI295 := am (hi); (try clear hb hk hi ho0)))
 go_ret
 exact ⟨_, ax21, aU, (by repeat (first | (with_reducible first | exact HB.out | apply below_alloc | apply pw_below_drewN | apply below_drew1 | refine below_set ?_ (Aside0.out ax58) | refine below_set ?_ (IsS82.ge HI295.out)) | exact HB.out))⟩

/-! ### impl_TrieOf_1: function 141 -/
def impl_TrieOf_1.f (a0 : ByteArray) : Option (Bool) := (impl_isWord.f a0).bind fun t301 => (some (!t301))
theorem impl_TrieOf_1.calls (a0 : ByteArray) (r : Bool) (w : World) (h : impl_TrieOf_1.f a0 = some r) :
  Calls Tryz.prog 141 #[.string a0] w fun e w' => e = .returned (.bool r) ∧ Below w.heap.size w w' := by
 have HB := am (Below.refl w.heap.size w)
 unfold impl_TrieOf_1.f at h
 have H := h; clear h; obtain ⟨t301, A2, H⟩ := bs H; obtain rfl := Option.some.inj H
 go_enter Tryz.func141, Tryz.ntmps141
 go_wp2_with (first | ((with_reducible refine gd 4 142 ?_); refine gc 4 Tryz.func142 #[.string a0] (impl_isWord.calls a0 t301 _ A2.out) ?_; rintro e w3 ⟨rfl, hb⟩; refine ⟨_, rfl, ?_⟩; replace HB := uB HB hb; (try clear hb)))
 go_ret
 exact ⟨ax21, aL⟩

/-! ### impl_ofWords: function 143 -/
def impl_ofWords.f (k : Nat) (l0 : List ByteArray) : Option ((List (S74)) × Bool) := (impl_set.f l0).bind fun t303 => (if (t303.length : Int) > 40 then (some (([] : List (S74)), false)) else ((impl_trieOf.f k t303).bind fun t306 => (some (t306, true))))
theorem impl_ofWords.calls (k : Nat) (A0 : Option Addr) (c0 : Nat) (l0 : List ByteArray) (r1 : List (S74)) (r2 : Bool) (w : World) (hr0 : Kd.C Kd.string w A0 l0.length l0) (hc0 : l0.length ≤ c0) (h : impl_ofWords.f k l0 = some (r1, r2)) :
  Calls Tryz.prog 143 #[.slice A0 l0.length c0] w fun e w' => ∃ v0_ : Value, e = .returned (.tuple #[.agg #[v0_], .bool r2]) ∧ Kd.R k74 74 w' w.heap.size (fun _ => True) v0_ r1 ∧ Below w.heap.size w w' := by
 have hu26 := Tryz.underlying26; have HR0 := am hr0; have HC0 := am hc0; clear hr0 hc0; have HB := am (Below.refl w.heap.size w)
 unfold impl_ofWords.f at h
 have H := h; clear h; obtain ⟨t303, A2, H⟩ := bs H
 by_cases c3 : (t303.length : Int) > 40
 ·rw [if_pos c3] at H
  have c3b0 := decide_eq_true c3; have c3b1 : decide (40 < t303.length) = true := decide_eq_true (by omega); clear c3; simp only [Option.some.injEq, Prod.mk.injEq] at H; obtain ⟨rfl, rfl⟩ := H
  go_enter Tryz.func143, Tryz.ntmps143
  go_wp2_with (first | ((with_reducible refine gt 2 ?_); refine bx 2 #[.slice none 0 0] 26 ?_; intro gb302 hg w4 hbox hb; have BK302 := am (hbox); have GW302 := uG hg HB; have GE302 := uG hg HB; replace HB := uB HB hb; clear hb hbox hg) | ((with_reducible refine gd 6 206 ?_); refine gc 6 Tryz.func206 #[.slice A0 l0.length c0] (impl_set.calls _ _ l0 t303 _ ax42 (HC0.out) A2.out) ?_; rintro e w5 ⟨v304, rfl, ho0, hb⟩; refine ⟨_, rfl, ?_⟩; have HO305 := am (Kd.R_lower ho0 (bS HB)); replace BK302 := ub BK302 hb; replace HB := uS HB hb; (try clear hb ho0); obtain ⟨Ao6, co6, rfl⟩ := Kd.R_slice HO305.out; obtain ⟨hcz7_0, hfz7_0⟩ := bz (.slice none 0 0) BK302))
  refine bodyPost_ret (results_ct rfl _ _ gb302 26 #[.slice none 0 0] (0, 0) _ rfl ax59 Tryz.underlying26 rfl (by kernel_rfl)) rfl ?_
  exact ⟨_, ax21, ax29, aL⟩
 ·rw [if_neg c3] at H
  have c3b0 := decide_eq_false c3; have c3b1 : decide (40 < t303.length) = false := decide_eq_false (by omega); clear c3; obtain ⟨t306, A8, H⟩ := bs H; simp only [Option.some.injEq, Prod.mk.injEq] at H; obtain ⟨rfl, rfl⟩ := H
  go_enter Tryz.func143, Tryz.ntmps143
  go_wp2_with (first | ((with_reducible refine gt 2 ?_); refine bx 2 #[.slice none 0 0] 26 ?_; intro gb302 hg w9 hbox hb; have BK302 := am (hbox); have GW302 := uG hg HB; have GE302 := uG hg HB; replace HB := uB HB hb; clear hb hbox hg) | ((with_reducible refine gd 6 206 ?_); refine gc 6 Tryz.func206 #[.slice A0 l0.length c0] (impl_set.calls _ _ l0 t303 _ ax42 (HC0.out) A2.out) ?_; rintro e w10 ⟨v304, rfl, ho0, hb⟩; refine ⟨_, rfl, ?_⟩; have HO305 := am (Kd.R_lower ho0 (bS HB)); replace BK302 := ub BK302 hb; replace HB := uS HB hb; (try clear hb ho0); obtain ⟨Ao11, co11, rfl⟩ := Kd.R_slice HO305.out) | ((with_reducible refine gd 12 150 ?_); refine gc 12 Tryz.func150 #[.slice Ao11 t303.length co11] (impl_trieOf.calls k _ _ t303 t306 _ (rd2 HO305) (rl HO305) A8.out) ?_; rintro e w12 ⟨v307, rfl, ho0, hb⟩; refine ⟨_, rfl, ?_⟩; replace HO305 := uR HO305 hb; have HO308 := am (Kd.R_lower ho0 (bS HB)); replace BK302 := ub BK302 hb; replace HB := uS HB hb; (try clear hb ho0); obtain ⟨Ao13, co13, rfl⟩ := Kd.R_slice HO308.out; obtain ⟨hcz14_0, hfz14_0⟩ := bz (.slice none 0 0) BK302))
  refine bodyPost_ret (results_ct rfl _ _ gb302 26 #[.slice Ao13 t306.length co13] (0, 0) _ rfl ax59 Tryz.underlying26 rfl (by kernel_rfl)) rfl ?_
  exact ⟨_, ax21, aU, aL⟩

/-! ### impl_TrieOf: function 47 -/
def impl_TrieOf.f (k : Nat) (l0 : List ByteArray) : Option ((List (S74)) × Bool) := (slices_ContainsFunc_string_string.f l0 (fun z_ => impl_TrieOf_1.f z_)).bind fun t310 => (if t310 = true then (some (([] : List (S74)), false)) else ((impl_ofWords.f k l0).bind fun bt311 => (some (bt311.1, bt311.2))))
theorem impl_TrieOf.calls (k : Nat) (A0 : Option Addr) (c0 : Nat) (l0 : List ByteArray) (r1 : List (S74)) (r2 : Bool) (w : World) (hr0 : Kd.C Kd.string w A0 l0.length l0) (hc0 : l0.length ≤ c0) (h : impl_TrieOf.f k l0 = some (r1, r2)) :
  Calls Tryz.prog 47 #[.slice A0 l0.length c0] w fun e w' => ∃ v0_ : Value, e = .returned (.tuple #[.agg #[v0_], .bool r2]) ∧ Kd.R k74 74 w' w.heap.size (fun _ => True) v0_ r1 ∧ Below w.heap.size w w' := by
 have hu26 := Tryz.underlying26; have HR0 := am hr0; have HC0 := am hc0; clear hr0 hc0; have HB := am (Below.refl w.heap.size w)
 unfold impl_TrieOf.f at h
 have H := h; clear h; obtain ⟨t310, A2, H⟩ := bs H
 by_cases c3 : t310 = true
 ·subst c3
  rw [if_pos rfl] at H; simp only [Option.some.injEq, Prod.mk.injEq] at H; obtain ⟨rfl, rfl⟩ := H
  go_enter Tryz.func47, Tryz.ntmps47
  go_wp2_with (first | ((with_reducible refine gt 2 ?_); refine bx 2 #[.slice none 0 0] 26 ?_; intro gb309 hg w4 hbox hb; have BK309 := am (hbox); have GW309 := uG hg HB; have GE309 := uG hg HB; replace HB := uB HB hb; clear hb hbox hg) | ((with_reducible refine gd 5 140 ?_); refine gc 5 Tryz.func140 #[.slice A0 l0.length c0, .func (.func 141) #[] #[]] (slices_ContainsFunc_string_string.calls _ _ l0 (fun z_ => impl_TrieOf_1.f z_) true _ ax42 (HC0.out) (enters_of Tryz.func141 (by kernel_rfl) rfl) ax60 A2.out) ?_; rintro e w5 ⟨rfl, hb⟩; refine ⟨_, rfl, ?_⟩; replace BK309 := ub BK309 hb; replace HB := uS HB hb; (try clear hb); obtain ⟨hcz6_0, hfz6_0⟩ := bz (.slice none 0 0) BK309))
  refine bodyPost_ret (results_ct rfl _ _ gb309 26 #[.slice none 0 0] (0, 0) _ rfl ax61 Tryz.underlying26 rfl (by kernel_rfl)) rfl ?_
  exact ⟨_, ax21, ax29, aL⟩
 ·replace c3 := Bool.eq_false_iff.mpr c3
  subst c3; rw [if_neg (show ¬ (false = true) by decide)] at H; obtain ⟨⟨t311, t314⟩, A7, H⟩ := bs H; simp only [Option.some.injEq, Prod.mk.injEq] at H; obtain ⟨rfl, rfl⟩ := H
  go_enter Tryz.func47, Tryz.ntmps47
  go_wp2_with (first | ((with_reducible refine gt 2 ?_); refine bx 2 #[.slice none 0 0] 26 ?_; intro gb309 hg w8 hbox hb; have BK309 := am (hbox); have GW309 := uG hg HB; have GE309 := uG hg HB; replace HB := uB HB hb; clear hb hbox hg) | ((with_reducible refine gd 5 140 ?_); refine gc 5 Tryz.func140 #[.slice A0 l0.length c0, .func (.func 141) #[] #[]] (slices_ContainsFunc_string_string.calls _ _ l0 (fun z_ => impl_TrieOf_1.f z_) false _ ax42 (HC0.out) (enters_of Tryz.func141 (by kernel_rfl) rfl) ax60 A2.out) ?_; rintro e w9 ⟨rfl, hb⟩; refine ⟨_, rfl, ?_⟩; replace BK309 := ub BK309 hb; replace HB := uS HB hb; (try clear hb)) | ((with_reducible refine gd 8 143 ?_); refine gc 8 Tryz.func143 #[.slice A0 l0.length c0] (impl_ofWords.calls k _ _ l0 t311 t314 _ ax42 (HC0.out) A7.out) ?_; rintro e w10 ⟨v312, rfl, ho0, hb⟩; refine ⟨_, rfl, ?_⟩; have HO313 := am (Kd.R_lower ho0 (bS HB)); replace BK309 := ub BK309 hb; replace HB := uS HB hb; (try clear hb ho0); obtain ⟨Ao11, co11, rfl⟩ := Kd.R_slice HO313.out; obtain ⟨hcz12_0, hfz12_0⟩ := bz (.slice none 0 0) BK309))
  refine bodyPost_ret (results_ct rfl _ _ gb309 26 #[.slice Ao11 t311.length co11] (0, 0) _ rfl ax61 Tryz.underlying26 rfl (by kernel_rfl)) rfl ?_
  exact ⟨_, ax21, aU, aL⟩

/-! ### spec_l2Has: function 114 -/
def spec_l2Has.l0 : Nat → List ByteArray → ByteArray → Int → Option (Bool)
 | 0, _, _, _ => none
 | k + 1, x0, x1, x5 => if x5 < (x0.length : Int) then (if 0 ≤ x5 then (if (rdOf ByteArray.empty x0 x5).toList = x1.toList then (some true) else (spec_l2Has.l0 k x0 x1 (wrap64 (x5 + 1)))) else (none)) else (some false)
def spec_l2Has.f (k : Nat) (l0 : List ByteArray) (a1 : ByteArray) : Option (Bool) := spec_l2Has.l0 k l0 a1 0
theorem spec_l2Has.calls (k : Nat) (A0 : Option Addr) (c0 : Nat) (l0 : List ByteArray) (a1 : ByteArray) (r : Bool) (w : World) (hr0 : Kd.C Kd.string w A0 l0.length l0) (hc0 : l0.length ≤ c0) (h : spec_l2Has.f k l0 a1 = some r) :
  Calls Tryz.prog 114 #[.slice A0 l0.length c0, .string a1] w fun e w' => e = .returned (.bool r) ∧ Drawn0 w w' := by
 have HR0 := am hr0; have HC0 := am hc0; clear hr0 hc0
 unfold spec_l2Has.f at h
 have H := h; clear h; have H' := am H; clear H
 go_enter Tryz.func114, Tryz.ntmps114
 go_wp2
 go_loopg [5] k (fun kq v5 w' => ∃ (x5_1 : Int), v5 = .int .i64 x5_1 ∧ Aside0 (spec_l2Has.l0 kq l0 a1 x5_1 = some r) ∧ Aside0 (kq ≤ k) ∧ Drawn0 w w')
 case atStart => exact ⟨(0), ax18, H', ⟨Nat.le_refl _⟩, by repeat (first | exact Drawn0.refl _ | apply Drawn0.step)⟩
 case round =>
  clear H'; obtain ⟨x5_1, rfl, HA, HK1, ⟨m1, rfl⟩⟩ := hrel
  cases gk with
  | zero => exact absurd HA.out (by simp [spec_l2Has.l0])
  | succ k1 =>
   have H := HA.out; clear HA; simp only [spec_l2Has.l0] at H
   by_cases c3 : x5_1 < (l0.length : Int)
   ·rw [if_pos c3] at H
    have c3b0 := decide_eq_true c3; clear c3
    by_cases c4 : 0 ≤ x5_1
    ·rw [if_pos c4] at H
     have c4b0 := decide_eq_true c4; clear c4
     by_cases c5 : (rdOf ByteArray.empty l0 x5_1).toList = a1.toList
     ·rw [if_pos c5] at H
      have c5b0 := beq_iff_eq.mpr c5; have c5b1 := bne_eq_false_iff_eq.mpr c5; clear c5; obtain rfl := Option.some.inj H; have p315 : 0 ≤ (x5_1 : Int) := of_decide_eq_true ax23; have q315 : x5_1 < (l0.length : Int) := of_decide_eq_true ax23; obtain ⟨ad315, e315, hx315_0⟩ := Kd.at_string HR0.out x5_1 p315 q315
      cases e315
      replace p315 := eq_true p315; replace q315 := eq_true q315
      go_wp2
      go_ret
      exact ⟨ax18, ax19⟩
     ·rw [if_neg c5] at H
      have c5b0 := beq_eq_false_iff_ne.mpr c5; have c5b1 := bne_iff_ne.mpr c5; have H' := am H; clear H; have p315 : 0 ≤ (x5_1 : Int) := of_decide_eq_true ax23; have q315 : x5_1 < (l0.length : Int) := of_decide_eq_true ax23; obtain ⟨ad315, e315, hx315_0⟩ := Kd.at_string HR0.out x5_1 p315 q315
      cases e315
      replace p315 := eq_true p315; replace q315 := eq_true q315
      go_wp2
      go_roundg k1
      case measure => have := HK1.out; omega
      case rel => exact ⟨(wrap64 (x5_1 + 1)), ax18, H', ⟨by have := HK1.out; omega⟩, ax19⟩
    ·exact ax2
   ·exact ax12
/-! ### spec_l2Own: function 154 -/
def spec_l2Own.f (l0 : List ByteArray) : Option (List ByteArray) := (some (([] : List ByteArray) : List ByteArray)).bind fun y316 => (if y316.length + l0.length < 8796093022208 then (some (y316 ++ l0)) else (none))
theorem spec_l2Own.calls (A0 : Option Addr) (c0 : Nat) (l0 : List ByteArray) (r : List ByteArray) (w : World) (hr0 : Kd.C Kd.string w A0 l0.length l0) (hc0 : l0.length ≤ c0) (h : spec_l2Own.f l0 = some r) :
  Calls Tryz.prog 154 #[.slice A0 l0.length c0] w fun e w' => ∃ v0_ : Value, e = .returned (v0_) ∧ Kd.R Kd.string 9 w' w.heap.size (fun _ => True) v0_ r ∧ Below w.heap.size w w' := by
 have HR0 := am hr0; have HC0 := am hc0; clear hr0 hc0; have HB := am (Below.refl w.heap.size w)
 unfold spec_l2Own.f at h
 have H := h; clear h; obtain ⟨y316, hy316⟩ : ∃ y_ : List ByteArray, y_ = (([] : List ByteArray)) := ⟨_, rfl⟩
 replace H : (if y316.length + l0.length < 8796093022208 then (some (y316 ++ l0)) else (none)) = some r := by first | (rw [hy316]; with_reducible exact H) | (have H2_ := (Option.bind_some _ _).symm.trans H; rw [hy316]; with_reducible exact H2_) | (have H2_ := (Option.bind_some _ _).symm.trans H; with_reducible exact H2_) | with_reducible exact H | (rw [hy316]; exact H) | exact H
 have Ny316 := am hy316; clear hy316
 by_cases c2 : y316.length + l0.length < 8796093022208
 ·rw [if_pos c2] at H
  have LMc2 := am c2; clear c2; obtain ⟨y319, hy319⟩ : ∃ y_ : List ByteArray, y_ = (y316 ++ l0) := ⟨_, rfl⟩
  replace H : (some y319) = some r := by first | (rw [hy319]; with_reducible exact H) | (have H2_ := (Option.bind_some _ _).symm.trans H; rw [hy319]; with_reducible exact H2_) | (have H2_ := (Option.bind_some _ _).symm.trans H; with_reducible exact H2_) | with_reducible exact H | (rw [hy319]; exact H) | exact H
  have Ny319 := am hy319; clear hy319; obtain rfl := Option.some.inj H
  go_enter Tryz.func154, Tryz.ntmps154
  go_wp2_with (first | ((with_reducible refine gt 3 ?_); refine Kd.R_lit Kd.string _ 9 ?hg (N := 3) ?hd (xs := ([] : List ByteArray)) (inner := []) (ok := fun _ => True) (okp := fun _ => True) ?hr ?hp (fun _ hk => hk) trivial (Below.refl _ _) (Nat.le_refl _) (by simp) ?_; (case hd => rfl); (case hg => rfl); (case hr => exact ax20); (case hp => exact ax31); intro v317 w3 ho4 hb hg_ hnew_; clear hg_ hnew_; (first | rw [← Ny316.out] at ho4 | (simp only [Int.reduceToNat] at ho4; rw [← Ny316.out] at ho4)); have HO318 := uL ho4 HB; replace HB := uB HB hb; clear hb ho4) | ((with_reducible refine gate_builtin (b := .append) (xs := #[.tmp 3, .tmp 4]) rfl ?_); at_builtin; refine Kd.R_append_rows Kd.string (w0 := w) w.heap.size rfl (.tmp 3) (.tmp 4) 31 9 (.string ⟨#[]⟩) 16 rfl Tryz.underlying31 info9 rfl (by decide) (by omega) v317 y316 l0 _ _ _ (fun _ => True) (fun _ => False) rfl rfl ?aO ?aR (fun _ _ h => h) (fun _ h => h.elim) ?aF ?aB ?aS ?aL ?_; (case aR => exact ax42); (case aB => exact aL); (case aF => exact ax27); (case aO => exact (rX HO318)); (case aS => exact ax28); (case aL => have := LMc2.out; omega); intro v320 w5 ho hb hg hat; rw [← Ny319.out] at ho; have n0_ := am (hb); have n1_ := am (ho); clear HB; clear HO318; have HB := n0_; have HO321 := n1_; clear n0_ n1_; clear ho hb hg hat))
  go_ret
  exact ⟨_, ax21, aU, aL⟩
 ·rw [if_neg c2] at H
  exact absurd H (by simp)

/-! ### spec_l2Before: function 170 -/
mutual
def spec_l2Before.l0 : Nat → ByteArray → ByteArray → Int → Option (Bool)
 | 0, _, _, _ => none
 | k + 1, x0, x1, x5 => if x5 < (x0.size : Int) then (spec_l2Before.j1 k x0 x1 x5 (decide (x5 < (x1.size : Int)))) else (spec_l2Before.j1 k x0 x1 x5 false)
def spec_l2Before.j1 : Nat → ByteArray → ByteArray → Int → Bool → Option (Bool)
 | 0, _, _, _, _ => none
 | k + 1, x0, x1, x5, x15 => if x15 = true then (if 0 ≤ x5 then (if x5 < (x0.size : Int) then (if x5 < (x1.size : Int) then (if (bt x0 x5) = (bt x1 x5) then (spec_l2Before.l0 k x0 x1 (wrap64 (x5 + 1))) else (some (decide ((bt x0 x5) < (bt x1 x5))))) else (none)) else (none)) else (none)) else (some (decide ((x0.size : Int) < (x1.size : Int))))
end
def spec_l2Before.f (k : Nat) (a0 : ByteArray) (a1 : ByteArray) : Option (Bool) := spec_l2Before.l0 k a0 a1 0
theorem spec_l2Before.calls (k : Nat) (a0 : ByteArray) (a1 : ByteArray) (r : Bool) (w : World) (h : spec_l2Before.f k a0 a1 = some r) :
  Calls Tryz.prog 170 #[.string a0, .string a1] w fun e w' => e = .returned (.bool r) ∧ Drawn0 w w' := by
 unfold spec_l2Before.f at h
 have H := h; clear h; have H' := am H; clear H
 go_enter Tryz.func170, Tryz.ntmps170
 go_wp2
 repeat (go_quiet (fail); try go_wp2)
 go_loopg [5] k (fun kq v5 w' => ∃ (x5_1 : Int), v5 = .int .i64 x5_1 ∧ Aside0 (spec_l2Before.l0 kq a0 a1 x5_1 = some r) ∧ Aside0 (kq ≤ k) ∧ Drawn0 w w')
 case atStart => exact ⟨(0), ax18, H', ⟨Nat.le_refl _⟩, by repeat (first | exact Drawn0.refl _ | apply Drawn0.step)⟩
 case round =>
  clear H'; obtain ⟨x5_1, rfl, HA, HK1, ⟨m1, rfl⟩⟩ := hrel
  cases gk with
  | zero => exact absurd HA.out (by simp [spec_l2Before.l0])
  | succ k1 =>
   have H := HA.out; clear HA; simp only [spec_l2Before.l0] at H; have HC3 := am H; clear H
   go_upto_region 2 with (fail)
   repeat (go_quiet (fail); go_upto_region 2 with (fail))
   go_cut [15] (fun v15 wc => ∃ (kq : Nat) (x15_2 : Bool), v15 = .bool x15_2 ∧ Aside0 (spec_l2Before.j1 kq a0 a1 x5_1 x15_2 = some r) ∧ Aside0 (kq ≤ k1) ∧ Drawn0 w wc)
   case first =>
    have H := HC3.out; clear HC3
    by_cases c4 : x5_1 < (a0.size : Int)
    ·rw [if_pos c4] at H
     have c4b0 := decide_eq_true c4; clear c4; (first | rw [c4b0] | (simp only [i64_w, i32_w]; rw [c4b0]) | skip); have H' := am H; clear H
     go_wp2
     repeat (go_quiet (fail); try go_wp2)
     go_meet
     case rel => exact ⟨_, (decide (x5_1 < (a1.size : Int))), ax18, H', ⟨ax52⟩, ax19⟩
    ·rw [if_neg c4] at H
     have c4b0 := decide_eq_false c4; clear c4; (first | rw [c4b0] | (simp only [i64_w, i32_w]; rw [c4b0]) | skip); have H' := am H; clear H
     go_wp2
     repeat (go_quiet (fail); try go_wp2)
     go_meet
     case rel => exact ⟨_, (false), ax18, H', ⟨ax52⟩, ax19⟩
   case rest =>
    clear HC3; obtain ⟨kq, x15_2, rfl, HA, HJ2, ⟨mc2, rfl⟩⟩ := hcut
    cases kq with
    | zero => exact absurd HA.out (by simp [spec_l2Before.j1])
    | succ kj2 =>
     have H := HA.out; clear HA; simp only [spec_l2Before.j1] at H
     by_cases c5 : x15_2 = true
     ·subst c5
      rw [if_pos rfl] at H
      by_cases c6 : 0 ≤ x5_1
      ·rw [if_pos c6] at H
       have c6b0 := decide_eq_true c6; clear c6
       by_cases c7 : x5_1 < (a0.size : Int)
       ·rw [if_pos c7] at H
        have c7b0 := decide_eq_true c7; clear c7
        by_cases c9 : x5_1 < (a1.size : Int)
        ·rw [if_pos c9] at H
         have c9b0 := decide_eq_true c9; clear c9
         by_cases c11 : (bt a0 x5_1) = (bt a1 x5_1)
         ·rw [if_pos c11] at H
          have c11b0 := beq_iff_eq.mpr c11; have c11b1 := bne_eq_false_iff_eq.mpr c11; clear c11; have H' := am H; clear H; have p8 : 0 ≤ (x5_1 : Int) := of_decide_eq_true ax23; have q8 : x5_1 < (a0.size : Int) := of_decide_eq_true ax23; have hx8 := bt_at a0 x5_1; replace p8 := eq_true p8; replace q8 := eq_true q8; have p10 : 0 ≤ (x5_1 : Int) := of_decide_eq_true ax23; have q10 : x5_1 < (a1.size : Int) := of_decide_eq_true ax23; have hx10 := bt_at a1 x5_1; replace p10 := eq_true p10; replace q10 := eq_true q10
          go_wp2
          repeat (go_quiet (fail); try go_wp2)
          go_roundg kj2
          case measure => have := HK1.out; have := HJ2.out; omega
          case rel => exact ⟨(wrap64 (x5_1 + 1)), ax18, H', ⟨(by have := HK1.out; have := HJ2.out; omega)⟩, ax19⟩
         ·rw [if_neg c11] at H
          have c11b0 := beq_eq_false_iff_ne.mpr c11; have c11b1 := bne_iff_ne.mpr c11; obtain rfl := Option.some.inj H; have p8 : 0 ≤ (x5_1 : Int) := of_decide_eq_true ax23; have q8 : x5_1 < (a0.size : Int) := of_decide_eq_true ax23; have hx8 := bt_at a0 x5_1; replace p8 := eq_true p8; replace q8 := eq_true q8; have p10 : 0 ≤ (x5_1 : Int) := of_decide_eq_true ax23; have q10 : x5_1 < (a1.size : Int) := of_decide_eq_true ax23; have hx10 := bt_at a1 x5_1; replace p10 := eq_true p10; replace q10 := eq_true q10; have p12 : 0 ≤ (x5_1 : Int) := of_decide_eq_true ax23; have q12 : x5_1 < (a0.size : Int) := of_decide_eq_true ax23; have hx12 := bt_at a0 x5_1; replace p12 := eq_true p12; replace q12 := eq_true q12; have p13 : 0 ≤ (x5_1 : Int) := of_decide_eq_true ax23; have q13 : x5_1 < (a1.size : Int) := of_decide_eq_true ax23; have hx13 := bt_at a1 x5_1; replace p13 := eq_true p13; replace q13 := eq_true q13
          go_wp2
          repeat (go_quiet (fail); try go_wp2)
          go_ret
          exact ⟨ax18, ax19⟩
        ·exact ax13
       ·exact ax7
      ·exact ax5
     ·replace c5 := Bool.eq_false_iff.mpr c5
      subst c5; rw [if_neg (show ¬ (false = true) by decide)] at H; obtain rfl := Option.some.inj H
      go_wp2
      repeat (go_quiet (fail); try go_wp2)
      go_ret
      exact ⟨ax18, ax19⟩

end Go.Proofs.YtcplbbflfgckbaaGreatDoor.X

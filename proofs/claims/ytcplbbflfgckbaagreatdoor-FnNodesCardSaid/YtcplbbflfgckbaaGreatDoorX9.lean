-- By gen.py (the session's own program over the kit's printer): functions of the program, each with its contract. Lean checks it.
import Derived.Test.YtcplbbflfgckbaaGreatDoorX0
import Derived.Test.YtcplbbflfgckbaaGreatDoorX2
import Derived.Test.YtcplbbflfgckbaaGreatDoorX4
import Derived.Test.YtcplbbflfgckbaaGreatDoorX5
import Derived.Test.YtcplbbflfgckbaaGreatDoorX6
import Derived.Test.YtcplbbflfgckbaaGreatDoorX8
namespace Go.Proofs.YtcplbbflfgckbaaGreatDoor.X
open Go.RowKit Go.Proofs.YtcplbbflfgckbaaGreatDoorW.PrintWords Go.Proofs.YtcplbbflfgckbaaGreatDoorW.PrintLast Go.Proofs.YtcplbbflfgckbaaGreatDoorW.PrintMore
attribute [local go_sem] max2_int min2_int max_two min_two max_three min_three max_four min_four   -- for this text's walks alone
set_option linter.unusedVariables false
set_option linter.unusedSimpArgs false

/-! ### spec_l2Trie: function 113 -/
def spec_l2Trie.f (k : Nat) (l0_0 : List (S74)) : Option (Bool) := (spec_l1In.f (l0_0.length : Int) 1 481).bind fun t350 => (if t350 = true then ((spec_l2Words.f k l0_0).bind fun t351 => ((spec_l2Set.f k t351).bind fun bt354 => (if bt354.2 = true then ((spec_l2Of.f k bt354.1).bind fun t358 => ((spec_l2Same.f k t358 l0_0).bind fun t361 => (some t361))) else (some false)))) else (some false))
def spec_l2Trie.T4 : Bool × List (List Nat × List Nat) := (true, [([], []), ([0], [0]), ([1], [1]), ([2, 1, 1], [1, 2]), ([1], [1]), ([3, 4, 3, 1], [1, 3, 4]), ([1, 5], [1, 5]), ([6, 5, 0, 1, 2, 3, 4, 5, 6], [6])])
def spec_l2Trie.B4 : List Nat := [0, 1, 3, 7, 3, 31, 63, 127]
theorem spec_l2Trie.tab4 : rtab .any (opsOf Tryz.f113 4) = spec_l2Trie.T4 := by kernel_rfl
theorem spec_l2Trie.bits4 : waitsOk spec_l2Trie.T4.2 spec_l2Trie.B4 = true := by kernel_rfl
set_option maxHeartbeats 8000000 in
set_option maxRecDepth 100000 in
theorem spec_l2Trie.calls (k : Nat) (A0_0 : Option Addr) (c0_0 : Nat) (l0_0 : List (S74)) (r : Bool) (w : World) (hr0_0 : Kd.C k74 w A0_0 l0_0.length l0_0) (hc0_0 : l0_0.length ≤ c0_0) (h : spec_l2Trie.f k l0_0 = some r) :
  Calls Tryz.prog 113 #[.agg #[.slice A0_0 l0_0.length c0_0]] w fun e w' => e = .returned (.bool r) ∧ Below w.heap.size w w' := by
 have hu26 := Tryz.underlying26; have HR0_0 := am hr0_0; have HC0_0 := am hc0_0; clear hr0_0 hc0_0; have HB := am (Below.refl w.heap.size w)
 unfold spec_l2Trie.f at h
 have H := h; clear h; obtain ⟨t350, A2, H⟩ := bs H
 by_cases c3 : t350 = true
 ·subst c3
  rw [if_pos rfl] at H; obtain ⟨t351, A4, H⟩ := bs H; obtain ⟨⟨t354, t357⟩, A5, H⟩ := bs H
  by_cases c6 : t357 = true
  ·subst c6
   rw [if_pos rfl] at H; obtain ⟨t358, A7, H⟩ := bs H; obtain ⟨t361, A8, H⟩ := bs H; obtain rfl := Option.some.inj H
   go_enter Tryz.func113, Tryz.ntmps113
   try go_wp2_with (first | ((with_reducible refine gate_dst (N := 1) rfl ?_); refine bx 1 #[.slice A0_0 l0_0.length c0_0] 26 ?_; intro gb349 hg w9 hbox hb; have BK349 := am (hbox); have GW349 := uG hg HB; have GE349 := uG hg HB; replace HB := uB HB hb; clear hb hbox hg; have hcz10_0 := bc (.slice A0_0 l0_0.length c0_0) BK349 0; have hfz10_0 := blk_frozen BK349.out 0) | ((with_reducible refine gd 8 132 ?_); refine gc 8 Tryz.func132 #[.int .i64 (l0_0.length : Int), .int .i64 1, .int .i64 481] (spec_l1In.calls (l0_0.length : Int) 1 481 true _ A2.out) ?_; rintro e w' ⟨rfl, ⟨nd, rfl⟩⟩; refine ⟨_, rfl, ?_⟩) | ((with_reducible refine gd 12 115 ?_); refine gc 12 Tryz.func115 #[.agg #[.slice A0_0 l0_0.length c0_0]] (spec_l2Words.calls k _ _ l0_0 t351 _ ax152 (HC0_0.out) A4.out) ?_; rintro e w11 ⟨v352, rfl, ho0, hb⟩; refine ⟨_, rfl, ?_⟩; have HO353 := am (Kd.R_lower ho0 (below_size ax153)); replace BK349 := ub BK349 hb; replace HB := am (below_step ax153 hb); (try clear hb ho0); obtain ⟨Ao12, co12, eo12⟩ := Kd.R_slice HO353.out; subst eo12) | ((with_reducible refine gd 13 144 ?_); refine gc 13 Tryz.func144 #[.slice Ao12 t351.length co12] (spec_l2Set.calls k _ _ t351 t354 true _ ax154 ((Kd.R_reads' HO353.out).2.1) A5.out) ?_; rintro e w13 ⟨v355, rfl, ho0, hb⟩; refine ⟨_, rfl, ?_⟩; have HO356 := am (Kd.V_lower (Kd.V_mono (ok' := fun k_ => some k_ ≠ (.slice Ao12 t351.length co12 : Value).ownBlock ∧ k_ ≠ gb349) ho0 (fun k_ hk_ => ⟨(Kd.fresh' (Kd.R_lt ax155) k_ hk_), (Kd.freshB (g := gb349) (o := .cells #[.slice A0_0 l0_0.length c0_0] 26 (0, 0)) ax156 k_ hk_)⟩)) (below_size ax153)); replace HO353 := uR HO353 hb; replace BK349 := ub BK349 hb; replace HB := am (below_step ax153 hb); (try clear hb ho0)))
   replace HO353 := am (Kd.R_drew HO353.out); replace HO356 := am (Kd.V_drew HO356.out); replace BK349 := am (blk_drew BK349.out); replace HB := am (below_drew1 HB.out); obtain ⟨Ao15, co15, eo15⟩ := Kd.V_slice HO356.out; (first | subst eo15 | (injection eo15 with f1_ f2_ f3_; have f4_ := f1_.symm; have f5_ := f3_.symm; clear f1_ f2_ f3_; subst f4_; subst f5_)); refine start_ (n := 8) (S := fun w' => w'.cell? ⟨gb349, 0, none⟩ = some (.slice A0_0 l0_0.length c0_0)) (ds := []) (ob 8 0) (by kernel_rfl) rfl rfl ((blk_cell BK349.out 0).trans rfl) (fun hHeld => ?_); refine with_tabW spec_l2Trie.tab4 spec_l2Trie.bits4 (fun HT_ HW_ => ?_); generalize w13.drew = w14 at HO353 HO356 BK349 HB hHeld ⊢; refine pu 0 16 ?_; refine pu 1 17 ?_; refine pu 2 18 ?_; refine take_ (i := 4) (N := some 20) (v := ?_) (a' := ?_) (ob 8 23) rfl rfl (take_ofW HT_.out HW_.out (by kernel_rfl)) (fun _ _ _ h => h) (Or.inl ⟨by rfl, ?_⟩) hHeld ?_ ?_
   rotate_left
   ·exact ax14
   rotate_left
   ·exact ax15
   refine one_ (i := 3) (N := some 19) (ob 8 31) rfl rfl (one_of HT_.out (by kernel_rfl)) (by decide) (fun K hK => ?_); refine goes_ Tryz.func123 (by kernel_rfl) rfl #[.slice Ao15 t354.length co15] (by rfl) rfl rfl ax42 ?_
   with_reducible refine (spec_l2Of.calls k _ _ t354 t358 _ ?side1 ?side2 A7.out).mono ?_
   (case side1 => repeat (first | exact (Kd.V_reads' HO356.out).2.2 | (with_reducible refine Kd.C_alloc ?_ _) | (with_reducible refine Kd.C_drewN ?_ _) | (with_reducible refine Kd.C_drew ?_)))
   (case side2 => exact (Kd.V_reads' HO356.out).2.1)
   rintro e w16 ⟨v359, rfl, ho0, hb⟩; refine ⟨_, rfl, ?_⟩; replace HO353 := uR HO353 hb; replace HO356 := am (Kd.V_elder' ax157 (Kd.R_base ho0) hb); have HO360 := am (Kd.R_lower ho0 (below_size ax153)); replace BK349 := ub BK349 hb; replace HB := am (below_step ax153 hb); (try clear hb); (try clear hb2); (try clear hk); (try clear hi); (try clear ho0); obtain ⟨Ao17, co17, eo17⟩ := Kd.R_slice HO360.out; (first | subst eo17 | (injection eo17 with f1_ f2_ f3_; have f4_ := f1_.symm; have f5_ := f3_.symm; clear f1_ f2_ f3_; subst f4_; subst f5_)); refine hK.out _ _ ((blk_cell BK349.out 0).trans rfl) (fun hHeld => ?_); clear hK K; refine nm 19 ?_; refine one_ (i := 5) (N := some 21) (ob 8 63) rfl rfl (one_of HT_.out (by kernel_rfl)) (by decide) (fun K hK => ?_); refine goes_ Tryz.func193 (by kernel_rfl) rfl #[.agg #[.slice Ao17 t358.length co17], .agg #[.slice A0_0 l0_0.length c0_0]] (by rfl) rfl rfl ax42 ?_
   with_reducible refine (spec_l2Same.calls k _ _ t358 _ _ l0_0 t361 _ ?side1 ?side2 ?side3 ?side4 A8.out).mono ?_
   (case side1 => repeat (first | exact (Kd.R_reads' HO360.out).2.2 | (with_reducible refine Kd.C_alloc ?_ _) | (with_reducible refine Kd.C_drewN ?_ _) | (with_reducible refine Kd.C_drew ?_)))
   (case side2 => exact (Kd.R_reads' HO360.out).2.1)
   (case side3 => exact ax145)
   (case side4 => exact ax158)
   rintro e w18 ⟨rfl, hb⟩; refine ⟨_, rfl, ?_⟩; replace HO353 := uR HO353 hb; replace HO356 := am (Kd.V_below ax157 hb); replace HO360 := uR HO360 hb; replace BK349 := ub BK349 hb; replace HB := am (below_step ax153 hb); (try clear hb); (try clear hb2); (try clear hk); (try clear hi); refine hK.out _ _ ((blk_cell BK349.out 0).trans rfl) (fun hHeld => ?_); clear hK K; refine nm 21 ?_; refine pu 6 22 ?_; refine pu 7 2 ?_; refine dn ?_
   try go_wp2
   go_ret
   exact ⟨ax27, ax153⟩
  ·replace c6 := Bool.eq_false_iff.mpr c6
   subst c6; rw [if_neg (show ¬ (false = true) by decide)] at H; obtain rfl := Option.some.inj H
   go_enter Tryz.func113, Tryz.ntmps113
   try go_wp2_with (first | ((with_reducible refine gate_dst (N := 1) rfl ?_); refine bx 1 #[.slice A0_0 l0_0.length c0_0] 26 ?_; intro gb349 hg w19 hbox hb; have BK349 := am (hbox); have GW349 := uG hg HB; have GE349 := uG hg HB; replace HB := uB HB hb; clear hb hbox hg; have hcz20_0 := bc (.slice A0_0 l0_0.length c0_0) BK349 0; have hfz20_0 := blk_frozen BK349.out 0) | ((with_reducible refine gd 8 132 ?_); refine gc 8 Tryz.func132 #[.int .i64 (l0_0.length : Int), .int .i64 1, .int .i64 481] (spec_l1In.calls (l0_0.length : Int) 1 481 true _ A2.out) ?_; rintro e w' ⟨rfl, ⟨nd, rfl⟩⟩; refine ⟨_, rfl, ?_⟩) | ((with_reducible refine gd 12 115 ?_); refine gc 12 Tryz.func115 #[.agg #[.slice A0_0 l0_0.length c0_0]] (spec_l2Words.calls k _ _ l0_0 t351 _ ax152 (HC0_0.out) A4.out) ?_; rintro e w21 ⟨v352, rfl, ho0, hb⟩; refine ⟨_, rfl, ?_⟩; have HO353 := am (Kd.R_lower ho0 (below_size ax153)); replace BK349 := ub BK349 hb; replace HB := am (below_step ax153 hb); (try clear hb ho0); obtain ⟨Ao22, co22, eo22⟩ := Kd.R_slice HO353.out; subst eo22) | ((with_reducible refine gd 13 144 ?_); refine gc 13 Tryz.func144 #[.slice Ao22 t351.length co22] (spec_l2Set.calls k _ _ t351 t354 false _ ax154 ((Kd.R_reads' HO353.out).2.1) A5.out) ?_; rintro e w23 ⟨v355, rfl, ho0, hb⟩; refine ⟨_, rfl, ?_⟩; have HO356 := am (Kd.V_lower (Kd.V_mono (ok' := fun k_ => some k_ ≠ (.slice Ao22 t351.length co22 : Value).ownBlock ∧ k_ ≠ gb349) ho0 (fun k_ hk_ => ⟨(Kd.fresh' (Kd.R_lt ax155) k_ hk_), (Kd.freshB (g := gb349) (o := .cells #[.slice A0_0 l0_0.length c0_0] 26 (0, 0)) ax156 k_ hk_)⟩)) (below_size ax153)); replace HO353 := uR HO353 hb; replace BK349 := ub BK349 hb; replace HB := am (below_step ax153 hb); (try clear hb ho0)))
   replace HO353 := am (Kd.R_drew HO353.out); replace HO356 := am (Kd.V_drew HO356.out); replace BK349 := am (blk_drew BK349.out); replace HB := am (below_drew1 HB.out); refine start_ (n := 8) (S := fun w' => True) (ds := []) (ob 8 0) (by kernel_rfl) rfl rfl trivial (fun hHeld => ?_); refine with_tabW spec_l2Trie.tab4 spec_l2Trie.bits4 (fun HT_ HW_ => ?_); generalize w23.drew = w24 at HO353 HO356 BK349 HB hHeld ⊢; refine pu 0 16 ?_; refine pu 1 17 ?_; refine pu 2 18 ?_; refine pu 3 19 ?_; refine pu 4 20 ?_; refine pu 5 21 ?_; refine pu 6 22 ?_; refine pu 7 2 ?_; refine dn ?_
   try go_wp2
   go_ret
   exact ⟨ax27, ax153⟩
 ·replace c3 := Bool.eq_false_iff.mpr c3
  subst c3; rw [if_neg (show ¬ (false = true) by decide)] at H; obtain rfl := Option.some.inj H
  go_enter Tryz.func113, Tryz.ntmps113
  go_wp2_with (first | ((with_reducible refine gate_dst (N := 1) rfl ?_); refine bx 1 #[.slice A0_0 l0_0.length c0_0] 26 ?_; intro gb349 hg w25 hbox hb; have BK349 := am (hbox); have GW349 := uG hg HB; have GE349 := uG hg HB; replace HB := uB HB hb; clear hb hbox hg; have hcz26_0 := bc (.slice A0_0 l0_0.length c0_0) BK349 0; have hfz26_0 := blk_frozen BK349.out 0) | ((with_reducible refine gd 8 132 ?_); refine gc 8 Tryz.func132 #[.int .i64 (l0_0.length : Int), .int .i64 1, .int .i64 481] (spec_l1In.calls (l0_0.length : Int) 1 481 false _ A2.out) ?_; rintro e w' ⟨rfl, ⟨nd, rfl⟩⟩; refine ⟨_, rfl, ?_⟩))
  go_ret
  exact ⟨ax27, ax153⟩

/-! ### spec_l1Cur_wordOf: function 109 -/
mutual
def spec_l1Cur_wordOf.j0 : Nat → Int → Bool → List Int → Int → Int → List (S74) → Option (ByteArray × Int × Int)
 | 0, _, _, _, _, _, _ => none
 | k + 1, x5, x20, x1000, x1001, x1002, x363000 => if x20 = true then ((spec_l1Cur_pick.f x1000 x1001 x1002 x5).bind fun bt367 => ((spec_l2Prefix.f k x363000 bt367.1).bind fun t370 => ((spec_l1Cur_one.f x1000 bt367.2.1 bt367.2.2 4).bind fun bt371 => (if bt371.1 = true then (spec_l1Cur_wordOf.j1 k t370 (decide ((t370.size : Int) < 12)) x1000 bt371.2.1 bt371.2.2) else (spec_l1Cur_wordOf.j1 k t370 false x1000 bt371.2.1 bt371.2.2))))) else ((spec_l1Cur_word.f k x1000 x1001 x1002).bind fun bt380 => (some (bt380.1, bt380.2.1, bt380.2.2)))
def spec_l1Cur_wordOf.j1 : Nat → ByteArray → Bool → List Int → Int → Int → Option (ByteArray × Int × Int)
 | 0, _, _, _, _, _ => none
 | k + 1, x6, x32, x1000, x1001, x1002 => if x32 = true then ((spec_l1Cur_of.f x1000 x1001 x1002 (([(⟨#[97]⟩ : ByteArray), (⟨#[98]⟩ : ByteArray), (⟨#[99]⟩ : ByteArray)] : List ByteArray))).bind fun bt377 => (if x6.size + bt377.1.size ≤ 9223372036854775807 then (some (x6 ++ bt377.1, bt377.2.1, bt377.2.2)) else (none))) else (some (x6, x1001, x1002))
end
def spec_l1Cur_wordOf.f (k : Nat) (s0_0 : List Int) (s0_1 : Int) (s0_2 : Int) (l1_0 : List (S74)) : Option (ByteArray × Int × Int) := if (l1_0.length : Int) > 0 then ((spec_l1Cur_one.f s0_0 s0_1 s0_2 3).bind fun bt363 => (if bt363.1 = true then (spec_l1Cur_wordOf.j0 k (l1_0.length : Int) false s0_0 bt363.2.1 bt363.2.2 l1_0) else ((spec_l2Trie.f k l1_0).bind fun t366 => (spec_l1Cur_wordOf.j0 k (l1_0.length : Int) t366 s0_0 bt363.2.1 bt363.2.2 l1_0)))) else (spec_l1Cur_wordOf.j0 k (l1_0.length : Int) false s0_0 s0_1 s0_2 l1_0)
set_option maxHeartbeats 8000000 in
set_option maxRecDepth 100000 in
theorem spec_l1Cur_wordOf.calls (k : Nat) (g : Nat) (s0_0 : List Int) (s0_1 : Int) (s0_2 : Int) (A1_0 : Option Addr) (c1_0 : Nat) (l1_0 : List (S74)) (r1 : ByteArray) (r2 : Int) (r3 : Int) (w0 w : World) (hI : IsS82 w0 w g s0_0 s0_1 s0_2) (hB : Below w0.heap.size w0 w) (hr1_0 : ∀ W_, KeepBut w W_ g none → Kd.C k74 W_ A1_0 l1_0.length l1_0) (hc1_0 : l1_0.length ≤ c1_0) (h : spec_l1Cur_wordOf.f k s0_0 s0_1 s0_2 l1_0 = some (r1, r2, r3)) :
  Calls Tryz.prog 109 #[.pointer (some ⟨g, 0, none⟩), .agg #[.slice A1_0 l1_0.length c1_0]] w fun e w' => e = .returned (.string r1) ∧ IsS82 w0 w' g s0_0 r2 r3 ∧ Below w0.heap.size w0 w' ∧ KeepBut w w' g none := by
 have hu26 := Tryz.underlying26; have HR1_0 := am hr1_0; have HC1_0 := am hc1_0; clear hr1_0 hc1_0; have HI0 := am hI; have HK := am (KeepBut.refl w g none); have HL := am hB.size; clear hI; have HW0 := am hB.size; have HB := am hB; clear hB
 unfold spec_l1Cur_wordOf.f at h
 have H := h; clear h; have HC3 := am H; clear H
 go_enter Tryz.func109, Tryz.ntmps109
 go_upto_region 2 with (first | ((with_reducible refine gate_dst (N := 3) rfl ?_); (try (refine gate_guard (by rfl) ?_; dsimp only)); refine bx 3 #[.slice A1_0 l1_0.length c1_0] 26 ?_; intro gb362 hg w4 hbox hb; replace HB := am (below_step ax29 hb); have BK362 := am (hbox); have GW362 := am ((ax102 : w.heap.size ≤ gb362)); have GE362 := am ((Nat.le_trans HW0.out (ax102 : w.heap.size ≤ gb362) : w0.heap.size ≤ gb362)); replace HK := am (KeepBut.trans ax30 (KeepBut.of_below hb g none) (.inl rfl)); have NB0_362 := am ((ax103 : g ≠ gb362)); have NB362_0 := am ((ax104 : gb362 ≠ g)); replace HI0 := am (IsS82.below ax28 hb); clear hb hbox hg; have hnb5 := NB362_0.out; have hnc5 := NB0_362.out; have hcz6_0 := bc (.slice A1_0 l1_0.length c1_0) BK362 0; have hfz6_0 := blk_frozen BK362.out 0))
 (try simp only [Act.put, List.setIfInBounds_toArray, List.set_cons_zero, List.set_cons_succ])
 go_cut [20] (fun v20 wc => ∃ (kq : Nat) (x20_2 : Bool) (x1001_2 : Int) (x1002_2 : Int), v20 = .bool x20_2 ∧ Aside0 (spec_l1Cur_wordOf.j0 kq (l1_0.length : Int) x20_2 s0_0 x1001_2 x1002_2 l1_0 = some (r1, r2, r3)) ∧ Aside0 (kq ≤ k) ∧ Aside0 (wc.heap[gb362]? = some (.cells #[(.slice A1_0 l1_0.length c1_0)] 26 (0, 0))) ∧ Aside0 (IsS82 w0 wc g s0_0 x1001_2 x1002_2) ∧ Aside0 (KeepBut w wc g none) ∧ Aside0 (Below w0.heap.size w0 wc))
 case first =>
  have H := HC3.out; clear HC3
  by_cases c7 : (l1_0.length : Int) > 0
  ·rw [if_pos c7] at H
   have c7b0 := decide_eq_true c7; have c7b1 : decide (0 < l1_0.length) = true := decide_eq_true (by omega); clear c7; (first | rw [c7b0] | (simp only [i64_w, i32_w]; rw [c7b0]) | skip); obtain ⟨⟨t363, t364, t365⟩, A8, H⟩ := bs H
   by_cases c9 : t363 = true
   ·subst c9
    rw [if_pos rfl] at H; have H' := am H; clear H
    go_wp2_with (first | (go_at_call 122; (with_reducible refine (spec_l1Cur_one.calls g s0_0 s0_1 s0_2 3 true t364 t365 w0 _ ?side1 ?side2 A8.out).mono ?_); (case side1 => exact ax159); (case side2 => exact ax160); rintro e w10 ⟨rfl, hi, hb, hk⟩; replace BK362 := am (KeepBut.blk hk (g' := gb362) (o := .cells #[.slice A1_0 l1_0.length c1_0] 26 (0, 0)) ax161 NB362_0.out (by simp)); replace HK := am (KeepBut.trans ax162 hk (.inl rfl)); replace HB := am (hb); replace HI0 := am (hi); (try clear hb hk hi)))
    go_meet
    case rel => exact ⟨_, (false), (t364), (t365), ax31, H', ⟨by first | omega | exact Nat.le_refl _⟩, ⟨ax161⟩, ⟨ax159⟩, ⟨ax162⟩, ⟨ax160⟩⟩
   ·replace c9 := Bool.eq_false_iff.mpr c9
    subst c9; rw [if_neg (show ¬ (false = true) by decide)] at H; obtain ⟨t366, A11, H⟩ := bs H; have H' := am H; clear H
    go_wp2_with (first | (go_at_call 122; (with_reducible refine (spec_l1Cur_one.calls g s0_0 s0_1 s0_2 3 false t364 t365 w0 _ ?side1 ?side2 A8.out).mono ?_); (case side1 => exact ax159); (case side2 => exact ax160); rintro e w12 ⟨rfl, hi, hb, hk⟩; replace BK362 := am (KeepBut.blk hk (g' := gb362) (o := .cells #[.slice A1_0 l1_0.length c1_0] 26 (0, 0)) ax161 NB362_0.out (by simp)); replace HK := am (KeepBut.trans ax162 hk (.inl rfl)); replace HB := am (hb); replace HI0 := am (hi); (try clear hb hk hi); have hnb13 := NB362_0.out; have hnc13 := NB0_362.out; have hcz14_0 := bc (.slice A1_0 l1_0.length c1_0) BK362 0; have hfz14_0 := blk_frozen BK362.out 0) | (go_at_call 113; (with_reducible refine (spec_l2Trie.calls k _ _ l1_0 t366 _ ?side1 ?side2 A11.out).mono ?_); (case side1 => exact ax163); (case side2 => exact HC1_0.out); rintro e w15 ⟨rfl, hb⟩; replace BK362 := ub BK362 hb; replace HK := am (KeepBut.trans ax162 (KeepBut.of_below hb g none) (.inl rfl)); replace HB := am (below_step ax160 hb); replace HI0 := am (IsS82.below ax159 hb); (try clear hb)))
    go_meet
    case rel => exact ⟨_, (t366), (t364), (t365), ax31, H', ⟨by first | omega | exact Nat.le_refl _⟩, ⟨ax161⟩, ⟨ax159⟩, ⟨ax162⟩, ⟨ax160⟩⟩
  ·rw [if_neg c7] at H
   have c7b0 := decide_eq_false c7; have c7b1 : decide (0 < l1_0.length) = false := decide_eq_false (by omega); clear c7; (first | rw [c7b0] | (simp only [i64_w, i32_w]; rw [c7b0]) | skip); have H' := am H; clear H
   go_wp2
   go_meet
   case rel => exact ⟨_, (false), (s0_1), (s0_2), ax31, H', ⟨by first | omega | exact Nat.le_refl _⟩, ⟨ax161⟩, ⟨ax159⟩, ⟨ax162⟩, ⟨ax160⟩⟩
 case rest =>
  clear HC3; (try clear hcz6_0);(try clear hfz6_0); obtain ⟨kq, x20_2, x1001_2, x1002_2, rfl, HA, HJ2, BK362, HI0, HK, HB⟩ := hcut
  cases kq with
  | zero => exact absurd HA.out (by simp [spec_l1Cur_wordOf.j0])
  | succ kj2 =>
   have H := HA.out; clear HA; simp only [spec_l1Cur_wordOf.j0] at H
   by_cases c16 : x20_2 = true
   ·subst c16
    rw [if_pos rfl] at H; obtain ⟨⟨t367, t368, t369⟩, A17, H⟩ := bs H; obtain ⟨t370, A18, H⟩ := bs H; have HC19 := am H; clear H
    try go_wp2
    replace BK362 := am (blk_drew BK362.out); replace HI0 := am (IsS82.drew HI0.out); replace HK := am (keep_drew HK.out); replace HB := am (below_drew1 HB.out); refine start_ (n := 6) (S := fun w' => w'.cell? ⟨gb362, 0, none⟩ = some (.slice A1_0 l1_0.length c1_0)) (ds := []) (ob 6 0) (by kernel_rfl) rfl rfl ((blk_cell BK362.out 0).trans rfl) (fun hHeld => ?_); generalize wc.drew = w20 at BK362 HI0 HK HB hHeld ⊢; refine pure_ (i := 1) (N := some 22) (v := ?_) (a' := ?_) (ob 6 2) rfl rfl (by kernel_rfl) (fun _ _ _ h => h) (Or.inl ⟨by rfl, ?_⟩) ?_ ?_
    rotate_left
    ·exact ax20
    rotate_left
    ·exact ax15
    refine pure_ (i := 2) (N := some 23) (v := ?_) (a' := ?_) (ob 6 6) rfl rfl (by kernel_rfl) (fun _ _ _ h => h) (Or.inl ⟨by rfl, ?_⟩) ?_ ?_; rotate_left; exact ax20; rotate_left; exact ax15
    refine take_ (i := 0) (N := some 21) (v := ?_) (a' := ?_) (ob 6 7) rfl rfl (by kernel_rfl) (fun _ _ _ h => h) (Or.inl ⟨by rfl, ?_⟩) hHeld ?_ ?_; rotate_left; exact ax14; rotate_left; exact ax15
    refine one_ (i := 3) (N := some 24) (ob 6 15) rfl rfl (by kernel_rfl) (by decide) (fun K hK => ?_); refine goes_ Tryz.func127 (by kernel_rfl) rfl #[.pointer (some ⟨g, 0, none⟩), .int .i64 (l1_0.length : Int)] (by rfl) rfl rfl ax42 ?_
    with_reducible refine (spec_l1Cur_pick.calls g s0_0 x1001_2 x1002_2 (l1_0.length : Int) t367 t368 t369 w0 _ ?side1 ?side2 A17.out).mono ?_
    (case side1 => exact ax159)
    (case side2 => exact ax160)
    rintro e w21 ⟨rfl, hi, hb, hk⟩; refine ⟨_, rfl, ?_⟩; replace BK362 := am (KeepBut.blk hk (g' := gb362) (o := .cells #[.slice A1_0 l1_0.length c1_0] 26 (0, 0)) ax161 NB362_0.out (by simp)); replace HK := am (KeepBut.trans ax162 hk (.inl rfl)); replace HB := am (hb); replace HI0 := am (hi); (try clear hb); (try clear hb2); (try clear hk); (try clear hi); refine hK.out _ _ ((blk_cell BK362.out 0).trans rfl) (fun hHeld => ?_); clear hK K; refine nm 24 ?_; refine one_ (i := 4) (N := some 25) (ob 6 31) rfl rfl (by kernel_rfl) (by decide) (fun K hK => ?_); refine goes_ Tryz.func165 (by kernel_rfl) rfl #[.agg #[.slice A1_0 l1_0.length c1_0], .int .i64 t367] (by rfl) rfl rfl ax42 ?_
    with_reducible refine (spec_l2Prefix.calls kj2 _ _ l1_0 t367 t370 _ ?side1 ?side2 A18.out).mono ?_
    (case side1 => exact ax163)
    (case side2 => exact HC1_0.out)
    rintro e w22 ⟨rfl, hb⟩; refine ⟨_, rfl, ?_⟩; replace BK362 := ub BK362 hb; replace HK := am (KeepBut.trans ax162 (KeepBut.of_below hb g none) (.inl rfl)); replace HB := am (below_step ax160 hb); replace HI0 := am (IsS82.below ax159 hb); (try clear hb); (try clear hb2); (try clear hk); (try clear hi); refine hK.out _ _ ((blk_cell BK362.out 0).trans rfl) (fun hHeld => ?_); clear hK K; refine nm 25 ?_; refine pure_ (i := 5) (N := some 6) (v := ?_) (a' := ?_) (ob 6 63) rfl rfl (by kernel_rfl) (fun _ _ _ h => h) (Or.inl ⟨by rfl, ?_⟩) ?_ ?_
    rotate_left
    ·exact ax20
    rotate_left
    ·exact ax15
    refine done_ (by kernel_rfl) ?_
    go_upto_region 4 with (fail)
    go_cut [32] (fun v32 wc => ∃ (kq : Nat) (x32_18 : Bool) (x1001_18 : Int) (x1002_18 : Int), v32 = .bool x32_18 ∧ Aside0 (spec_l1Cur_wordOf.j1 kq t370 x32_18 s0_0 x1001_18 x1002_18 = some (r1, r2, r3)) ∧ Aside0 (kq ≤ kj2) ∧ Aside0 (wc.heap[gb362]? = some (.cells #[(.slice A1_0 l1_0.length c1_0)] 26 (0, 0))) ∧ Aside0 (IsS82 w0 wc g s0_0 x1001_18 x1002_18) ∧ Aside0 (KeepBut w wc g none) ∧ Aside0 (Below w0.heap.size w0 wc))
    case first =>
     have H := HC19.out; clear HC19; obtain ⟨⟨t371, t372, t373⟩, A23, H⟩ := bs H
     by_cases c24 : t371 = true
     ·subst c24
      rw [if_pos rfl] at H; have H' := am H; clear H
      go_wp2_with (first | ((with_reducible refine gd 27 122 ?_); refine gc 27 Tryz.func122 #[.pointer (some ⟨g, 0, none⟩), .int .i64 4] (spec_l1Cur_one.calls g s0_0 t368 t369 4 true t372 t373 w0 _ ax159 ax160 A23.out) ?_; rintro e w25 ⟨rfl, hi, hb, hk⟩; refine ⟨_, rfl, ?_⟩; replace BK362 := am (KeepBut.blk hk (g' := gb362) (o := .cells #[.slice A1_0 l1_0.length c1_0] 26 (0, 0)) ax161 NB362_0.out (by simp)); replace HK := am (KeepBut.trans ax162 hk (.inl rfl)); replace HB := am (hb); replace HI0 := am (hi); (try clear hb hk hi)))
      go_meet
      case rel => exact ⟨_, (decide ((t370.size : Int) < 12)), (t372), (t373), ax31, H', ⟨ax164⟩, ⟨ax161⟩, ⟨ax159⟩, ⟨ax162⟩, ⟨ax160⟩⟩
     ·replace c24 := Bool.eq_false_iff.mpr c24
      subst c24; rw [if_neg (show ¬ (false = true) by decide)] at H; have H' := am H; clear H
      go_wp2_with (first | ((with_reducible refine gd 27 122 ?_); refine gc 27 Tryz.func122 #[.pointer (some ⟨g, 0, none⟩), .int .i64 4] (spec_l1Cur_one.calls g s0_0 t368 t369 4 false t372 t373 w0 _ ax159 ax160 A23.out) ?_; rintro e w26 ⟨rfl, hi, hb, hk⟩; refine ⟨_, rfl, ?_⟩; replace BK362 := am (KeepBut.blk hk (g' := gb362) (o := .cells #[.slice A1_0 l1_0.length c1_0] 26 (0, 0)) ax161 NB362_0.out (by simp)); replace HK := am (KeepBut.trans ax162 hk (.inl rfl)); replace HB := am (hb); replace HI0 := am (hi); (try clear hb hk hi)))
      go_meet
      case rel => exact ⟨_, (false), (t372), (t373), ax31, H', ⟨ax164⟩, ⟨ax161⟩, ⟨ax159⟩, ⟨ax162⟩, ⟨ax160⟩⟩
    case rest =>
     clear HC19; (try clear c16); obtain ⟨kq, x32_18, x1001_18, x1002_18, rfl, HA, HJ18, BK362, HI0, HK, HB⟩ := hcut
     cases kq with
     | zero => exact absurd HA.out (by simp [spec_l1Cur_wordOf.j1])
     | succ kj18 =>
      have H := HA.out; clear HA; simp only [spec_l1Cur_wordOf.j1] at H
      by_cases c27 : x32_18 = true
      ·subst c27
       rw [if_pos rfl] at H; obtain ⟨y374, hy374⟩ : ∃ y_ : List ByteArray, y_ = (([(⟨#[97]⟩ : ByteArray), (⟨#[98]⟩ : ByteArray), (⟨#[99]⟩ : ByteArray)] : List ByteArray)) := ⟨_, rfl⟩
       replace H : ((spec_l1Cur_of.f s0_0 x1001_18 x1002_18 y374).bind fun bt377 => (if t370.size + bt377.1.size ≤ 9223372036854775807 then (some (t370 ++ bt377.1, bt377.2.1, bt377.2.2)) else (none))) = some (r1, r2, r3) := by first | (rw [hy374]; with_reducible exact H) | (have H2_ := (Option.bind_some _ _).symm.trans H; rw [hy374]; with_reducible exact H2_) | (have H2_ := (Option.bind_some _ _).symm.trans H; with_reducible exact H2_) | with_reducible exact H | (rw [hy374]; exact H) | exact H
       have Ny374 := am hy374; clear hy374; obtain ⟨⟨t377, t378, t379⟩, A28, H⟩ := bs H
       by_cases c29 : t370.size + t377.size ≤ 9223372036854775807
       ·rw [if_pos c29] at H
        have c29b0 := eq_true c29; have c29b1 := decide_eq_true c29
        try have c29b2 : (9223372036854775807 < t370.size + t377.size) = False := eq_false (Nat.not_lt.2 c29)
        clear c29; obtain ⟨js30, hjs30⟩ : ∃ j_ : ByteArray, (t370 ++ t377) = j_ := ⟨_, rfl⟩; (first | rw [hjs30] at H | simp only [hjs30] at H); simp only [Option.some.injEq, Prod.mk.injEq] at H; obtain ⟨rfl, rfl, rfl⟩ := H
        go_wp2_with (first | ((with_reducible refine gate_dst (N := 35) rfl ?_); (try (refine gate_guard (by rfl) ?_; dsimp only)); refine Kd.R_lit Kd.string _ 9 ?hg (N := 35) ?hd (xs := ([(⟨#[97]⟩ : ByteArray), (⟨#[98]⟩ : ByteArray), (⟨#[99]⟩ : ByteArray)] : List ByteArray)) (inner := [.string (⟨#[97]⟩ : ByteArray), .string (⟨#[98]⟩ : ByteArray), .string (⟨#[99]⟩ : ByteArray)]) (ok := fun _ => True) (okp := fun _ => True) ?hr ?hp (fun _ hk => hk) trivial (Below.refl _ _) (Nat.le_refl _) (by simp) ?_; (case hd => rfl); (case hg => rfl); (case hr => exact ax33); (case hp => exact ax95); intro v375 w31 ho32 hb hg_ hnew_; clear hg_ hnew_; (first | rw [← Ny374.out] at ho32 | (simp only [Int.reduceToNat] at ho32; rw [← Ny374.out] at ho32)); have HO376 := am (Kd.R_lower ho32 (keep_size (w := w) (g := g) (row := none) ax162)); replace BK362 := ub BK362 hb; replace HK := am (KeepBut.trans ax162 (KeepBut.of_below hb g none) (.inl rfl)); replace HB := am (below_step ax160 hb); replace HI0 := am (IsS82.below ax159 hb); clear hb ho32; obtain ⟨Ao33, co33, eo33⟩ := Kd.R_slice HO376.out; subst eo33) | ((with_reducible refine gd 36 121 ?_); refine gc 36 Tryz.func121 #[.pointer (some ⟨g, 0, none⟩), .slice Ao33 y374.length co33] (spec_l1Cur_of.calls g s0_0 x1001_18 x1002_18 _ _ y374 t377 t378 t379 w0 _ ax159 ax160 (by repeat (first | exact (Kd.R_reads' HO376.out).2.2 | (with_reducible refine Kd.C_alloc ?_ _) | (with_reducible refine Kd.C_drewN ?_ _) | (with_reducible refine Kd.C_drew ?_))) ((Kd.R_reads' HO376.out).2.1) (far_slice (IsS82.own_ne HI0.out HO376.out (by decide))) A28.out) ?_; rintro e w34 ⟨rfl, hi, hb, hk⟩; refine ⟨_, rfl, ?_⟩; replace BK362 := am (KeepBut.blk hk (g' := gb362) (o := .cells #[.slice A1_0 l1_0.length c1_0] 26 (0, 0)) ax161 NB362_0.out (by simp)); replace HO376 := am (Kd.R_mono (Kd.R_keep (IsS82.apart (show IsS82 w0 _ g s0_0 x1001_18 x1002_18 from by repeat (first | (with_reducible first | exact HI0.out | apply IsS82.alloc | apply IsS82.drewN | apply IsS82.drew | apply IsS82.set_1 | apply IsS82.set_2 | refine IsS82.far ?_ NB0_362.out _) | exact HI0.out)) (by (with_reducible repeat (first | apply Kd.R_alloc | apply Kd.R_drewN | apply Kd.R_drew)); exact HO376.out) (by decide)) hk (fun _ h => h.2)) (fun _ h => h.1)); replace HK := am (KeepBut.trans ax162 hk (.inl rfl)); replace HB := am (hb); replace HI0 := am (hi); (try clear hb hk hi)))
        go_ret
        exact ⟨(by first | rfl | (simp [errW_none, errW_some] <;> rfl) | (simp only [← hjs30]; first | rfl | (simp [errW_none, errW_some] <;> rfl)) | (simp [*, errW_none, errW_some] <;> rfl)), ax159, ax160, ax162⟩
       ·rw [if_neg c29] at H
        exact absurd H (by simp)
      ·replace c27 := Bool.eq_false_iff.mpr c27
       subst c27; rw [if_neg (show ¬ (false = true) by decide)] at H; simp only [Option.some.injEq, Prod.mk.injEq] at H; obtain ⟨rfl, rfl, rfl⟩ := H
       go_wp2
       go_ret
       exact ⟨ax27, ax159, ax160, ax162⟩
   ·replace c16 := Bool.eq_false_iff.mpr c16
    subst c16; rw [if_neg (show ¬ (false = true) by decide)] at H; obtain ⟨⟨t380, t381, t382⟩, A35, H⟩ := bs H; simp only [Option.some.injEq, Prod.mk.injEq] at H; obtain ⟨rfl, rfl, rfl⟩ := H
    go_wp2_with (first | ((with_reducible refine gd 40 147 ?_); refine gc 40 Tryz.func147 #[.pointer (some ⟨g, 0, none⟩)] (spec_l1Cur_word.calls kj2 g s0_0 x1001_2 x1002_2 t380 t381 t382 w0 _ ax159 ax160 A35.out) ?_; rintro e w36 ⟨rfl, hi, hb, hk⟩; refine ⟨_, rfl, ?_⟩; replace BK362 := am (KeepBut.blk hk (g' := gb362) (o := .cells #[.slice A1_0 l1_0.length c1_0] 26 (0, 0)) ax161 NB362_0.out (by simp)); replace HK := am (KeepBut.trans ax162 hk (.inl rfl)); replace HB := am (hb); replace HI0 := am (hi); (try clear hb hk hi)))
    go_ret
    exact ⟨ax27, ax159, ax160, ax162⟩

end Go.Proofs.YtcplbbflfgckbaaGreatDoor.X


-- By gen.py (the session's own program over the kit's printer): functions of the program, each with its contract. Lean checks it.
import Derived.Test.YtcplbbflfgckbaaGreatDoorX0
import Derived.Test.YtcplbbflfgckbaaGreatDoorX6
import Derived.Test.YtcplbbflfgckbaaGreatDoorX9
import Derived.Test.YtcplbbflfgckbaaGreatDoorX10
import Derived.Test.YtcplbbflfgckbaaGreatDoorX11
import Derived.Test.YtcplbbflfgckbaaGreatDoorX15
import Derived.Test.YtcplbbflfgckbaaGreatDoorX19
namespace Go.Proofs.YtcplbbflfgckbaaGreatDoor.X
open Go.RowKit Go.Proofs.YtcplbbflfgckbaaGreatDoorW.PrintWords Go.Proofs.YtcplbbflfgckbaaGreatDoorW.PrintLast Go.Proofs.YtcplbbflfgckbaaGreatDoorW.PrintMore
attribute [local go_sem] max2_int min2_int max_two min_two max_three min_three max_four min_four   -- for this text's walks alone
set_option linter.unusedVariables false
set_option linter.unusedSimpArgs false

/-! ### spec_l2Kid: function 207 -/
def spec_l2Kid.l0 : Nat → Int → Int → Int → List (S74) → Option (Int)
 | 0, _, _, _, _ => none
 | k + 1, x1, x2, x7, x1207000 => if x7 < (x1207000.length : Int) then (if 0 ≤ x7 then (if ((rd_T74 x1207000 x7).f1) = x1 then (if ((rd_T74 x1207000 x7).f0) = x2 then (some x7) else (spec_l2Kid.l0 k x1 x2 (wrap64 (x7 + 1)) x1207000)) else (spec_l2Kid.l0 k x1 x2 (wrap64 (x7 + 1)) x1207000)) else (none)) else (some (-1))
def spec_l2Kid.f (k : Nat) (l0_0 : List (S74)) (a1 : Int) (a2 : Int) : Option (Int) := spec_l2Kid.l0 k a1 a2 (wrap64 (a1 + 1)) l0_0
set_option maxHeartbeats 8000000 in
set_option maxRecDepth 100000 in
theorem spec_l2Kid.calls (k : Nat) (A0_0 : Option Addr) (c0_0 : Nat) (l0_0 : List (S74)) (a1 : Int) (a2 : Int) (r : Int) (w : World) (hr0_0 : Kd.C k74 w A0_0 l0_0.length l0_0) (hc0_0 : l0_0.length ≤ c0_0) (h : spec_l2Kid.f k l0_0 a1 a2 = some r) :
  Calls Tryz.prog 207 #[.agg #[.slice A0_0 l0_0.length c0_0], .int .i64 a1, .int .i64 a2] w fun e w' => e = .returned (.int .i64 r) ∧ Below w.heap.size w w' := by
 have hu26 := Tryz.underlying26; have HR0_0 := am hr0_0; have HC0_0 := am hc0_0; clear hr0_0 hc0_0; have HB := am (Below.refl w.heap.size w)
 unfold spec_l2Kid.f at h
 have H := h; clear h; have H' := am H; clear H
 go_enter Tryz.func207, Tryz.ntmps207
 go_wp2_with (first | ((with_reducible refine gate_dst (N := 3) rfl ?_); refine bx 3 #[.slice A0_0 l0_0.length c0_0] 26 ?_; intro gb1206 hg w4 hbox hb; have BK1206 := am (hbox); have GW1206 := uG hg HB; have GE1206 := uG hg HB; replace HB := uB HB hb; clear hb hbox hg))
 go_loopg [7] k (fun kq v7 w' => ∃ (x7_1 : Int), v7 = .int .i64 x7_1 ∧ Aside0 (spec_l2Kid.l0 kq a1 a2 x7_1 l0_0 = some r) ∧ Aside0 (kq ≤ k) ∧ Aside0 (w'.heap[gb1206]? = some (.cells #[(.slice A0_0 l0_0.length c0_0)] 26 (0, 0))) ∧ Aside0 (Below w.heap.size w w'))
 case atStart => exact ⟨(wrap64 (a1 + 1)), ax31, H', ⟨Nat.le_refl _⟩, ⟨ax273⟩, ⟨ax274⟩⟩
 case round =>
  clear H'; obtain ⟨x7_1, rfl, HA, HK1, BK1206, HB⟩ := hrel
  cases gk with
  | zero => exact absurd HA.out (by simp [spec_l2Kid.l0])
  | succ k1 =>
   have H := HA.out; clear HA; simp only [spec_l2Kid.l0] at H
   by_cases c5 : x7_1 < (l0_0.length : Int)
   ·rw [if_pos c5] at H
    have c5b0 := decide_eq_true c5; clear c5
    by_cases c6 : 0 ≤ x7_1
    ·rw [if_pos c6] at H
     have c6b0 := decide_eq_true c6; clear c6
     by_cases c7 : ((rd_T74 l0_0 x7_1).f1) = a1
     ·rw [if_pos c7] at H
      have c7b0 := beq_iff_eq.mpr c7; have c7b1 := bne_eq_false_iff_eq.mpr c7; clear c7
      by_cases c8 : ((rd_T74 l0_0 x7_1).f0) = a2
      ·rw [if_pos c8] at H
       have c8b0 := beq_iff_eq.mpr c8; have c8b1 := bne_eq_false_iff_eq.mpr c8; clear c8; obtain rfl := Option.some.inj H; have hcz9_0 := bc (.slice A0_0 l0_0.length c0_0) BK1206 0; have hfz9_0 := blk_frozen BK1206.out 0; have p1207 : 0 ≤ (x7_1 : Int) := of_decide_eq_true ax26; have q1207 : x7_1 < (l0_0.length : Int) := of_decide_eq_true ax26; obtain ⟨ad1207, e1207, hx1207_0, hx1207_1, hx1207_2⟩ := at_T74 HR0_0.out x7_1 p1207 q1207
       cases e1207
       replace hx1207_0 := (HB.out.cell (World.block_lt_of_cell? w _ hx1207_0)).trans hx1207_0; replace hx1207_1 := (HB.out.cell (World.block_lt_of_cell? w _ hx1207_1)).trans hx1207_1; replace hx1207_2 := (HB.out.cell (World.block_lt_of_cell? w _ hx1207_2)).trans hx1207_2; replace p1207 := eq_true p1207; replace q1207 := eq_true q1207; have p1208 : 0 ≤ (x7_1 : Int) := of_decide_eq_true ax26; have q1208 : x7_1 < (l0_0.length : Int) := of_decide_eq_true ax26; obtain ⟨ad1208, e1208, hx1208_0, hx1208_1, hx1208_2⟩ := at_T74 HR0_0.out x7_1 p1208 q1208; obtain rfl : ad1207 = ad1208 := (by injection e1208); replace hx1208_0 := (HB.out.cell (World.block_lt_of_cell? w _ hx1208_0)).trans hx1208_0; replace hx1208_1 := (HB.out.cell (World.block_lt_of_cell? w _ hx1208_1)).trans hx1208_1; replace hx1208_2 := (HB.out.cell (World.block_lt_of_cell? w _ hx1208_2)).trans hx1208_2; replace p1208 := eq_true p1208; replace q1208 := eq_true q1208
       go_wp2
       go_ret
       exact ⟨ax27, ax274⟩
      ·rw [if_neg c8] at H
       have c8b0 := beq_eq_false_iff_ne.mpr c8; have c8b1 := bne_iff_ne.mpr c8; have H' := am H; clear H; have hcz10_0 := bc (.slice A0_0 l0_0.length c0_0) BK1206 0; have hfz10_0 := blk_frozen BK1206.out 0; have p1207 : 0 ≤ (x7_1 : Int) := of_decide_eq_true ax26; have q1207 : x7_1 < (l0_0.length : Int) := of_decide_eq_true ax26; obtain ⟨ad1207, e1207, hx1207_0, hx1207_1, hx1207_2⟩ := at_T74 HR0_0.out x7_1 p1207 q1207
       cases e1207
       replace hx1207_0 := (HB.out.cell (World.block_lt_of_cell? w _ hx1207_0)).trans hx1207_0; replace hx1207_1 := (HB.out.cell (World.block_lt_of_cell? w _ hx1207_1)).trans hx1207_1; replace hx1207_2 := (HB.out.cell (World.block_lt_of_cell? w _ hx1207_2)).trans hx1207_2; replace p1207 := eq_true p1207; replace q1207 := eq_true q1207; have p1208 : 0 ≤ (x7_1 : Int) := of_decide_eq_true ax26; have q1208 : x7_1 < (l0_0.length : Int) := of_decide_eq_true ax26; obtain ⟨ad1208, e1208, hx1208_0, hx1208_1, hx1208_2⟩ := at_T74 HR0_0.out x7_1 p1208 q1208; obtain rfl : ad1207 = ad1208 := (by injection e1208); replace hx1208_0 := (HB.out.cell (World.block_lt_of_cell? w _ hx1208_0)).trans hx1208_0; replace hx1208_1 := (HB.out.cell (World.block_lt_of_cell? w _ hx1208_1)).trans hx1208_1; replace hx1208_2 := (HB.out.cell (World.block_lt_of_cell? w _ hx1208_2)).trans hx1208_2; replace p1208 := eq_true p1208; replace q1208 := eq_true q1208
       go_wp2
       go_roundg k1
       case measure => have := HK1.out; omega
       case rel => exact ⟨(wrap64 (x7_1 + 1)), ax31, H', ⟨by have := HK1.out; omega⟩, ⟨ax273⟩, ⟨ax274⟩⟩
     ·rw [if_neg c7] at H
      have c7b0 := beq_eq_false_iff_ne.mpr c7; have c7b1 := bne_iff_ne.mpr c7; have H' := am H; clear H; have hcz11_0 := bc (.slice A0_0 l0_0.length c0_0) BK1206 0; have hfz11_0 := blk_frozen BK1206.out 0; have p1207 : 0 ≤ (x7_1 : Int) := of_decide_eq_true ax26; have q1207 : x7_1 < (l0_0.length : Int) := of_decide_eq_true ax26; obtain ⟨ad1207, e1207, hx1207_0, hx1207_1, hx1207_2⟩ := at_T74 HR0_0.out x7_1 p1207 q1207
      cases e1207
      replace hx1207_0 := (HB.out.cell (World.block_lt_of_cell? w _ hx1207_0)).trans hx1207_0; replace hx1207_1 := (HB.out.cell (World.block_lt_of_cell? w _ hx1207_1)).trans hx1207_1; replace hx1207_2 := (HB.out.cell (World.block_lt_of_cell? w _ hx1207_2)).trans hx1207_2; replace p1207 := eq_true p1207; replace q1207 := eq_true q1207
      go_wp2
      go_roundg k1
      case measure => have := HK1.out; omega
      case rel => exact ⟨(wrap64 (x7_1 + 1)), ax31, H', ⟨by have := HK1.out; omega⟩, ⟨ax273⟩, ⟨ax274⟩⟩
    ·exact ax5
   ·rw [if_neg c5] at H
    have c5b0 := decide_eq_false c5; clear c5; obtain rfl := Option.some.inj H; have hcz12_0 := bc (.slice A0_0 l0_0.length c0_0) BK1206 0; have hfz12_0 := blk_frozen BK1206.out 0
    go_wp2
    go_ret
    exact ⟨ax27, ax274⟩

/-! ### spec_l2Node: function 168 -/
def spec_l2Node.l0 : Nat → ByteArray → Int → Int → List (S74) → Option (Int)
 | 0, _, _, _, _ => none
 | k + 1, x1, x5, x6, x1210000 => if x6 < (x1.size : Int) then (if x5 ≥ 0 then (if 0 ≤ x6 then ((spec_l2Kid.f k x1210000 x5 (wrap64 ((wrap64 (bt x1 x6)) - 97))).bind fun t1210 => (spec_l2Node.l0 k x1 t1210 (wrap64 (x6 + 1)) x1210000)) else (none)) else (some x5)) else (some x5)
def spec_l2Node.f (k : Nat) (l0_0 : List (S74)) (a1 : ByteArray) : Option (Int) := spec_l2Node.l0 k a1 0 0 l0_0
def spec_l2Node.T5 : Bool × List (List Nat × List Nat) := (true, [([], []), ([], []), ([], []), ([], []), ([2, 3], [2, 3]), ([4], [4]), ([5], [5]), ([0, 1, 6], [0, 1, 6]), ([7, 7, 0, 1, 2, 3, 4, 5, 6, 7], [1, 7])])
def spec_l2Node.B5 : List Nat := [0, 0, 0, 0, 12, 28, 60, 127, 255]
theorem spec_l2Node.tab5 : rtab .any (opsOf Tryz.f168 5) = spec_l2Node.T5 := by kernel_rfl
theorem spec_l2Node.bits5 : waitsOk spec_l2Node.T5.2 spec_l2Node.B5 = true := by kernel_rfl
set_option maxHeartbeats 8000000 in
set_option maxRecDepth 100000 in
theorem spec_l2Node.calls (k : Nat) (A0_0 : Option Addr) (c0_0 : Nat) (l0_0 : List (S74)) (a1 : ByteArray) (r : Int) (w : World) (hr0_0 : Kd.C k74 w A0_0 l0_0.length l0_0) (hc0_0 : l0_0.length ≤ c0_0) (h : spec_l2Node.f k l0_0 a1 = some r) :
  Calls Tryz.prog 168 #[.agg #[.slice A0_0 l0_0.length c0_0], .string a1] w fun e w' => e = .returned (.int .i64 r) ∧ Below w.heap.size w w' := by
 have hu26 := Tryz.underlying26; have HR0_0 := am hr0_0; have HC0_0 := am hc0_0; clear hr0_0 hc0_0; have HB := am (Below.refl w.heap.size w)
 unfold spec_l2Node.f at h
 have H := h; clear h; have H' := am H; clear H
 go_enter Tryz.func168, Tryz.ntmps168
 go_wp2_with (first | ((with_reducible refine gate_dst (N := 2) rfl ?_); refine bx 2 #[.slice A0_0 l0_0.length c0_0] 26 ?_; intro gb1209 hg w3 hbox hb; have BK1209 := am (hbox); have GW1209 := uG hg HB; have GE1209 := uG hg HB; replace HB := uB HB hb; clear hb hbox hg))
 go_loopg [5, 6] k (fun kq v5 v6 w' => ∃ (x5_1 : Int) (x6_1 : Int), v5 = .int .i64 x5_1 ∧ v6 = .int .i64 x6_1 ∧ Aside0 (spec_l2Node.l0 kq a1 x5_1 x6_1 l0_0 = some r) ∧ Aside0 (kq ≤ k) ∧ Aside0 (w'.heap[gb1209]? = some (.cells #[(.slice A0_0 l0_0.length c0_0)] 26 (0, 0))) ∧ Aside0 (Below w.heap.size w w'))
 case atStart => exact ⟨(0), (0), ax31, ax31, H', ⟨Nat.le_refl _⟩, ⟨ax275⟩, ⟨ax276⟩⟩
 case round =>
  clear H'; obtain ⟨x5_1, x6_1, rfl, rfl, HA, HK1, BK1209, HB⟩ := hrel
  cases gk with
  | zero => exact absurd HA.out (by simp [spec_l2Node.l0])
  | succ k1 =>
   have H := HA.out; clear HA; simp only [spec_l2Node.l0] at H
   by_cases c4 : x6_1 < (a1.size : Int)
   ·rw [if_pos c4] at H
    have c4b0 := decide_eq_true c4; clear c4
    by_cases c5 : x5_1 ≥ 0
    ·rw [if_pos c5] at H
     have c5b0 := decide_eq_true c5; clear c5
     by_cases c6 : 0 ≤ x6_1
     ·rw [if_pos c6] at H
      have c6b0 := decide_eq_true c6; clear c6; obtain ⟨t1210, A8, H⟩ := bs H; have H' := am H; clear H
      try go_wp2
      replace BK1209 := am (blk_drew BK1209.out); replace HB := am (below_drew1 HB.out); have p7 : 0 ≤ (x6_1 : Int) := of_decide_eq_true ax26; have q7 : x6_1 < (a1.size : Int) := of_decide_eq_true ax26; have hx7 := bt_at a1 x6_1; replace p7 := eq_true p7; replace q7 := eq_true q7; refine start_ (n := 9) (S := fun w' => w'.cell? ⟨gb1209, 0, none⟩ = some (.slice A0_0 l0_0.length c0_0)) (ds := []) (ob 9 0) (by kernel_rfl) rfl rfl ((blk_cell BK1209.out 0).trans rfl) (fun hHeld => ?_); refine with_tabW spec_l2Node.tab5 spec_l2Node.bits5 (fun HT_ HW_ => ?_); generalize wr.drew = w9 at BK1209 HB hHeld ⊢; refine pu 1 18 ?_; refine pu 2 19 ?_; refine pu 3 20 ?_; refine take_ (i := 0) (N := some 17) (v := ?_) (a' := ?_) (ob 9 15) rfl rfl (take_ofW HT_.out HW_.out (by kernel_rfl)) (fun _ _ _ h => h) (Or.inl ⟨by rfl, ?_⟩) hHeld ?_ ?_
      rotate_left
      ·exact ax14
      rotate_left
      ·exact ax15
      refine take_ (i := 4) (N := some 21) (v := ?_) (a' := ?_) (ob 9 31) rfl rfl (take_ofW HT_.out HW_.out (by kernel_rfl)) (fun _ _ _ h => h) (Or.inl ⟨by rfl, ?_⟩) hHeld ?_ ?_; rotate_left; exact ax14; rotate_left; exact ax15
      refine pu 5 22 ?_; refine pu 6 23 ?_; refine one_ (i := 7) (N := some 24) (ob 9 255) rfl rfl (one_of HT_.out (by kernel_rfl)) (by decide) (fun K hK => ?_); refine goes_ Tryz.func207 (by kernel_rfl) rfl #[.agg #[.slice A0_0 l0_0.length c0_0], .int .i64 x5_1, .int .i64 (wrap64 ((wrap64 (bt a1 x6_1)) - 97))] (by rfl) rfl rfl ax42 ?_
      with_reducible refine (spec_l2Kid.calls k1 _ _ l0_0 x5_1 (wrap64 ((wrap64 (bt a1 x6_1)) - 97)) t1210 _ ?side1 ?side2 A8.out).mono ?_
      (case side1 => exact ax145)
      (case side2 => exact ax158)
      rintro e w10 ⟨rfl, hb⟩; refine ⟨_, rfl, ?_⟩; replace BK1209 := ub BK1209 hb; replace HB := am (below_step ax276 hb); (try clear hb); (try clear hb2); (try clear hk); (try clear hi); refine hK.out _ _ ((blk_cell BK1209.out 0).trans rfl) (fun hHeld => ?_); clear hK K; refine nm 24 ?_; refine pu 8 5 ?_; refine dn ?_
      try go_wp2
      go_roundg k1
      case measure => have := HK1.out; omega
      case rel => exact ⟨(t1210), (wrap64 (x6_1 + 1)), ax31, ax31, H', ⟨by have := HK1.out; omega⟩, ⟨ax275⟩, ⟨ax276⟩⟩
     ·exact ax5
    ·rw [if_neg c5] at H
     have c5b0 := decide_eq_false c5; clear c5; obtain rfl := Option.some.inj H
     go_wp2
     go_ret
     exact ⟨ax27, ax276⟩
   ·rw [if_neg c4] at H
    have c4b0 := decide_eq_false c4; clear c4; obtain rfl := Option.some.inj H
    go_wp2
    go_ret
    exact ⟨ax27, ax276⟩

/-! ### spec_NodeOf: function 79 -/
def spec_NodeOf.j0 : Nat → ByteArray → Bool → List (S74) → Option (Int × Bool)
 | 0, _, _, _ => none
 | k + 1, x1, x14, x1212000 => if x14 = true then (some (0, false)) else ((spec_l2Node.f k x1212000 x1).bind fun t1214 => ((spec_l1Most.f t1214 0).bind fun t1215 => (some (t1215, decide (t1214 ≥ 0)))))
def spec_NodeOf.f (k : Nat) (l0_0 : List (S74)) (a1 : ByteArray) : Option (Int × Bool) := (spec_l2Trie.f k l0_0).bind fun t1212 => (if t1212 = true then ((spec_l2Word.f k a1).bind fun t1213 => (spec_NodeOf.j0 k a1 (!t1213) l0_0)) else (spec_NodeOf.j0 k a1 true l0_0))
set_option maxHeartbeats 8000000 in
set_option maxRecDepth 100000 in
theorem spec_NodeOf.calls (k : Nat) (A0_0 : Option Addr) (c0_0 : Nat) (l0_0 : List (S74)) (a1 : ByteArray) (r1 : Int) (r2 : Bool) (w : World) (hr0_0 : Kd.C k74 w A0_0 l0_0.length l0_0) (hc0_0 : l0_0.length ≤ c0_0) (h : spec_NodeOf.f k l0_0 a1 = some (r1, r2)) :
  Calls Tryz.prog 79 #[.agg #[.slice A0_0 l0_0.length c0_0], .string a1] w fun e w' => e = .returned (.tuple #[.int .i64 r1, .bool r2]) ∧ Below w.heap.size w w' := by
 have hu26 := Tryz.underlying26; have HR0_0 := am hr0_0; have HC0_0 := am hc0_0; clear hr0_0 hc0_0; have HB := am (Below.refl w.heap.size w)
 unfold spec_NodeOf.f at h
 have H := h; clear h; have HC3 := am H; clear H
 go_enter Tryz.func79, Tryz.ntmps79
 go_upto_region 1 with (first | ((with_reducible refine gate_dst (N := 2) rfl ?_); refine bx 2 #[.slice A0_0 l0_0.length c0_0] 26 ?_; intro gb1211 hg w4 hbox hb; have BK1211 := am (hbox); have GW1211 := uG hg HB; have GE1211 := uG hg HB; replace HB := uB HB hb; clear hb hbox hg))
 (try simp only [Act.put, List.setIfInBounds_toArray, List.set_cons_zero, List.set_cons_succ])
 go_cut [14] (fun v14 wc => ∃ (kq : Nat) (x14_2 : Bool), v14 = .bool x14_2 ∧ Aside0 (spec_NodeOf.j0 kq a1 x14_2 l0_0 = some (r1, r2)) ∧ Aside0 (kq ≤ k) ∧ Aside0 (wc.heap[gb1211]? = some (.cells #[(.slice A0_0 l0_0.length c0_0)] 26 (0, 0))) ∧ Aside0 (Below w.heap.size w wc))
 case first =>
  have H := HC3.out; clear HC3; obtain ⟨t1212, A5, H⟩ := bs H
  by_cases c6 : t1212 = true
  ·subst c6
   rw [if_pos rfl] at H; obtain ⟨t1213, A7, H⟩ := bs H; have H' := am H; clear H; have hcz8_0 := bc (.slice A0_0 l0_0.length c0_0) BK1211 0; have hfz8_0 := blk_frozen BK1211.out 0
   go_wp2_with (first | ((with_reducible refine gd 8 113 ?_); refine gc 8 Tryz.func113 #[.agg #[.slice A0_0 l0_0.length c0_0]] (spec_l2Trie.calls k _ _ l0_0 true _ ax145 (HC0_0.out) A5.out) ?_; rintro e w9 ⟨rfl, hb⟩; refine ⟨_, rfl, ?_⟩; replace BK1211 := ub BK1211 hb; replace HB := am (below_step ax277 hb); (try clear hb)) | (go_at_call 117; (with_reducible refine (spec_l2Word.calls k a1 t1213 _ A7.out).mono ?_); rintro e w' ⟨rfl, ⟨nd, rfl⟩⟩))
   go_meet
   case rel => exact ⟨_, (!t1213), ax31, H', ⟨by first | omega | exact Nat.le_refl _⟩, ⟨ax278⟩, ⟨ax277⟩⟩
  ·replace c6 := Bool.eq_false_iff.mpr c6
   subst c6; rw [if_neg (show ¬ (false = true) by decide)] at H; have H' := am H; clear H; have hcz10_0 := bc (.slice A0_0 l0_0.length c0_0) BK1211 0; have hfz10_0 := blk_frozen BK1211.out 0
   go_wp2_with (first | ((with_reducible refine gd 8 113 ?_); refine gc 8 Tryz.func113 #[.agg #[.slice A0_0 l0_0.length c0_0]] (spec_l2Trie.calls k _ _ l0_0 false _ ax145 (HC0_0.out) A5.out) ?_; rintro e w11 ⟨rfl, hb⟩; refine ⟨_, rfl, ?_⟩; replace BK1211 := ub BK1211 hb; replace HB := am (below_step ax277 hb); (try clear hb)))
   go_meet
   case rel => exact ⟨_, (true), ax31, H', ⟨by first | omega | exact Nat.le_refl _⟩, ⟨ax278⟩, ⟨ax277⟩⟩
 case rest =>
  clear HC3; obtain ⟨kq, x14_2, rfl, HA, HJ2, BK1211, HB⟩ := hcut
  cases kq with
  | zero => exact absurd HA.out (by simp [spec_NodeOf.j0])
  | succ kj2 =>
   have H := HA.out; clear HA; simp only [spec_NodeOf.j0] at H
   by_cases c12 : x14_2 = true
   ·subst c12
    rw [if_pos rfl] at H; simp only [Option.some.injEq, Prod.mk.injEq] at H; obtain ⟨rfl, rfl⟩ := H
    go_wp2
    go_ret2
    exact ⟨ax27, ax277⟩
   ·replace c12 := Bool.eq_false_iff.mpr c12
    subst c12; rw [if_neg (show ¬ (false = true) by decide)] at H; obtain ⟨t1214, A13, H⟩ := bs H; obtain ⟨t1215, A14, H⟩ := bs H; simp only [Option.some.injEq, Prod.mk.injEq] at H; obtain ⟨rfl, rfl⟩ := H; have hcz15_0 := bc (.slice A0_0 l0_0.length c0_0) BK1211 0; have hfz15_0 := blk_frozen BK1211.out 0
    go_wp2_with (first | ((with_reducible refine gd 17 168 ?_); refine gc 17 Tryz.func168 #[.agg #[.slice A0_0 l0_0.length c0_0], .string a1] (spec_l2Node.calls kj2 _ _ l0_0 a1 t1214 _ ax145 (HC0_0.out) A13.out) ?_; rintro e w16 ⟨rfl, hb⟩; refine ⟨_, rfl, ?_⟩; replace BK1211 := ub BK1211 hb; replace HB := am (below_step ax277 hb); (try clear hb)) | ((with_reducible refine gd 19 134 ?_); refine gc 19 Tryz.func134 #[.int .i64 t1214, .int .i64 0] (spec_l1Most.calls t1214 0 t1215 _ A14.out) ?_; rintro e w' ⟨rfl, ⟨nd, rfl⟩⟩; refine ⟨_, rfl, ?_⟩))
    go_ret2
    exact ⟨ax27, ax277⟩

/-! ### impl_RankOf: function 80 -/
def impl_RankOf.f (k : Nat) (l0_0 : List (S74)) (a1 : ByteArray) : Option (Int × Bool) := (impl_areKept.f k l0_0 a1).bind fun t1217 => (if t1217 = true then ((impl_Trie_words.f k l0_0).bind fun t1218 => ((slices_BinarySearch_string_string.f k t1218 a1).bind fun bt1221 => (some (bt1221.1, true)))) else (some (0, false)))
set_option maxHeartbeats 8000000 in
set_option maxRecDepth 100000 in
theorem impl_RankOf.calls (k : Nat) (A0_0 : Option Addr) (c0_0 : Nat) (l0_0 : List (S74)) (a1 : ByteArray) (r1 : Int) (r2 : Bool) (w : World) (hr0_0 : Kd.C k74 w A0_0 l0_0.length l0_0) (hc0_0 : l0_0.length ≤ c0_0) (h : impl_RankOf.f k l0_0 a1 = some (r1, r2)) :
  Calls Tryz.prog 80 #[.agg #[.slice A0_0 l0_0.length c0_0], .string a1] w fun e w' => e = .returned (.tuple #[.int .i64 r1, .bool r2]) ∧ Below w.heap.size w w' := by
 have hu26 := Tryz.underlying26; have HR0_0 := am hr0_0; have HC0_0 := am hc0_0; clear hr0_0 hc0_0; have HB := am (Below.refl w.heap.size w)
 unfold impl_RankOf.f at h
 have H := h; clear h; obtain ⟨t1217, A3, H⟩ := bs H
 by_cases c4 : t1217 = true
 ·subst c4
  rw [if_pos rfl] at H; obtain ⟨t1218, A5, H⟩ := bs H; obtain ⟨⟨t1221, t1222⟩, A6, H⟩ := bs H; simp only [Option.some.injEq, Prod.mk.injEq] at H; obtain ⟨rfl, rfl⟩ := H
  go_enter Tryz.func80, Tryz.ntmps80
  go_wp2_with (first | ((with_reducible refine gate_dst (N := 2) rfl ?_); refine bx 2 #[.slice A0_0 l0_0.length c0_0] 26 ?_; intro gb1216 hg w7 hbox hb; have BK1216 := am (hbox); have GW1216 := uG hg HB; have GE1216 := uG hg HB; replace HB := uB HB hb; clear hb hbox hg; have hcz8_0 := bc (.slice A0_0 l0_0.length c0_0) BK1216 0; have hfz8_0 := blk_frozen BK1216.out 0) | ((with_reducible refine gd 10 110 ?_); refine gc 10 Tryz.func110 #[.agg #[.slice A0_0 l0_0.length c0_0], .string a1] (impl_areKept.calls k _ _ l0_0 a1 true _ ax145 (HC0_0.out) A3.out) ?_; rintro e w9 ⟨rfl, hb⟩; refine ⟨_, rfl, ?_⟩; replace BK1216 := ub BK1216 hb; replace HB := am (below_step ax279 hb); (try clear hb); have hcz10_0 := bc (.slice A0_0 l0_0.length c0_0) BK1216 0; have hfz10_0 := blk_frozen BK1216.out 0) | ((with_reducible refine gd 14 125 ?_); refine gc 14 Tryz.func125 #[.agg #[.slice A0_0 l0_0.length c0_0]] (impl_Trie_words.calls k _ _ l0_0 t1218 _ ax145 (HC0_0.out) A5.out) ?_; rintro e w11 ⟨v1219, rfl, ho0, hb⟩; refine ⟨_, rfl, ?_⟩; have HO1220 := am (Kd.R_lower ho0 (below_size ax279)); replace BK1216 := ub BK1216 hb; replace HB := am (below_step ax279 hb); (try clear hb ho0); obtain ⟨Ao12, co12, eo12⟩ := Kd.R_slice HO1220.out; subst eo12) | ((with_reducible refine gd 16 169 ?_); refine gc 16 Tryz.func169 #[.slice Ao12 t1218.length co12, .string a1] (slices_BinarySearch_string_string.calls k _ _ t1218 a1 t1221 t1222 _ (by repeat (first | exact (Kd.R_reads' HO1220.out).2.2 | (with_reducible refine Kd.C_alloc ?_ _) | (with_reducible refine Kd.C_drewN ?_ _) | (with_reducible refine Kd.C_drew ?_))) ((Kd.R_reads' HO1220.out).2.1) A6.out) ?_; rintro e w' ⟨rfl, ⟨nd, rfl⟩⟩; refine ⟨_, rfl, ?_⟩))
  go_ret2
  exact ⟨ax27, ax279⟩
 ·replace c4 := Bool.eq_false_iff.mpr c4
  subst c4; rw [if_neg (show ¬ (false = true) by decide)] at H; simp only [Option.some.injEq, Prod.mk.injEq] at H; obtain ⟨rfl, rfl⟩ := H
  go_enter Tryz.func80, Tryz.ntmps80
  go_wp2_with (first | ((with_reducible refine gate_dst (N := 2) rfl ?_); refine bx 2 #[.slice A0_0 l0_0.length c0_0] 26 ?_; intro gb1216 hg w13 hbox hb; have BK1216 := am (hbox); have GW1216 := uG hg HB; have GE1216 := uG hg HB; replace HB := uB HB hb; clear hb hbox hg; have hcz14_0 := bc (.slice A0_0 l0_0.length c0_0) BK1216 0; have hfz14_0 := blk_frozen BK1216.out 0) | ((with_reducible refine gd 10 110 ?_); refine gc 10 Tryz.func110 #[.agg #[.slice A0_0 l0_0.length c0_0], .string a1] (impl_areKept.calls k _ _ l0_0 a1 false _ ax145 (HC0_0.out) A3.out) ?_; rintro e w15 ⟨rfl, hb⟩; refine ⟨_, rfl, ?_⟩; replace BK1216 := ub BK1216 hb; replace HB := am (below_step ax279 hb); (try clear hb)))
  go_ret2
  exact ⟨ax27, ax279⟩

end Go.Proofs.YtcplbbflfgckbaaGreatDoor.X


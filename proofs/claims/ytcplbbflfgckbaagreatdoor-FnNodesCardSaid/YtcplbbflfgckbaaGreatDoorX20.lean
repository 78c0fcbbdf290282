-- By gen.py (the session's own program over the kit's printer): functions of the program, each with its contract. Lean checks it.
import Derived.Test.YtcplbbflfgckbaaGreatDoorX0
import Derived.Test.YtcplbbflfgckbaaGreatDoorX8
import Derived.Test.YtcplbbflfgckbaaGreatDoorX10
import Derived.Test.YtcplbbflfgckbaaGreatDoorX16
import Derived.Test.YtcplbbflfgckbaaGreatDoorX19
namespace Go.Proofs.YtcplbbflfgckbaaGreatDoor.X
open Go.RowKit Go.Proofs.YtcplbbflfgckbaaGreatDoorW.PrintWords Go.Proofs.YtcplbbflfgckbaaGreatDoorW.PrintLast Go.Proofs.YtcplbbflfgckbaaGreatDoorW.PrintMore
attribute [local go_sem] max2_int min2_int max_two min_two max_three min_three max_four min_four   -- for this text's walks alone
set_option linter.unusedVariables false
set_option linter.unusedSimpArgs false

/-! ### laws_rInts: function 72 -/
def laws_rInts.l0 : Nat → List Int → List Int → Int → Option (Bool)
 | 0, _, _, _ => none
 | k + 1, x0, x1, x5 => if x5 < (x0.length : Int) then (if 0 ≤ x5 then (if x5 < (x1.length : Int) then (if (rd x0 x5) = (rd x1 x5) then (laws_rInts.l0 k x0 x1 (wrap64 (x5 + 1))) else (some false)) else (none)) else (none)) else (some true)
def laws_rInts.f (k : Nat) (l0 : List Int) (l1 : List Int) : Option (Bool) := if (l0.length : Int) = (l1.length : Int) then (laws_rInts.l0 k l0 l1 0) else (some false)
set_option maxHeartbeats 8000000 in
set_option maxRecDepth 100000 in
theorem laws_rInts.calls (k : Nat) (A0 : Option Addr) (c0 : Nat) (l0 : List Int) (A1 : Option Addr) (c1 : Nat) (l1 : List Int) (r : Bool) (w : World) (hr0 : Kd.C (Kd.int .i64) w A0 l0.length l0) (hc0 : l0.length ≤ c0) (hr1 : Kd.C (Kd.int .i64) w A1 l1.length l1) (hc1 : l1.length ≤ c1) (h : laws_rInts.f k l0 l1 = some r) :
  Calls Tryz.prog 72 #[.slice A0 l0.length c0, .slice A1 l1.length c1] w fun e w' => e = .returned (.bool r) ∧ Drawn0 w w' := by
 have HR0 := am hr0; have HC0 := am hc0; clear hr0 hc0; have HR1 := am hr1; have HC1 := am hc1; clear hr1 hc1
 unfold laws_rInts.f at h
 have H := h; clear h
 by_cases c3 : (l0.length : Int) = (l1.length : Int)
 ·rw [if_pos c3] at H
  have c3b0 := beq_iff_eq.mpr c3; have c3b1 := bne_eq_false_iff_eq.mpr c3
  have c3b2 : (l0.length == l1.length) = true := by first | simpa using c3 | (simp at c3 ⊢; omega)
  clear c3; have H' := am H; clear H
  go_enter Tryz.func72, Tryz.ntmps72
  go_wp2
  repeat (go_quiet (fail); try go_wp2)
  go_loopg [5] k (fun kq v5 w' => ∃ (x5_1 : Int), v5 = .int .i64 x5_1 ∧ Aside0 (laws_rInts.l0 kq l0 l1 x5_1 = some r) ∧ Aside0 (kq ≤ k) ∧ Drawn0 w w')
  case atStart => exact ⟨(0), ax31, H', ⟨Nat.le_refl _⟩, by repeat (first | exact Drawn0.refl _ | apply Drawn0.step)⟩
  case round =>
   clear H'; (try clear c3);(try clear c3b2);(try clear c3b1);(try clear c3b0); obtain ⟨x5_1, rfl, HA, HK1, ⟨m1, rfl⟩⟩ := hrel
   cases gk with
   | zero => exact absurd HA.out (by simp [laws_rInts.l0])
   | succ k1 =>
    have H := HA.out; clear HA; simp only [laws_rInts.l0] at H
    by_cases c4 : x5_1 < (l0.length : Int)
    ·rw [if_pos c4] at H
     have c4b0 := decide_eq_true c4; clear c4
     by_cases c5 : 0 ≤ x5_1
     ·rw [if_pos c5] at H
      have c5b0 := decide_eq_true c5; clear c5
      by_cases c6 : x5_1 < (l1.length : Int)
      ·rw [if_pos c6] at H
       have c6b0 := decide_eq_true c6; clear c6
       by_cases c7 : (rd l0 x5_1) = (rd l1 x5_1)
       ·rw [if_pos c7] at H
        have c7b0 := beq_iff_eq.mpr c7; have c7b1 := bne_eq_false_iff_eq.mpr c7; clear c7; have H' := am H; clear H; have p1157 : 0 ≤ (x5_1 : Int) := of_decide_eq_true ax26; have q1157 : x5_1 < (l0.length : Int) := of_decide_eq_true ax26; obtain ⟨ad1157, e1157, hx1157_0⟩ := Kd.at_int HR0.out x5_1 p1157 q1157
        cases e1157
        replace p1157 := eq_true p1157; replace q1157 := eq_true q1157; have p1158 : 0 ≤ (x5_1 : Int) := of_decide_eq_true ax26; have q1158 : x5_1 < (l1.length : Int) := of_decide_eq_true ax26; obtain ⟨ad1158, e1158, hx1158_0⟩ := Kd.at_int HR1.out x5_1 p1158 q1158
        cases e1158
        replace p1158 := eq_true p1158; replace q1158 := eq_true q1158
        go_wp2
        repeat (go_quiet (fail); try go_wp2)
        go_roundg k1
        case measure => have := HK1.out; omega
        case rel => exact ⟨(wrap64 (x5_1 + 1)), ax31, H', ⟨by have := HK1.out; omega⟩, ax32⟩
       ·rw [if_neg c7] at H
        have c7b0 := beq_eq_false_iff_ne.mpr c7; have c7b1 := bne_iff_ne.mpr c7; obtain rfl := Option.some.inj H; have p1157 : 0 ≤ (x5_1 : Int) := of_decide_eq_true ax26; have q1157 : x5_1 < (l0.length : Int) := of_decide_eq_true ax26; obtain ⟨ad1157, e1157, hx1157_0⟩ := Kd.at_int HR0.out x5_1 p1157 q1157
        cases e1157
        replace p1157 := eq_true p1157; replace q1157 := eq_true q1157; have p1158 : 0 ≤ (x5_1 : Int) := of_decide_eq_true ax26; have q1158 : x5_1 < (l1.length : Int) := of_decide_eq_true ax26; obtain ⟨ad1158, e1158, hx1158_0⟩ := Kd.at_int HR1.out x5_1 p1158 q1158
        cases e1158
        replace p1158 := eq_true p1158; replace q1158 := eq_true q1158
        go_wp2
        repeat (go_quiet (fail); try go_wp2)
        go_ret
        exact ⟨ax31, ax32⟩
      ·exact ax5
     ·exact ax12
    ·exact ax22
 ·rw [if_neg c3] at H
  have c3b0 := beq_eq_false_iff_ne.mpr c3; have c3b1 := bne_iff_ne.mpr c3
  have c3b2 : (l0.length == l1.length) = false := by first | simpa using c3 | (simp at c3 ⊢; omega)
  obtain rfl := Option.some.inj H
  go_enter Tryz.func72, Tryz.ntmps72
  go_wp2
  repeat (go_quiet (fail); try go_wp2)
  go_ret
  exact ⟨ax31, ax32⟩

/-! ### impl_PrefixOf: function 73 -/
def impl_PrefixOf.f (k : Nat) (l0_0 : List (S74)) (a1 : Int) : Option (ByteArray × Bool) := (impl_isNode.f k l0_0 a1).bind fun t1160 => (if t1160 = true then ((impl_Trie_prefixes.f k l0_0).bind fun bt1161 => (if 0 ≤ a1 then (if a1 < (bt1161.1.length : Int) then (some (rdOf ByteArray.empty bt1161.1 a1, true)) else (none)) else (none))) else (some ((⟨#[]⟩ : ByteArray), false)))
set_option maxHeartbeats 8000000 in
set_option maxRecDepth 100000 in
theorem impl_PrefixOf.calls (k : Nat) (A0_0 : Option Addr) (c0_0 : Nat) (l0_0 : List (S74)) (a1 : Int) (r1 : ByteArray) (r2 : Bool) (w : World) (hr0_0 : Kd.C k74 w A0_0 l0_0.length l0_0) (hc0_0 : l0_0.length ≤ c0_0) (h : impl_PrefixOf.f k l0_0 a1 = some (r1, r2)) :
  Calls Tryz.prog 73 #[.agg #[.slice A0_0 l0_0.length c0_0], .int .i64 a1] w fun e w' => e = .returned (.tuple #[.string r1, .bool r2]) ∧ Below w.heap.size w w' := by
 have hu26 := Tryz.underlying26; have HR0_0 := am hr0_0; have HC0_0 := am hc0_0; clear hr0_0 hc0_0; have HB := am (Below.refl w.heap.size w)
 unfold impl_PrefixOf.f at h
 have H := h; clear h; obtain ⟨t1160, A3, H⟩ := bs H
 by_cases c4 : t1160 = true
 ·subst c4
  rw [if_pos rfl] at H; obtain ⟨⟨t1161, t1164⟩, A5, H⟩ := bs H
  by_cases c6 : 0 ≤ a1
  ·rw [if_pos c6] at H
   have c6b0 := decide_eq_true c6; clear c6
   by_cases c7 : a1 < (t1161.length : Int)
   ·rw [if_pos c7] at H
    have c7b0 := decide_eq_true c7; clear c7; simp only [Option.some.injEq, Prod.mk.injEq] at H; obtain ⟨rfl, rfl⟩ := H
    go_enter Tryz.func73, Tryz.ntmps73
    go_wp2_with (first | ((with_reducible refine gate_dst (N := 2) rfl ?_); refine bx 2 #[.slice A0_0 l0_0.length c0_0] 26 ?_; intro gb1159 hg w8 hbox hb; have BK1159 := am (hbox); have GW1159 := uG hg HB; have GE1159 := uG hg HB; replace HB := uB HB hb; clear hb hbox hg; have hcz9_0 := bc (.slice A0_0 l0_0.length c0_0) BK1159 0; have hfz9_0 := blk_frozen BK1159.out 0) | ((with_reducible refine gd 10 160 ?_); refine gc 10 Tryz.func160 #[.agg #[.slice A0_0 l0_0.length c0_0], .int .i64 a1] (impl_isNode.calls k _ _ l0_0 a1 true _ ax145 (HC0_0.out) A3.out) ?_; rintro e w10 ⟨rfl, hb⟩; refine ⟨_, rfl, ?_⟩; replace BK1159 := ub BK1159 hb; replace HB := am (below_step ax260 hb); (try clear hb); have hcz11_0 := bc (.slice A0_0 l0_0.length c0_0) BK1159 0; have hfz11_0 := blk_frozen BK1159.out 0) | ((with_reducible refine gd 14 164 ?_); refine gc 14 Tryz.func164 #[.agg #[.slice A0_0 l0_0.length c0_0]] (impl_Trie_prefixes.calls k _ _ l0_0 t1161 t1164 _ ax145 (HC0_0.out) A5.out) ?_; rintro e w12 ⟨v1162, rfl, ho0, hb⟩; refine ⟨_, rfl, ?_⟩; have HO1163 := am (Kd.R_lower ho0 (below_size ax260)); replace BK1159 := ub BK1159 hb; replace HB := am (below_step ax260 hb); (try clear hb ho0); obtain ⟨Ao13, co13, eo13⟩ := Kd.R_slice HO1163.out; subst eo13; have p1165 : 0 ≤ (a1 : Int) := of_decide_eq_true ax26; have q1165 : a1 < (t1161.length : Int) := of_decide_eq_true ax26; obtain ⟨ad1165, e1165, hx1165_0⟩ := Kd.at_string (Kd.R_reads' HO1163.out).2.2 a1 p1165 q1165; cases e1165; replace p1165 := eq_true p1165; replace q1165 := eq_true q1165))
    go_ret2
    exact ⟨ax27, ax260⟩
   ·exact ax4
  ·exact ax5
 ·replace c4 := Bool.eq_false_iff.mpr c4
  subst c4; rw [if_neg (show ¬ (false = true) by decide)] at H; simp only [Option.some.injEq, Prod.mk.injEq] at H; obtain ⟨rfl, rfl⟩ := H
  go_enter Tryz.func73, Tryz.ntmps73
  go_wp2_with (first | ((with_reducible refine gate_dst (N := 2) rfl ?_); refine bx 2 #[.slice A0_0 l0_0.length c0_0] 26 ?_; intro gb1159 hg w14 hbox hb; have BK1159 := am (hbox); have GW1159 := uG hg HB; have GE1159 := uG hg HB; replace HB := uB HB hb; clear hb hbox hg; have hcz15_0 := bc (.slice A0_0 l0_0.length c0_0) BK1159 0; have hfz15_0 := blk_frozen BK1159.out 0) | ((with_reducible refine gd 10 160 ?_); refine gc 10 Tryz.func160 #[.agg #[.slice A0_0 l0_0.length c0_0], .int .i64 a1] (impl_isNode.calls k _ _ l0_0 a1 false _ ax145 (HC0_0.out) A3.out) ?_; rintro e w16 ⟨rfl, hb⟩; refine ⟨_, rfl, ?_⟩; replace BK1159 := ub BK1159 hb; replace HB := am (below_step ax260 hb); (try clear hb)))
  go_ret2
  exact ⟨ax27, ax260⟩

/-! ### spec_PrefixOf: function 74 -/
def spec_PrefixOf.f (k : Nat) (l0_0 : List (S74)) (a1 : Int) : Option (ByteArray × Bool) := (spec_l2Good.f k l0_0 a1).bind fun t1167 => (if t1167 = true then ((spec_l2Prefix.f k l0_0 a1).bind fun t1168 => (some (t1168, true))) else (some ((⟨#[]⟩ : ByteArray), false)))
set_option maxHeartbeats 8000000 in
set_option maxRecDepth 100000 in
theorem spec_PrefixOf.calls (k : Nat) (A0_0 : Option Addr) (c0_0 : Nat) (l0_0 : List (S74)) (a1 : Int) (r1 : ByteArray) (r2 : Bool) (w : World) (hr0_0 : Kd.C k74 w A0_0 l0_0.length l0_0) (hc0_0 : l0_0.length ≤ c0_0) (h : spec_PrefixOf.f k l0_0 a1 = some (r1, r2)) :
  Calls Tryz.prog 74 #[.agg #[.slice A0_0 l0_0.length c0_0], .int .i64 a1] w fun e w' => e = .returned (.tuple #[.string r1, .bool r2]) ∧ Below w.heap.size w w' := by
 have hu26 := Tryz.underlying26; have HR0_0 := am hr0_0; have HC0_0 := am hc0_0; clear hr0_0 hc0_0; have HB := am (Below.refl w.heap.size w)
 unfold spec_PrefixOf.f at h
 have H := h; clear h; obtain ⟨t1167, A3, H⟩ := bs H
 by_cases c4 : t1167 = true
 ·subst c4
  rw [if_pos rfl] at H; obtain ⟨t1168, A5, H⟩ := bs H; simp only [Option.some.injEq, Prod.mk.injEq] at H; obtain ⟨rfl, rfl⟩ := H
  go_enter Tryz.func74, Tryz.ntmps74
  go_wp2_with (first | ((with_reducible refine gate_dst (N := 2) rfl ?_); refine bx 2 #[.slice A0_0 l0_0.length c0_0] 26 ?_; intro gb1166 hg w6 hbox hb; have BK1166 := am (hbox); have GW1166 := uG hg HB; have GE1166 := uG hg HB; replace HB := uB HB hb; clear hb hbox hg; have hcz7_0 := bc (.slice A0_0 l0_0.length c0_0) BK1166 0; have hfz7_0 := blk_frozen BK1166.out 0) | ((with_reducible refine gd 8 162 ?_); refine gc 8 Tryz.func162 #[.agg #[.slice A0_0 l0_0.length c0_0], .int .i64 a1] (spec_l2Good.calls k _ _ l0_0 a1 true _ ax145 (HC0_0.out) A3.out) ?_; rintro e w8 ⟨rfl, hb⟩; refine ⟨_, rfl, ?_⟩; replace BK1166 := ub BK1166 hb; replace HB := am (below_step ax261 hb); (try clear hb); have hcz9_0 := bc (.slice A0_0 l0_0.length c0_0) BK1166 0; have hfz9_0 := blk_frozen BK1166.out 0) | ((with_reducible refine gd 12 165 ?_); refine gc 12 Tryz.func165 #[.agg #[.slice A0_0 l0_0.length c0_0], .int .i64 a1] (spec_l2Prefix.calls k _ _ l0_0 a1 t1168 _ ax145 (HC0_0.out) A5.out) ?_; rintro e w10 ⟨rfl, hb⟩; refine ⟨_, rfl, ?_⟩; replace BK1166 := ub BK1166 hb; replace HB := am (below_step ax261 hb); (try clear hb)))
  go_ret2
  exact ⟨ax27, ax261⟩
 ·replace c4 := Bool.eq_false_iff.mpr c4
  subst c4; rw [if_neg (show ¬ (false = true) by decide)] at H; simp only [Option.some.injEq, Prod.mk.injEq] at H; obtain ⟨rfl, rfl⟩ := H
  go_enter Tryz.func74, Tryz.ntmps74
  go_wp2_with (first | ((with_reducible refine gate_dst (N := 2) rfl ?_); refine bx 2 #[.slice A0_0 l0_0.length c0_0] 26 ?_; intro gb1166 hg w11 hbox hb; have BK1166 := am (hbox); have GW1166 := uG hg HB; have GE1166 := uG hg HB; replace HB := uB HB hb; clear hb hbox hg; have hcz12_0 := bc (.slice A0_0 l0_0.length c0_0) BK1166 0; have hfz12_0 := blk_frozen BK1166.out 0) | ((with_reducible refine gd 8 162 ?_); refine gc 8 Tryz.func162 #[.agg #[.slice A0_0 l0_0.length c0_0], .int .i64 a1] (spec_l2Good.calls k _ _ l0_0 a1 false _ ax145 (HC0_0.out) A3.out) ?_; rintro e w13 ⟨rfl, hb⟩; refine ⟨_, rfl, ?_⟩; replace BK1166 := ub BK1166 hb; replace HB := am (below_step ax261 hb); (try clear hb)))
  go_ret2
  exact ⟨ax27, ax261⟩

/-! ### impl_CountUnder: function 75 -/
def impl_CountUnder.f (k : Nat) (l0_0 : List (S74)) (a1 : Int) : Option (Int × Bool) := (impl_PrefixOf.f k l0_0 a1).bind fun bt1170 => (if bt1170.2 = true then ((impl_Trie_under.f k l0_0 bt1170.1).bind fun t1172 => (some ((t1172.length : Int), true))) else (some (0, false)))
set_option maxHeartbeats 8000000 in
set_option maxRecDepth 100000 in
theorem impl_CountUnder.calls (k : Nat) (A0_0 : Option Addr) (c0_0 : Nat) (l0_0 : List (S74)) (a1 : Int) (r1 : Int) (r2 : Bool) (w : World) (hr0_0 : Kd.C k74 w A0_0 l0_0.length l0_0) (hc0_0 : l0_0.length ≤ c0_0) (h : impl_CountUnder.f k l0_0 a1 = some (r1, r2)) :
  Calls Tryz.prog 75 #[.agg #[.slice A0_0 l0_0.length c0_0], .int .i64 a1] w fun e w' => e = .returned (.tuple #[.int .i64 r1, .bool r2]) ∧ Below w.heap.size w w' := by
 have hu26 := Tryz.underlying26; have HR0_0 := am hr0_0; have HC0_0 := am hc0_0; clear hr0_0 hc0_0; have HB := am (Below.refl w.heap.size w)
 unfold impl_CountUnder.f at h
 have H := h; clear h; obtain ⟨⟨t1170, t1171⟩, A3, H⟩ := bs H
 by_cases c4 : t1171 = true
 ·subst c4
  rw [if_pos rfl] at H; obtain ⟨t1172, A5, H⟩ := bs H; simp only [Option.some.injEq, Prod.mk.injEq] at H; obtain ⟨rfl, rfl⟩ := H
  go_enter Tryz.func75, Tryz.ntmps75
  go_wp2_with (first | ((with_reducible refine gate_dst (N := 2) rfl ?_); refine bx 2 #[.slice A0_0 l0_0.length c0_0] 26 ?_; intro gb1169 hg w6 hbox hb; have BK1169 := am (hbox); have GW1169 := uG hg HB; have GE1169 := uG hg HB; replace HB := uB HB hb; clear hb hbox hg; have hcz7_0 := bc (.slice A0_0 l0_0.length c0_0) BK1169 0; have hfz7_0 := blk_frozen BK1169.out 0) | ((with_reducible refine gd 11 73 ?_); refine gc 11 Tryz.func73 #[.agg #[.slice A0_0 l0_0.length c0_0], .int .i64 a1] (impl_PrefixOf.calls k _ _ l0_0 a1 t1170 true _ ax145 (HC0_0.out) A3.out) ?_; rintro e w8 ⟨rfl, hb⟩; refine ⟨_, rfl, ?_⟩; replace BK1169 := ub BK1169 hb; replace HB := am (below_step ax262 hb); (try clear hb); have hcz9_0 := bc (.slice A0_0 l0_0.length c0_0) BK1169 0; have hfz9_0 := blk_frozen BK1169.out 0) | ((with_reducible refine gd 18 112 ?_); refine gc 18 Tryz.func112 #[.agg #[.slice A0_0 l0_0.length c0_0], .string t1170] (impl_Trie_under.calls k _ _ l0_0 t1170 t1172 _ ax145 (HC0_0.out) A5.out) ?_; rintro e w10 ⟨v1173, rfl, ho0, hb⟩; refine ⟨_, rfl, ?_⟩; have HO1174 := am (Kd.R_lower ho0 (below_size ax262)); replace BK1169 := ub BK1169 hb; replace HB := am (below_step ax262 hb); (try clear hb ho0); obtain ⟨Ao11, co11, eo11⟩ := Kd.R_slice HO1174.out; subst eo11))
  go_ret2
  exact ⟨ax27, ax262⟩
 ·replace c4 := Bool.eq_false_iff.mpr c4
  subst c4; rw [if_neg (show ¬ (false = true) by decide)] at H; simp only [Option.some.injEq, Prod.mk.injEq] at H; obtain ⟨rfl, rfl⟩ := H
  go_enter Tryz.func75, Tryz.ntmps75
  go_wp2_with (first | ((with_reducible refine gate_dst (N := 2) rfl ?_); refine bx 2 #[.slice A0_0 l0_0.length c0_0] 26 ?_; intro gb1169 hg w12 hbox hb; have BK1169 := am (hbox); have GW1169 := uG hg HB; have GE1169 := uG hg HB; replace HB := uB HB hb; clear hb hbox hg; have hcz13_0 := bc (.slice A0_0 l0_0.length c0_0) BK1169 0; have hfz13_0 := blk_frozen BK1169.out 0) | ((with_reducible refine gd 11 73 ?_); refine gc 11 Tryz.func73 #[.agg #[.slice A0_0 l0_0.length c0_0], .int .i64 a1] (impl_PrefixOf.calls k _ _ l0_0 a1 t1170 false _ ax145 (HC0_0.out) A3.out) ?_; rintro e w14 ⟨rfl, hb⟩; refine ⟨_, rfl, ?_⟩; replace BK1169 := ub BK1169 hb; replace HB := am (below_step ax262 hb); (try clear hb)))
  go_ret2
  exact ⟨ax27, ax262⟩

end Go.Proofs.YtcplbbflfgckbaaGreatDoor.X


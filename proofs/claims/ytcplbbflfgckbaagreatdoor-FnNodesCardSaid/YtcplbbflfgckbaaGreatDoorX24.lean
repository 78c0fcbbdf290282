-- By gen.py (the session's own program over the kit's printer): functions of the program, each with its contract. Lean checks it.
import Derived.Test.YtcplbbflfgckbaaGreatDoorX0
import Derived.Test.YtcplbbflfgckbaaGreatDoorX8
import Derived.Test.YtcplbbflfgckbaaGreatDoorX9
import Derived.Test.YtcplbbflfgckbaaGreatDoorX10
import Derived.Test.YtcplbbflfgckbaaGreatDoorX14
import Derived.Test.YtcplbbflfgckbaaGreatDoorX19
namespace Go.Proofs.YtcplbbflfgckbaaGreatDoor.X
open Go.RowKit Go.Proofs.YtcplbbflfgckbaaGreatDoorW.PrintWords Go.Proofs.YtcplbbflfgckbaaGreatDoorW.PrintLast Go.Proofs.YtcplbbflfgckbaaGreatDoorW.PrintMore
attribute [local go_sem] max2_int min2_int max_two min_two max_three min_three max_four min_four   -- for this text's walks alone
set_option linter.unusedVariables false
set_option linter.unusedSimpArgs false

/-! ### impl_DepthOf: function 85 -/
def impl_DepthOf.l0 : Nat → Int → List ByteArray → Int → Int → Option (Int × Bool)
 | 0, _, _, _, _ => none
 | k + 1, x4, x11, x12, x13 => if x13 < x12 then (if 0 ≤ x13 then (if x13 < (x11.length : Int) then (impl_DepthOf.l0 k (mx x4 ((rdOf ByteArray.empty x11 x13).size : Int)) x11 x12 (wrap64 (x13 + 1))) else (none)) else (none)) else (some (x4, true))
def impl_DepthOf.f (k : Nat) (l0_0 : List (S74)) : Option (Int × Bool) := (impl_isTrie.f k l0_0).bind fun t1263 => (if t1263 = true then ((impl_Trie_words.f k l0_0).bind fun t1264 => (impl_DepthOf.l0 k 0 t1264 (t1264.length : Int) 0)) else (some (0, false)))
set_option maxHeartbeats 8000000 in
set_option maxRecDepth 100000 in
theorem impl_DepthOf.calls (k : Nat) (A0_0 : Option Addr) (c0_0 : Nat) (l0_0 : List (S74)) (r1 : Int) (r2 : Bool) (w : World) (hr0_0 : Kd.C k74 w A0_0 l0_0.length l0_0) (hc0_0 : l0_0.length ≤ c0_0) (h : impl_DepthOf.f k l0_0 = some (r1, r2)) :
  Calls Tryz.prog 85 #[.agg #[.slice A0_0 l0_0.length c0_0]] w fun e w' => e = .returned (.tuple #[.int .i64 r1, .bool r2]) ∧ Below w.heap.size w w' := by
 have hu26 := Tryz.underlying26; have HR0_0 := am hr0_0; have HC0_0 := am hc0_0; clear hr0_0 hc0_0; have HB := am (Below.refl w.heap.size w)
 unfold impl_DepthOf.f at h
 have H := h; clear h; obtain ⟨t1263, A2, H⟩ := bs H
 by_cases c3 : t1263 = true
 ·subst c3
  rw [if_pos rfl] at H; obtain ⟨t1264, A4, H⟩ := bs H; have H' := am H; clear H
  go_enter Tryz.func85, Tryz.ntmps85
  go_wp2_with (first | ((with_reducible refine gate_dst (N := 1) rfl ?_); refine bx 1 #[.slice A0_0 l0_0.length c0_0] 26 ?_; intro gb1262 hg w5 hbox hb; have BK1262 := am (hbox); have GW1262 := uG hg HB; have GE1262 := uG hg HB; replace HB := uB HB hb; clear hb hbox hg; have hcz6_0 := bc (.slice A0_0 l0_0.length c0_0) BK1262 0; have hfz6_0 := blk_frozen BK1262.out 0) | ((with_reducible refine gd 8 124 ?_); refine gc 8 Tryz.func124 #[.agg #[.slice A0_0 l0_0.length c0_0]] (impl_isTrie.calls k _ _ l0_0 true _ ax145 (HC0_0.out) A2.out) ?_; rintro e w7 ⟨rfl, hb⟩; refine ⟨_, rfl, ?_⟩; replace BK1262 := ub BK1262 hb; replace HB := am (below_step ax297 hb); (try clear hb); have hcz8_0 := bc (.slice A0_0 l0_0.length c0_0) BK1262 0; have hfz8_0 := blk_frozen BK1262.out 0) | ((with_reducible refine gd 11 125 ?_); refine gc 11 Tryz.func125 #[.agg #[.slice A0_0 l0_0.length c0_0]] (impl_Trie_words.calls k _ _ l0_0 t1264 _ ax145 (HC0_0.out) A4.out) ?_; rintro e w9 ⟨v1265, rfl, ho0, hb⟩; refine ⟨_, rfl, ?_⟩; have HO1266 := am (Kd.R_lower ho0 (below_size ax297)); replace BK1262 := ub BK1262 hb; replace HB := am (below_step ax297 hb); (try clear hb ho0); obtain ⟨Ao10, co10, eo10⟩ := Kd.R_slice HO1266.out; subst eo10))
  go_loopg [4, 13] k (fun kq v4 v13 w' => ∃ (x4_1 : Int) (x13_1 : Int), v4 = .int .i64 x4_1 ∧ v13 = .int .i64 x13_1 ∧ Aside0 (impl_DepthOf.l0 kq x4_1 t1264 (t1264.length : Int) x13_1 = some (r1, r2)) ∧ Aside0 (kq ≤ k) ∧ Aside0 (Kd.R Kd.string 9 w' w.heap.size (fun _ => True) (.slice Ao10 t1264.length co10) t1264) ∧ Aside0 (w'.heap[gb1262]? = some (.cells #[(.slice A0_0 l0_0.length c0_0)] 26 (0, 0))) ∧ Aside0 (Below w.heap.size w w'))
  case atStart => exact ⟨(0), (0), ax31, ax31, H', ⟨Nat.le_refl _⟩, ⟨(by (with_reducible repeat (first | apply Kd.R_alloc | apply Kd.R_drewN | apply Kd.R_drew)); exact HO1266.out)⟩, ⟨ax298⟩, ⟨ax297⟩⟩
  case round =>
   clear H'; (try clear hcz6_0);(try clear hfz6_0);(try clear hcz8_0);(try clear hfz8_0);(try clear c3); obtain ⟨x4_1, x13_1, rfl, rfl, HA, HK1, HO_11, BK1262, HB⟩ := hrel
   cases gk with
   | zero => exact absurd HA.out (by simp [impl_DepthOf.l0])
   | succ k1 =>
    have H := HA.out; clear HA; simp only [impl_DepthOf.l0] at H
    by_cases c11 : x13_1 < (t1264.length : Int)
    ·rw [if_pos c11] at H
     have c11b0 := decide_eq_true c11; clear c11
     by_cases c12 : 0 ≤ x13_1
     ·rw [if_pos c12] at H
      have c12b0 := decide_eq_true c12; clear c12
      by_cases c13 : x13_1 < (t1264.length : Int)
      ·rw [if_pos c13] at H
       have c13b0 := decide_eq_true c13; clear c13; obtain ⟨ji14, hji14⟩ : ∃ j_ : Int, (mx x4_1 ((rdOf ByteArray.empty t1264 x13_1).size : Int)) = j_ := ⟨_, rfl⟩; (first | rw [hji14] at H | simp only [hji14] at H); have hji14_ : (if x4_1 < ((rdOf ByteArray.empty t1264 x13_1).size : Int) then ((rdOf ByteArray.empty t1264 x13_1).size : Int) else x4_1) = ji14 := hji14; (try have hji14_n := hji14_); (try simp only [Int.ofNat_lt] at hji14_n); have H' := am H; clear H; have p1267 : 0 ≤ (x13_1 : Int) := of_decide_eq_true ax26; have q1267 : x13_1 < (t1264.length : Int) := of_decide_eq_true ax26; obtain ⟨ad1267, e1267, hx1267_0⟩ := Kd.at_string (Kd.R_reads' HO_11.out).2.2 x13_1 p1267 q1267
       cases e1267
       replace p1267 := eq_true p1267; replace q1267 := eq_true q1267
       go_wp2
       go_roundg k1
       case measure => have := HK1.out; omega
       case rel => exact ⟨(ji14), (wrap64 (x13_1 + 1)), (by first | rfl | (simp; done) | (simp only [← hji14] <;> (first | rfl | simp)) | (simp [*]; done)), ax31, H', ⟨by have := HK1.out; omega⟩, ⟨(by (with_reducible repeat (first | apply Kd.R_alloc | apply Kd.R_drewN | apply Kd.R_drew)); exact HO_11.out)⟩, ⟨ax298⟩, ⟨ax297⟩⟩
      ·exact ax19
     ·rw [if_neg c12] at H
      exact absurd H (by simp)
    ·rw [if_neg c11] at H
     have c11b0 := decide_eq_false c11; clear c11; simp only [Option.some.injEq, Prod.mk.injEq] at H; obtain ⟨rfl, rfl⟩ := H
     go_wp2
     go_ret2
     exact ⟨ax27, ax297⟩
 ·replace c3 := Bool.eq_false_iff.mpr c3
  subst c3; rw [if_neg (show ¬ (false = true) by decide)] at H; simp only [Option.some.injEq, Prod.mk.injEq] at H; obtain ⟨rfl, rfl⟩ := H
  go_enter Tryz.func85, Tryz.ntmps85
  go_wp2_with (first | ((with_reducible refine gate_dst (N := 1) rfl ?_); refine bx 1 #[.slice A0_0 l0_0.length c0_0] 26 ?_; intro gb1262 hg w15 hbox hb; have BK1262 := am (hbox); have GW1262 := uG hg HB; have GE1262 := uG hg HB; replace HB := uB HB hb; clear hb hbox hg; have hcz16_0 := bc (.slice A0_0 l0_0.length c0_0) BK1262 0; have hfz16_0 := blk_frozen BK1262.out 0) | ((with_reducible refine gd 8 124 ?_); refine gc 8 Tryz.func124 #[.agg #[.slice A0_0 l0_0.length c0_0]] (impl_isTrie.calls k _ _ l0_0 false _ ax145 (HC0_0.out) A2.out) ?_; rintro e w17 ⟨rfl, hb⟩; refine ⟨_, rfl, ?_⟩; replace BK1262 := ub BK1262 hb; replace HB := am (below_step ax297 hb); (try clear hb)))
  go_ret2
  exact ⟨ax27, ax297⟩

/-! ### spec_DepthOf: function 86 -/
def spec_DepthOf.l0 : Nat → Int → List ByteArray → Int → Option (Int × Bool)
 | 0, _, _, _ => none
 | k + 1, x4, x5, x6 => if x6 < (x5.length : Int) then (if 0 ≤ x6 then ((spec_l1Most.f x4 ((rdOf ByteArray.empty x5 x6).size : Int)).bind fun t1274 => (spec_DepthOf.l0 k t1274 x5 (wrap64 (x6 + 1)))) else (none)) else (some (x4, true))
def spec_DepthOf.f (k : Nat) (l0_0 : List (S74)) : Option (Int × Bool) := (spec_l2Trie.f k l0_0).bind fun t1269 => (if t1269 = true then ((spec_l2Words.f k l0_0).bind fun t1270 => (spec_DepthOf.l0 k 0 t1270 0)) else (some (0, false)))
set_option maxHeartbeats 8000000 in
set_option maxRecDepth 100000 in
theorem spec_DepthOf.calls (k : Nat) (A0_0 : Option Addr) (c0_0 : Nat) (l0_0 : List (S74)) (r1 : Int) (r2 : Bool) (w : World) (hr0_0 : Kd.C k74 w A0_0 l0_0.length l0_0) (hc0_0 : l0_0.length ≤ c0_0) (h : spec_DepthOf.f k l0_0 = some (r1, r2)) :
  Calls Tryz.prog 86 #[.agg #[.slice A0_0 l0_0.length c0_0]] w fun e w' => e = .returned (.tuple #[.int .i64 r1, .bool r2]) ∧ Below w.heap.size w w' := by
 have hu26 := Tryz.underlying26; have HR0_0 := am hr0_0; have HC0_0 := am hc0_0; clear hr0_0 hc0_0; have HB := am (Below.refl w.heap.size w)
 unfold spec_DepthOf.f at h
 have H := h; clear h; obtain ⟨t1269, A2, H⟩ := bs H
 by_cases c3 : t1269 = true
 ·subst c3
  rw [if_pos rfl] at H; obtain ⟨t1270, A4, H⟩ := bs H; have H' := am H; clear H
  go_enter Tryz.func86, Tryz.ntmps86
  go_wp2_with (first | ((with_reducible refine gate_dst (N := 1) rfl ?_); refine bx 1 #[.slice A0_0 l0_0.length c0_0] 26 ?_; intro gb1268 hg w5 hbox hb; have BK1268 := am (hbox); have GW1268 := uG hg HB; have GE1268 := uG hg HB; replace HB := uB HB hb; clear hb hbox hg; have hcz6_0 := bc (.slice A0_0 l0_0.length c0_0) BK1268 0; have hfz6_0 := blk_frozen BK1268.out 0) | ((with_reducible refine gd 8 113 ?_); refine gc 8 Tryz.func113 #[.agg #[.slice A0_0 l0_0.length c0_0]] (spec_l2Trie.calls k _ _ l0_0 true _ ax145 (HC0_0.out) A2.out) ?_; rintro e w7 ⟨rfl, hb⟩; refine ⟨_, rfl, ?_⟩; replace BK1268 := ub BK1268 hb; replace HB := am (below_step ax299 hb); (try clear hb); have hcz8_0 := bc (.slice A0_0 l0_0.length c0_0) BK1268 0; have hfz8_0 := blk_frozen BK1268.out 0) | ((with_reducible refine gd 11 115 ?_); refine gc 11 Tryz.func115 #[.agg #[.slice A0_0 l0_0.length c0_0]] (spec_l2Words.calls k _ _ l0_0 t1270 _ ax145 (HC0_0.out) A4.out) ?_; rintro e w9 ⟨v1271, rfl, ho0, hb⟩; refine ⟨_, rfl, ?_⟩; have HO1272 := am (Kd.R_lower ho0 (below_size ax299)); replace BK1268 := ub BK1268 hb; replace HB := am (below_step ax299 hb); (try clear hb ho0)))
  go_loopg [4, 6] k (fun kq v4 v6 w' => ∃ (x4_1 : Int) (x6_1 : Int), v4 = .int .i64 x4_1 ∧ v6 = .int .i64 x6_1 ∧ Aside0 (spec_DepthOf.l0 kq x4_1 t1270 x6_1 = some (r1, r2)) ∧ Aside0 (kq ≤ k) ∧ Aside0 (Kd.R Kd.string 9 w' w.heap.size (fun _ => True) v1271 t1270) ∧ Aside0 (w'.heap[gb1268]? = some (.cells #[(.slice A0_0 l0_0.length c0_0)] 26 (0, 0))) ∧ Aside0 (Below w.heap.size w w'))
  case atStart => exact ⟨(0), (0), ax31, ax31, H', ⟨Nat.le_refl _⟩, ⟨(by (with_reducible repeat (first | apply Kd.R_alloc | apply Kd.R_drewN | apply Kd.R_drew)); exact HO1272.out)⟩, ⟨ax300⟩, ⟨ax299⟩⟩
  case round =>
   clear H'; (try clear hcz6_0);(try clear hfz6_0);(try clear hcz8_0);(try clear hfz8_0);(try clear c3); obtain ⟨x4_1, x6_1, rfl, rfl, HA, HK1, HO_5, BK1268, HB⟩ := hrel
   cases gk with
   | zero => exact absurd HA.out (by simp [spec_DepthOf.l0])
   | succ k1 =>
    have H := HA.out; clear HA; simp only [spec_DepthOf.l0] at H
    by_cases c10 : x6_1 < (t1270.length : Int)
    ·rw [if_pos c10] at H
     have c10b0 := decide_eq_true c10; clear c10
     by_cases c11 : 0 ≤ x6_1
     ·rw [if_pos c11] at H
      have c11b0 := decide_eq_true c11; clear c11; obtain ⟨t1274, A12, H⟩ := bs H; have H' := am H; clear H; obtain ⟨Ao13, co13, eo13⟩ := Kd.R_slice HO_5.out; subst eo13; have p1273 : 0 ≤ (x6_1 : Int) := of_decide_eq_true ax26; have q1273 : x6_1 < (t1270.length : Int) := of_decide_eq_true ax26; obtain ⟨ad1273, e1273, hx1273_0⟩ := Kd.at_string (Kd.R_reads' HO_5.out).2.2 x6_1 p1273 q1273
      cases e1273
      replace p1273 := eq_true p1273; replace q1273 := eq_true q1273
      go_wp2_with (first | ((with_reducible refine gd 24 134 ?_); refine gc 24 Tryz.func134 #[.int .i64 x4_1, .int .i64 ((rdOf ByteArray.empty t1270 x6_1).size : Int)] (spec_l1Most.calls x4_1 ((rdOf ByteArray.empty t1270 x6_1).size : Int) t1274 _ A12.out) ?_; rintro e w' ⟨rfl, ⟨nd, rfl⟩⟩; refine ⟨_, rfl, ?_⟩))
      go_roundg k1
      case measure => have := HK1.out; omega
      case rel => exact ⟨(t1274), (wrap64 (x6_1 + 1)), ax31, ax31, H', ⟨by have := HK1.out; omega⟩, ⟨ax238⟩, ⟨ax300⟩, ⟨ax299⟩⟩
     ·exact ax8
    ·rw [if_neg c10] at H
     have c10b0 := decide_eq_false c10; clear c10; simp only [Option.some.injEq, Prod.mk.injEq] at H; obtain ⟨rfl, rfl⟩ := H; obtain ⟨Ao14, co14, eo14⟩ := Kd.R_slice HO_5.out; subst eo14
     go_wp2
     go_ret2
     exact ⟨ax27, ax299⟩
 ·replace c3 := Bool.eq_false_iff.mpr c3
  subst c3; rw [if_neg (show ¬ (false = true) by decide)] at H; simp only [Option.some.injEq, Prod.mk.injEq] at H; obtain ⟨rfl, rfl⟩ := H
  go_enter Tryz.func86, Tryz.ntmps86
  go_wp2_with (first | ((with_reducible refine gate_dst (N := 1) rfl ?_); refine bx 1 #[.slice A0_0 l0_0.length c0_0] 26 ?_; intro gb1268 hg w15 hbox hb; have BK1268 := am (hbox); have GW1268 := uG hg HB; have GE1268 := uG hg HB; replace HB := uB HB hb; clear hb hbox hg; have hcz16_0 := bc (.slice A0_0 l0_0.length c0_0) BK1268 0; have hfz16_0 := blk_frozen BK1268.out 0) | ((with_reducible refine gd 8 113 ?_); refine gc 8 Tryz.func113 #[.agg #[.slice A0_0 l0_0.length c0_0]] (spec_l2Trie.calls k _ _ l0_0 false _ ax145 (HC0_0.out) A2.out) ?_; rintro e w17 ⟨rfl, hb⟩; refine ⟨_, rfl, ?_⟩; replace BK1268 := ub BK1268 hb; replace HB := am (below_step ax299 hb); (try clear hb)))
  go_ret2
  exact ⟨ax27, ax299⟩

/-! ### strings_Join: function 171: a contract of our own -/
def strings_Join.f (l0 : List ByteArray) (a1 : ByteArray) : Option ByteArray := if l0.length ≤ 1000000000 ∧ (Lib.join (l0.map (·.data.toList)) a1.data.toList).length ≤ 140737488355328 then some ⟨(Lib.join (l0.map (·.data.toList)) a1.data.toList).toArray⟩ else none
theorem strings_Join.calls (A : Option Addr) (c : Nat) (l0 : List ByteArray) (a1 : ByteArray) (r : ByteArray) (w : World) (hr : Kd.string.C w A l0.length l0) (hc : l0.length ≤ c) (h : strings_Join.f l0 a1 = some r) :
  Calls Tryz.prog 171 #[.slice A l0.length c, .string a1] w fun e w' => e = .returned (.string r) ∧ Below w.heap.size w w' := by
 unfold strings_Join.f at h
 by_cases hm : l0.length ≤ 1000000000 ∧ (Lib.join (l0.map (·.data.toList)) a1.data.toList).length ≤ 140737488355328
 case neg => rw [if_neg hm] at h; cases h
 rw [if_pos hm] at h; obtain rfl := Option.some.inj h; clear h
 by_cases h0 : l0.length = 0
 ·obtain rfl := List.length_eq_zero_iff.1 h0
  refine (Tryz.strings_Join_none A c a1 w).mono ?_; rintro e w' ⟨rfl, rfl⟩
  exact ⟨rfl, Below.refl _ _⟩
 obtain ⟨ad, hA, hcell⟩ := Kd.at_string hr 0 (by omega) (by omega); have hlt := World.block_lt_of_cell? w _ hcell; obtain ⟨b, o, sp⟩ := ad
 have hsp : sp = none := by
  cases sp with
  | none => rfl
  | some s =>
   simp only [Addr.add, Int.toNat_zero, if_true, World.cell?] at hcell
   split at hcell <;> simp at hcell
 subst hsp; subst hA
 have hcells : ∀ (j : Nat) x, l0[j]? = some x → w.cell? ⟨b, o + j, none⟩ = some (.string x) := by
  intro j x hx; have hj : j < l0.length := (List.getElem?_eq_some_iff.1 hx).1; obtain ⟨ad, hA, hc2⟩ := Kd.at_string hr j (by omega) (by omega)
  cases hA
  rw [Int.toNat_natCast] at hc2
  have e1 : Addr.add ⟨b, o, none⟩ j = ⟨b, o + j, none⟩ := by
   unfold Addr.add
   by_cases hj0 : j = 0
   ·subst hj0; rfl
   ·rw [if_neg hj0]
  rw [e1] at hc2; rw [hc2]
  congr 2
  show l0.getD (j : Int).toNat _ = x
  rw [Int.toNat_natCast, List.getD_eq_getElem?_getD, hx]; rfl
 refine (Tryz.strings_Join b o c l0 a1 w hcells hlt (by omega) hc hm.2).mono ?_; rintro e w' ⟨rfl, hb⟩
 exact ⟨rfl, hb⟩

/-! ### impl_SaveOf: function 87 -/
def impl_SaveOf.f (k : Nat) (l0_0 : List (S74)) : Option (Int × Bool) := (impl_isTrie.f k l0_0).bind fun t1276 => (if t1276 = true then ((impl_Trie_words.f k l0_0).bind fun t1277 => ((strings_Join.f t1277 (⟨#[]⟩ : ByteArray)).bind fun t1280 => (some (wrap64 ((wrap64 ((t1280.size : Int) - (l0_0.length : Int))) + 1), true)))) else (some (0, false)))
def impl_SaveOf.T3 : Bool × List (List Nat × List Nat) := (true, [([], []), ([0], [0]), ([1, 1], [1]), ([2], [2]), ([], []), ([4], [4]), ([5], [5]), ([3, 6], [3, 6]), ([7], [7]), ([8, 2, 0, 1, 2, 3, 4, 5, 6, 7, 8], [8]), ([9, 0, 1, 2, 3, 4, 5, 6, 7, 8, 9], [])])
def impl_SaveOf.B3 : List Nat := [0, 1, 3, 7, 0, 16, 48, 127, 255, 511, 1023]
theorem impl_SaveOf.tab3 : rtab .any (opsOf Tryz.f87 3) = impl_SaveOf.T3 := by kernel_rfl
theorem impl_SaveOf.bits3 : waitsOk impl_SaveOf.T3.2 impl_SaveOf.B3 = true := by kernel_rfl
set_option maxHeartbeats 8000000 in
set_option maxRecDepth 100000 in
theorem impl_SaveOf.calls (k : Nat) (A0_0 : Option Addr) (c0_0 : Nat) (l0_0 : List (S74)) (r1 : Int) (r2 : Bool) (w : World) (hr0_0 : Kd.C k74 w A0_0 l0_0.length l0_0) (hc0_0 : l0_0.length ≤ c0_0) (h : impl_SaveOf.f k l0_0 = some (r1, r2)) :
  Calls Tryz.prog 87 #[.agg #[.slice A0_0 l0_0.length c0_0]] w fun e w' => e = .returned (.tuple #[.int .i64 r1, .bool r2]) ∧ Below w.heap.size w w' := by
 have hu26 := Tryz.underlying26; have HR0_0 := am hr0_0; have HC0_0 := am hc0_0; clear hr0_0 hc0_0; have HB := am (Below.refl w.heap.size w)
 unfold impl_SaveOf.f at h
 have H := h; clear h; obtain ⟨t1276, A2, H⟩ := bs H
 by_cases c3 : t1276 = true
 ·subst c3
  rw [if_pos rfl] at H; obtain ⟨t1277, A4, H⟩ := bs H; obtain ⟨t1280, A5, H⟩ := bs H; simp only [Option.some.injEq, Prod.mk.injEq] at H; obtain ⟨rfl, rfl⟩ := H
  go_enter Tryz.func87, Tryz.ntmps87
  try go_wp2_with (first | ((with_reducible refine gate_dst (N := 1) rfl ?_); refine bx 1 #[.slice A0_0 l0_0.length c0_0] 26 ?_; intro gb1275 hg w6 hbox hb; have BK1275 := am (hbox); have GW1275 := uG hg HB; have GE1275 := uG hg HB; replace HB := uB HB hb; clear hb hbox hg; have hcz7_0 := bc (.slice A0_0 l0_0.length c0_0) BK1275 0; have hfz7_0 := blk_frozen BK1275.out 0) | ((with_reducible refine gd 5 124 ?_); refine gc 5 Tryz.func124 #[.agg #[.slice A0_0 l0_0.length c0_0]] (impl_isTrie.calls k _ _ l0_0 true _ ax145 (HC0_0.out) A2.out) ?_; rintro e w8 ⟨rfl, hb⟩; refine ⟨_, rfl, ?_⟩; replace BK1275 := ub BK1275 hb; replace HB := am (below_step ax301 hb); (try clear hb)))
  replace BK1275 := am (blk_drew BK1275.out); replace HB := am (below_drew1 HB.out); refine start_ (n := 11) (S := fun w' => w'.cell? ⟨gb1275, 0, none⟩ = some (.slice A0_0 l0_0.length c0_0)) (ds := []) (ob 11 0) (by kernel_rfl) rfl rfl ((blk_cell BK1275.out 0).trans rfl) (fun hHeld => ?_); refine with_tabW impl_SaveOf.tab3 impl_SaveOf.bits3 (fun HT_ HW_ => ?_); generalize w8.drew = w9 at BK1275 HB hHeld ⊢; refine pu 4 11 ?_; refine take_ (i := 0) (N := some 7) (v := ?_) (a' := ?_) (ob 11 17) rfl rfl (take_ofW HT_.out HW_.out (by kernel_rfl)) (fun _ _ _ h => h) (Or.inl ⟨by rfl, ?_⟩) hHeld ?_ ?_
  rotate_left
  ·exact ax14
  rotate_left
  ·exact ax15
  refine take_ (i := 5) (N := some 12) (v := ?_) (a' := ?_) (ob 11 49) rfl rfl (take_ofW HT_.out HW_.out (by kernel_rfl)) (fun _ _ _ h => h) (Or.inl ⟨by rfl, ?_⟩) hHeld ?_ ?_; rotate_left; exact ax14; rotate_left; exact ax15
  refine pu 6 13 ?_; refine one_ (i := 1) (N := some 8) (ob 11 115) rfl rfl (one_of HT_.out (by kernel_rfl)) (by decide) (fun K hK => ?_); refine goes_ Tryz.func125 (by kernel_rfl) rfl #[.agg #[.slice A0_0 l0_0.length c0_0]] (by rfl) rfl rfl ax42 ?_
  with_reducible refine (impl_Trie_words.calls k _ _ l0_0 t1277 _ ?side1 ?side2 A4.out).mono ?_
  (case side1 => exact ax145)
  (case side2 => exact ax158)
  rintro e w10 ⟨v1278, rfl, ho0, hb⟩; refine ⟨_, rfl, ?_⟩; have HO1279 := am (Kd.R_lower ho0 (below_size ax301)); replace BK1275 := ub BK1275 hb; replace HB := am (below_step ax301 hb); (try clear hb); (try clear hb2); (try clear hk); (try clear hi); (try clear ho0); obtain ⟨Ao11, co11, eo11⟩ := Kd.R_slice HO1279.out; (first | subst eo11 | (injection eo11 with f1_ f2_ f3_; have f4_ := f1_.symm; have f5_ := f3_.symm; clear f1_ f2_ f3_; subst f4_; subst f5_)); refine hK.out _ _ ((blk_cell BK1275.out 0).trans rfl) (fun hHeld => ?_); clear hK K; refine nm 8 ?_; refine one_ (i := 2) (N := some 9) (ob 11 119) rfl rfl (one_of HT_.out (by kernel_rfl)) (by decide) (fun K hK => ?_); refine goes_ Tryz.func171 (by kernel_rfl) rfl #[.slice Ao11 t1277.length co11, .string (⟨#[]⟩ : ByteArray)] (by rfl) rfl rfl ax42 ?_
  with_reducible refine (strings_Join.calls _ _ t1277 (⟨#[]⟩ : ByteArray) t1280 _ ?side1 ?side2 A5.out).mono ?_
  (case side1 => repeat (first | exact (Kd.R_reads' HO1279.out).2.2 | (with_reducible refine Kd.C_alloc ?_ _) | (with_reducible refine Kd.C_drewN ?_ _) | (with_reducible refine Kd.C_drew ?_)))
  (case side2 => exact (Kd.R_reads' HO1279.out).2.1)
  rintro e w12 ⟨rfl, hb⟩; refine ⟨_, rfl, ?_⟩; replace HO1279 := uR HO1279 hb; replace BK1275 := ub BK1275 hb; replace HB := am (below_step ax301 hb); (try clear hb); (try clear hb2); (try clear hk); (try clear hi); refine hK.out _ _ ((blk_cell BK1275.out 0).trans rfl) (fun hHeld => ?_); clear hK K; refine nm 9 ?_; refine pu 3 10 ?_; refine pu 7 14 ?_; refine pu 8 15 ?_; refine pu 9 2 ?_; refine pu 10 3 ?_; refine dn ?_
  try go_wp2
  go_ret2
  exact ⟨ax27, ax301⟩
 ·replace c3 := Bool.eq_false_iff.mpr c3
  subst c3; rw [if_neg (show ¬ (false = true) by decide)] at H; simp only [Option.some.injEq, Prod.mk.injEq] at H; obtain ⟨rfl, rfl⟩ := H
  go_enter Tryz.func87, Tryz.ntmps87
  go_wp2_with (first | ((with_reducible refine gate_dst (N := 1) rfl ?_); refine bx 1 #[.slice A0_0 l0_0.length c0_0] 26 ?_; intro gb1275 hg w13 hbox hb; have BK1275 := am (hbox); have GW1275 := uG hg HB; have GE1275 := uG hg HB; replace HB := uB HB hb; clear hb hbox hg; have hcz14_0 := bc (.slice A0_0 l0_0.length c0_0) BK1275 0; have hfz14_0 := blk_frozen BK1275.out 0) | ((with_reducible refine gd 5 124 ?_); refine gc 5 Tryz.func124 #[.agg #[.slice A0_0 l0_0.length c0_0]] (impl_isTrie.calls k _ _ l0_0 false _ ax145 (HC0_0.out) A2.out) ?_; rintro e w15 ⟨rfl, hb⟩; refine ⟨_, rfl, ?_⟩; replace BK1275 := ub BK1275 hb; replace HB := am (below_step ax301 hb); (try clear hb)))
  go_ret2
  exact ⟨ax27, ax301⟩

/-! ### spec_SaveOf: function 88 -/
def spec_SaveOf.l0 : Nat → Int → List ByteArray → Int → List (S74) → Option (Int × Bool)
 | 0, _, _, _, _ => none
 | k + 1, x4, x5, x6, x1282000 => if x6 < (x5.length : Int) then (if 0 ≤ x6 then (spec_SaveOf.l0 k (wrap64 (x4 + ((rdOf ByteArray.empty x5 x6).size : Int))) x5 (wrap64 (x6 + 1)) x1282000) else (none)) else (some (wrap64 ((wrap64 (x4 - (x1282000.length : Int))) + 1), true))
def spec_SaveOf.f (k : Nat) (l0_0 : List (S74)) : Option (Int × Bool) := (spec_l2Trie.f k l0_0).bind fun t1282 => (if t1282 = true then ((spec_l2Words.f k l0_0).bind fun t1283 => (spec_SaveOf.l0 k 0 t1283 0 l0_0)) else (some (0, false)))
set_option maxHeartbeats 8000000 in
set_option maxRecDepth 100000 in
theorem spec_SaveOf.calls (k : Nat) (A0_0 : Option Addr) (c0_0 : Nat) (l0_0 : List (S74)) (r1 : Int) (r2 : Bool) (w : World) (hr0_0 : Kd.C k74 w A0_0 l0_0.length l0_0) (hc0_0 : l0_0.length ≤ c0_0) (h : spec_SaveOf.f k l0_0 = some (r1, r2)) :
  Calls Tryz.prog 88 #[.agg #[.slice A0_0 l0_0.length c0_0]] w fun e w' => e = .returned (.tuple #[.int .i64 r1, .bool r2]) ∧ Below w.heap.size w w' := by
 have hu26 := Tryz.underlying26; have HR0_0 := am hr0_0; have HC0_0 := am hc0_0; clear hr0_0 hc0_0; have HB := am (Below.refl w.heap.size w)
 unfold spec_SaveOf.f at h
 have H := h; clear h; obtain ⟨t1282, A2, H⟩ := bs H
 by_cases c3 : t1282 = true
 ·subst c3
  rw [if_pos rfl] at H; obtain ⟨t1283, A4, H⟩ := bs H; have H' := am H; clear H
  go_enter Tryz.func88, Tryz.ntmps88
  go_wp2_with (first | ((with_reducible refine gate_dst (N := 1) rfl ?_); refine bx 1 #[.slice A0_0 l0_0.length c0_0] 26 ?_; intro gb1281 hg w5 hbox hb; have BK1281 := am (hbox); have GW1281 := uG hg HB; have GE1281 := uG hg HB; replace HB := uB HB hb; clear hb hbox hg; have hcz6_0 := bc (.slice A0_0 l0_0.length c0_0) BK1281 0; have hfz6_0 := blk_frozen BK1281.out 0) | ((with_reducible refine gd 8 113 ?_); refine gc 8 Tryz.func113 #[.agg #[.slice A0_0 l0_0.length c0_0]] (spec_l2Trie.calls k _ _ l0_0 true _ ax145 (HC0_0.out) A2.out) ?_; rintro e w7 ⟨rfl, hb⟩; refine ⟨_, rfl, ?_⟩; replace BK1281 := ub BK1281 hb; replace HB := am (below_step ax302 hb); (try clear hb); have hcz8_0 := bc (.slice A0_0 l0_0.length c0_0) BK1281 0; have hfz8_0 := blk_frozen BK1281.out 0) | ((with_reducible refine gd 11 115 ?_); refine gc 11 Tryz.func115 #[.agg #[.slice A0_0 l0_0.length c0_0]] (spec_l2Words.calls k _ _ l0_0 t1283 _ ax145 (HC0_0.out) A4.out) ?_; rintro e w9 ⟨v1284, rfl, ho0, hb⟩; refine ⟨_, rfl, ?_⟩; have HO1285 := am (Kd.R_lower ho0 (below_size ax302)); replace BK1281 := ub BK1281 hb; replace HB := am (below_step ax302 hb); (try clear hb ho0)))
  go_loopg [4, 6] k (fun kq v4 v6 w' => ∃ (x4_1 : Int) (x6_1 : Int), v4 = .int .i64 x4_1 ∧ v6 = .int .i64 x6_1 ∧ Aside0 (spec_SaveOf.l0 kq x4_1 t1283 x6_1 l0_0 = some (r1, r2)) ∧ Aside0 (kq ≤ k) ∧ Aside0 (Kd.R Kd.string 9 w' w.heap.size (fun _ => True) v1284 t1283) ∧ Aside0 (w'.heap[gb1281]? = some (.cells #[(.slice A0_0 l0_0.length c0_0)] 26 (0, 0))) ∧ Aside0 (Below w.heap.size w w'))
  case atStart => exact ⟨(0), (0), ax31, ax31, H', ⟨Nat.le_refl _⟩, ⟨(by (with_reducible repeat (first | apply Kd.R_alloc | apply Kd.R_drewN | apply Kd.R_drew)); exact HO1285.out)⟩, ⟨ax303⟩, ⟨ax302⟩⟩
  case round =>
   clear H'; (try clear hcz6_0);(try clear hfz6_0);(try clear hcz8_0);(try clear hfz8_0);(try clear c3); obtain ⟨x4_1, x6_1, rfl, rfl, HA, HK1, HO_5, BK1281, HB⟩ := hrel
   cases gk with
   | zero => exact absurd HA.out (by simp [spec_SaveOf.l0])
   | succ k1 =>
    have H := HA.out; clear HA; simp only [spec_SaveOf.l0] at H
    by_cases c10 : x6_1 < (t1283.length : Int)
    ·rw [if_pos c10] at H
     have c10b0 := decide_eq_true c10; clear c10
     by_cases c11 : 0 ≤ x6_1
     ·rw [if_pos c11] at H
      have c11b0 := decide_eq_true c11; clear c11; have H' := am H; clear H; obtain ⟨Ao12, co12, eo12⟩ := Kd.R_slice HO_5.out; subst eo12; have p1286 : 0 ≤ (x6_1 : Int) := of_decide_eq_true ax26; have q1286 : x6_1 < (t1283.length : Int) := of_decide_eq_true ax26; obtain ⟨ad1286, e1286, hx1286_0⟩ := Kd.at_string (Kd.R_reads' HO_5.out).2.2 x6_1 p1286 q1286
      cases e1286
      replace p1286 := eq_true p1286; replace q1286 := eq_true q1286
      go_wp2
      go_roundg k1
      case measure => have := HK1.out; omega
      case rel => exact ⟨(wrap64 (x4_1 + ((rdOf ByteArray.empty t1283 x6_1).size : Int))), (wrap64 (x6_1 + 1)), ax31, ax31, H', ⟨by have := HK1.out; omega⟩, ⟨ax238⟩, ⟨ax303⟩, ⟨ax302⟩⟩
     ·exact ax8
    ·rw [if_neg c10] at H
     have c10b0 := decide_eq_false c10; clear c10; simp only [Option.some.injEq, Prod.mk.injEq] at H; obtain ⟨rfl, rfl⟩ := H; obtain ⟨Ao13, co13, eo13⟩ := Kd.R_slice HO_5.out; subst eo13; have hcz14_0 := bc (.slice A0_0 l0_0.length c0_0) BK1281 0; have hfz14_0 := blk_frozen BK1281.out 0
     go_wp2
     go_ret2
     exact ⟨ax27, ax302⟩
 ·replace c3 := Bool.eq_false_iff.mpr c3
  subst c3; rw [if_neg (show ¬ (false = true) by decide)] at H; simp only [Option.some.injEq, Prod.mk.injEq] at H; obtain ⟨rfl, rfl⟩ := H
  go_enter Tryz.func88, Tryz.ntmps88
  go_wp2_with (first | ((with_reducible refine gate_dst (N := 1) rfl ?_); refine bx 1 #[.slice A0_0 l0_0.length c0_0] 26 ?_; intro gb1281 hg w15 hbox hb; have BK1281 := am (hbox); have GW1281 := uG hg HB; have GE1281 := uG hg HB; replace HB := uB HB hb; clear hb hbox hg; have hcz16_0 := bc (.slice A0_0 l0_0.length c0_0) BK1281 0; have hfz16_0 := blk_frozen BK1281.out 0) | ((with_reducible refine gd 8 113 ?_); refine gc 8 Tryz.func113 #[.agg #[.slice A0_0 l0_0.length c0_0]] (spec_l2Trie.calls k _ _ l0_0 false _ ax145 (HC0_0.out) A2.out) ?_; rintro e w17 ⟨rfl, hb⟩; refine ⟨_, rfl, ?_⟩; replace BK1281 := ub BK1281 hb; replace HB := am (below_step ax302 hb); (try clear hb)))
  go_ret2
  exact ⟨ax27, ax302⟩

end Go.Proofs.YtcplbbflfgckbaaGreatDoor.X


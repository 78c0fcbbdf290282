-- By gen.py (the session's own program over the kit's printer): functions of the program, each with its contract. Lean checks it.
import Derived.Test.YtcplbbflfgckbaaGreatDoorX0
import Derived.Test.YtcplbbflfgckbaaGreatDoorX1
namespace Go.Proofs.YtcplbbflfgckbaaGreatDoor.X
open Go.RowKit Go.Proofs.YtcplbbflfgckbaaGreatDoorW.PrintWords Go.Proofs.YtcplbbflfgckbaaGreatDoorW.PrintLast Go.Proofs.YtcplbbflfgckbaaGreatDoorW.PrintMore
attribute [local go_sem] max2_int min2_int max_two min_two max_three min_three max_four min_four   -- for this text's walks alone
set_option linter.unusedVariables false
set_option linter.unusedSimpArgs false

attribute [local go_sem high] eqA74
/-! ### spec_l1In: function 132 -/
def spec_l1In.f (a0 : Int) (a1 : Int) (a2 : Int) : Option (Bool) := if a0 ≥ a1 then (some (decide (a0 ≤ a2))) else (some false)
set_option maxHeartbeats 8000000 in
set_option maxRecDepth 100000 in
theorem spec_l1In.calls (a0 : Int) (a1 : Int) (a2 : Int) (r : Bool) (w : World) (h : spec_l1In.f a0 a1 a2 = some r) :
  Calls Tryz.prog 132 #[.int .i64 a0, .int .i64 a1, .int .i64 a2] w fun e w' => e = .returned (.bool r) ∧ Drawn0 w w' := by
 unfold spec_l1In.f at h
 have H := h; clear h
 by_cases c4 : a0 ≥ a1
 ·rw [if_pos c4] at H
  have c4b0 := decide_eq_true c4; clear c4; obtain rfl := Option.some.inj H
  go_enter Tryz.func132, Tryz.ntmps132
  go_wp2
  go_ret
  exact ⟨ax31, ax32⟩
 ·rw [if_neg c4] at H
  have c4b0 := decide_eq_false c4; clear c4; obtain rfl := Option.some.inj H
  go_enter Tryz.func132, Tryz.ntmps132
  go_wp2
  go_ret
  exact ⟨ax31, ax32⟩

/-! ### spec_l2Prefix: function 165 -/
mutual
def spec_l2Prefix.l0 : Nat → Int → ByteArray → List (S74) → Option (ByteArray)
 | 0, _, _, _ => none
 | k + 1, x1, x5, x330000 => if x1 > 0 then (spec_l2Prefix.j1 k x1 x5 (decide ((x5.size : Int) ≤ 12)) x330000) else (spec_l2Prefix.j1 k x1 x5 false x330000)
def spec_l2Prefix.j1 : Nat → Int → ByteArray → Bool → List (S74) → Option (ByteArray)
 | 0, _, _, _, _ => none
 | k + 1, x1, x5, x13, x330000 => if x13 = true then (if 0 ≤ x1 then (if x1 < (x330000.length : Int) then ((spec_l1In.f ((rd_T74 x330000 x1).f0) 0 25).bind fun t332 => (if t332 = true then (if ((rd_T74 x330000 x1).f1) ≥ x1 then (some (⟨#[63]⟩ : ByteArray)) else ((some (([(wrap64 (97 + ((rd_T74 x330000 x1).f0))) % 256] : List Int) : List Int)).bind fun y333 => (if (strOfNums y333).size + x5.size ≤ 9223372036854775807 then (spec_l2Prefix.l0 k ((rd_T74 x330000 x1).f1) ((strOfNums y333) ++ x5) x330000) else (none)))) else (some (⟨#[63]⟩ : ByteArray)))) else (none)) else (none)) else (if x1 = 0 then (some x5) else (some (⟨#[63]⟩ : ByteArray)))
end
def spec_l2Prefix.f (k : Nat) (l0_0 : List (S74)) (a1 : Int) : Option (ByteArray) := spec_l2Prefix.l0 k a1 (⟨#[]⟩ : ByteArray) l0_0
set_option maxHeartbeats 8000000 in
set_option maxRecDepth 100000 in
theorem spec_l2Prefix.calls (k : Nat) (A0_0 : Option Addr) (c0_0 : Nat) (l0_0 : List (S74)) (a1 : Int) (r : ByteArray) (w : World) (hr0_0 : Kd.C k74 w A0_0 l0_0.length l0_0) (hc0_0 : l0_0.length ≤ c0_0) (h : spec_l2Prefix.f k l0_0 a1 = some r) :
  Calls Tryz.prog 165 #[.agg #[.slice A0_0 l0_0.length c0_0], .int .i64 a1] w fun e w' => e = .returned (.string r) ∧ Below w.heap.size w w' := by
 have hu26 := Tryz.underlying26; have hu74 := Tryz.underlying74; have HR0_0 := am hr0_0; have HC0_0 := am hc0_0; clear hr0_0 hc0_0; have HB := am (Below.refl w.heap.size w)
 unfold spec_l2Prefix.f at h
 have H := h; clear h; have H' := am H; clear H
 go_enter Tryz.func165, Tryz.ntmps165
 go_wp2_with (first | ((with_reducible refine gate_dst (N := 2) rfl ?_); (try (refine gate_guard (by rfl) ?_; dsimp only)); refine bx 2 #[.slice A0_0 l0_0.length c0_0] 26 ?_; intro gb329 hg w3 hbox hb; have BK329 := am (hbox); have GW329 := uG hg HB; have GE329 := uG hg HB; replace HB := uB HB hb; clear hb hbox hg))
 go_loopg [1, 5] k (fun kq v1 v5 w' => ∃ (x1_1 : Int) (x5_1 : ByteArray), v1 = .int .i64 x1_1 ∧ v5 = .string x5_1 ∧ Aside0 (spec_l2Prefix.l0 kq x1_1 x5_1 l0_0 = some r) ∧ Aside0 (kq ≤ k) ∧ Aside0 (w'.heap[gb329]? = some (.cells #[(.slice A0_0 l0_0.length c0_0)] 26 (0, 0))) ∧ Aside0 (Below w.heap.size w w'))
 case atStart => exact ⟨(a1), ((⟨#[]⟩ : ByteArray)), ax31, ax31, H', ⟨Nat.le_refl _⟩, ⟨ax136⟩, ⟨ax137⟩⟩
 case round =>
  clear H'; obtain ⟨x1_1, x5_1, rfl, rfl, HA, HK1, BK329, HB⟩ := hrel
  cases gk with
  | zero => exact absurd HA.out (by simp [spec_l2Prefix.l0])
  | succ k1 =>
   have H := HA.out; clear HA; simp only [spec_l2Prefix.l0] at H; have HC4 := am H; clear H
   go_upto_region 2 with (fail)
   go_cut [13] (fun v13 wc => ∃ (kq : Nat) (x13_3 : Bool), v13 = .bool x13_3 ∧ Aside0 (spec_l2Prefix.j1 kq x1_1 x5_1 x13_3 l0_0 = some r) ∧ Aside0 (kq ≤ k1) ∧ Aside0 (wc.heap[gb329]? = some (.cells #[(.slice A0_0 l0_0.length c0_0)] 26 (0, 0))) ∧ Aside0 (Below w.heap.size w wc))
   case first =>
    have H := HC4.out; clear HC4
    by_cases c5 : x1_1 > 0
    ·rw [if_pos c5] at H
     have c5b0 := decide_eq_true c5; clear c5; (first | rw [c5b0] | (simp only [i64_w, i32_w]; rw [c5b0]) | skip); have H' := am H; clear H
     go_wp2
     go_meet
     case rel => exact ⟨_, (decide ((x5_1.size : Int) ≤ 12)), ax31, H', ⟨ax40⟩, ⟨ax136⟩, ⟨ax137⟩⟩
    ·rw [if_neg c5] at H
     have c5b0 := decide_eq_false c5; clear c5; (first | rw [c5b0] | (simp only [i64_w, i32_w]; rw [c5b0]) | skip); have H' := am H; clear H
     go_wp2
     go_meet
     case rel => exact ⟨_, (false), ax31, H', ⟨ax40⟩, ⟨ax136⟩, ⟨ax137⟩⟩
   case rest =>
    clear HC4; obtain ⟨kq, x13_3, rfl, HA, HJ3, BK329, HB⟩ := hcut
    cases kq with
    | zero => exact absurd HA.out (by simp [spec_l2Prefix.j1])
    | succ kj3 =>
     have H := HA.out; clear HA; simp only [spec_l2Prefix.j1] at H
     by_cases c6 : x13_3 = true
     ·subst c6
      rw [if_pos rfl] at H
      by_cases c7 : 0 ≤ x1_1
      ·rw [if_pos c7] at H
       have c7b0 := decide_eq_true c7; clear c7
       by_cases c8 : x1_1 < (l0_0.length : Int)
       ·rw [if_pos c8] at H
        have c8b0 := decide_eq_true c8; clear c8; obtain ⟨t332, A9, H⟩ := bs H
        by_cases c10 : t332 = true
        ·subst c10
         rw [if_pos rfl] at H
         by_cases c11 : ((rd_T74 l0_0 x1_1).f1) ≥ x1_1
         ·rw [if_pos c11] at H
          have c11b0 := decide_eq_true c11; clear c11; obtain rfl := Option.some.inj H; have hcz12_0 := bc (.slice A0_0 l0_0.length c0_0) BK329 0; have hfz12_0 := blk_frozen BK329.out 0; have p330 : 0 ≤ (x1_1 : Int) := of_decide_eq_true ax26; have q330 : x1_1 < (l0_0.length : Int) := of_decide_eq_true ax26; obtain ⟨ad330, e330, hx330_0, hx330_1, hx330_2⟩ := at_T74 HR0_0.out x1_1 p330 q330
          cases e330
          replace hx330_0 := (HB.out.cell (World.block_lt_of_cell? w _ hx330_0)).trans hx330_0; replace hx330_1 := (HB.out.cell (World.block_lt_of_cell? w _ hx330_1)).trans hx330_1; replace hx330_2 := (HB.out.cell (World.block_lt_of_cell? w _ hx330_2)).trans hx330_2; replace p330 := eq_true p330; replace q330 := eq_true q330
          go_wp2_with (first | ((with_reducible refine gate_dst (N := 6) rfl ?_); (try (refine gate_guard (by rfl) ?_; dsimp only)); refine bx 6 #[.int .i64 0, .int .i64 0, .bool false] 74 ?_; intro gb331 hg w13 hbox hb; have BK331 := am (hbox); have GW331 := am ((ax138 : w.heap.size ≤ gb331)); have GE331 := am ((ax138 : w.heap.size ≤ gb331)); replace HB := am (below_step ax137 hb); have NB329_331 := uN hg BK329; have NB331_329 := uM hg BK329; replace BK329 := ub BK329 hb; clear hb hbox hg; have hnb14 := NB331_329.out; have hnc14 := NB329_331.out; have hcz15_0 := bc (.int .i64 0) BK331 0; have hcz15_1 := bc (.int .i64 0) BK331 1; have hcz15_2 := bc (.bool false) BK331 2; have hfz15_0 := blk_frozen BK331.out 0; have hfz15_1 := blk_frozen BK331.out 1; have hfz15_2 := blk_frozen BK331.out 2) | ((with_reducible refine gate_store (t := 74) (p := 6) rfl ?_); refine store_event (t := 74) (p := 6) (v := ?vo_w16) (w1 := (((w13.setCell ⟨gb331, 0, none⟩ (.int .i64 ((rd_T74 l0_0 x1_1).f0))).setCell ⟨gb331, 1, none⟩ (.int .i64 ((rd_T74 l0_0 x1_1).f1))).setCell ⟨gb331, 2, none⟩ (.bool ((rd_T74 l0_0 x1_1).f2)))) ?hg ?ho ?hn ?hr ?_; (case ho => rfl); (case hg => rfl); (case hn => rfl); (case hr => exact ax33); intro w16 hw; have n0_ : Aside0 (w16.heap[gb329]? = some (.cells #[.slice (some ad330) l0_0.length c0_0] 26 (0, 0))) := ⟨ax139⟩; have n1_ : Aside0 (w16.heap[gb331]? = some (.cells #[.int .i64 ((rd_T74 l0_0 x1_1).f0), .int .i64 ((rd_T74 l0_0 x1_1).f1), .bool ((rd_T74 l0_0 x1_1).f2)] 74 (0, 0))) := ⟨ax140⟩; have n2_ : Aside0 (Below w.heap.size w w16) := ⟨ax141⟩; clear hw; clear BK329; clear BK331; clear HB; have BK329 := n0_; have BK331 := n1_; have HB := n2_; clear n0_ n1_ n2_; have hcz17_0 := bc (.int .i64 ((rd_T74 l0_0 x1_1).f0)) BK331 0; have hcz17_1 := bc (.int .i64 ((rd_T74 l0_0 x1_1).f1)) BK331 1; have hcz17_2 := bc (.bool ((rd_T74 l0_0 x1_1).f2)) BK331 2; have hfz17_0 := blk_frozen BK331.out 0; have hfz17_1 := blk_frozen BK331.out 1; have hfz17_2 := blk_frozen BK331.out 2) | ((with_reducible refine gd 21 132 ?_); refine gc 21 Tryz.func132 #[.int .i64 ((rd_T74 l0_0 x1_1).f0), .int .i64 0, .int .i64 25] (spec_l1In.calls ((rd_T74 l0_0 x1_1).f0) 0 25 true _ A9.out) ?_; rintro e w' ⟨rfl, ⟨nd, rfl⟩⟩; refine ⟨_, rfl, ?_⟩))
          go_ret
          exact ⟨ax27, ax142⟩
         ·rw [if_neg c11] at H
          have c11b0 := decide_eq_false c11; clear c11; obtain ⟨y333, hy333⟩ : ∃ y_ : List Int, y_ = (([(wrap64 (97 + ((rd_T74 l0_0 x1_1).f0))) % 256] : List Int)) := ⟨_, rfl⟩
          replace H : (if (strOfNums y333).size + x5_1.size ≤ 9223372036854775807 then (spec_l2Prefix.l0 kj3 ((rd_T74 l0_0 x1_1).f1) ((strOfNums y333) ++ x5_1) l0_0) else (none)) = some r := by first | (rw [hy333]; with_reducible exact H) | (have H2_ := (Option.bind_some _ _).symm.trans H; rw [hy333]; with_reducible exact H2_) | (have H2_ := (Option.bind_some _ _).symm.trans H; with_reducible exact H2_) | with_reducible exact H | (rw [hy333]; exact H) | exact H
          have Ny333 := am hy333; clear hy333
          by_cases c18 : (strOfNums y333).size + x5_1.size ≤ 9223372036854775807
          ·rw [if_pos c18] at H
           have c18b0 := eq_true c18; have c18b1 := decide_eq_true c18
           try have c18b2 : (9223372036854775807 < (strOfNums y333).size + x5_1.size) = False := eq_false (Nat.not_lt.2 c18)
           clear c18; obtain ⟨js19, hjs19⟩ : ∃ j_ : ByteArray, ((strOfNums y333) ++ x5_1) = j_ := ⟨_, rfl⟩; (first | rw [hjs19] at H | simp only [hjs19] at H); have H' := am H; clear H; have hcz20_0 := bc (.slice A0_0 l0_0.length c0_0) BK329 0; have hfz20_0 := blk_frozen BK329.out 0; have p330 : 0 ≤ (x1_1 : Int) := of_decide_eq_true ax26; have q330 : x1_1 < (l0_0.length : Int) := of_decide_eq_true ax26; obtain ⟨ad330, e330, hx330_0, hx330_1, hx330_2⟩ := at_T74 HR0_0.out x1_1 p330 q330
           cases e330
           replace hx330_0 := (HB.out.cell (World.block_lt_of_cell? w _ hx330_0)).trans hx330_0; replace hx330_1 := (HB.out.cell (World.block_lt_of_cell? w _ hx330_1)).trans hx330_1; replace hx330_2 := (HB.out.cell (World.block_lt_of_cell? w _ hx330_2)).trans hx330_2; replace p330 := eq_true p330; replace q330 := eq_true q330
           go_wp2_with (first | ((with_reducible refine gate_dst (N := 6) rfl ?_); (try (refine gate_guard (by rfl) ?_; dsimp only)); refine bx 6 #[.int .i64 0, .int .i64 0, .bool false] 74 ?_; intro gb331 hg w21 hbox hb; have BK331 := am (hbox); have GW331 := am ((ax138 : w.heap.size ≤ gb331)); have GE331 := am ((ax138 : w.heap.size ≤ gb331)); replace HB := am (below_step ax137 hb); have NB329_331 := uN hg BK329; have NB331_329 := uM hg BK329; replace BK329 := ub BK329 hb; clear hb hbox hg; have hnb22 := NB331_329.out; have hnc22 := NB329_331.out; have hcz23_0 := bc (.int .i64 0) BK331 0; have hcz23_1 := bc (.int .i64 0) BK331 1; have hcz23_2 := bc (.bool false) BK331 2; have hfz23_0 := blk_frozen BK331.out 0; have hfz23_1 := blk_frozen BK331.out 1; have hfz23_2 := blk_frozen BK331.out 2) | ((with_reducible refine gate_store (t := 74) (p := 6) rfl ?_); refine store_event (t := 74) (p := 6) (v := ?vo_w24) (w1 := (((w21.setCell ⟨gb331, 0, none⟩ (.int .i64 ((rd_T74 l0_0 x1_1).f0))).setCell ⟨gb331, 1, none⟩ (.int .i64 ((rd_T74 l0_0 x1_1).f1))).setCell ⟨gb331, 2, none⟩ (.bool ((rd_T74 l0_0 x1_1).f2)))) ?hg ?ho ?hn ?hr ?_; (case ho => rfl); (case hg => rfl); (case hn => rfl); (case hr => exact ax33); intro w24 hw; have n0_ : Aside0 (w24.heap[gb329]? = some (.cells #[.slice (some ad330) l0_0.length c0_0] 26 (0, 0))) := ⟨ax139⟩; have n1_ : Aside0 (w24.heap[gb331]? = some (.cells #[.int .i64 ((rd_T74 l0_0 x1_1).f0), .int .i64 ((rd_T74 l0_0 x1_1).f1), .bool ((rd_T74 l0_0 x1_1).f2)] 74 (0, 0))) := ⟨ax140⟩; have n2_ : Aside0 (Below w.heap.size w w24) := ⟨ax141⟩; clear hw; clear BK329; clear BK331; clear HB; have BK329 := n0_; have BK331 := n1_; have HB := n2_; clear n0_ n1_ n2_; have hcz25_0 := bc (.int .i64 ((rd_T74 l0_0 x1_1).f0)) BK331 0; have hcz25_1 := bc (.int .i64 ((rd_T74 l0_0 x1_1).f1)) BK331 1; have hcz25_2 := bc (.bool ((rd_T74 l0_0 x1_1).f2)) BK331 2; have hfz25_0 := blk_frozen BK331.out 0; have hfz25_1 := blk_frozen BK331.out 1; have hfz25_2 := blk_frozen BK331.out 2) | ((with_reducible refine gd 21 132 ?_); refine gc 21 Tryz.func132 #[.int .i64 ((rd_T74 l0_0 x1_1).f0), .int .i64 0, .int .i64 25] (spec_l1In.calls ((rd_T74 l0_0 x1_1).f0) 0 25 true _ A9.out) ?_; rintro e w' ⟨rfl, ⟨nd, rfl⟩⟩; refine ⟨_, rfl, ?_⟩) | ((with_reducible refine gate_dst (N := 33) rfl ?_); (try (refine gate_guard (by rfl) ?_; dsimp only)); refine Kd.R_lit (Kd.int .u8) _ 5 ?hg (N := 33) ?hd (xs := ([(wrap64 (97 + ((rd_T74 l0_0 x1_1).f0))) % 256] : List Int)) (inner := [.int .u8 ((wrap64 (97 + ((rd_T74 l0_0 x1_1).f0))) % 256)]) (ok := fun _ => True) (okp := fun _ => True) ?hr ?hp (fun _ hk => hk) trivial (Below.refl _ _) (Nat.le_refl _) (by simp) ?_; (case hd => rfl); (case hg => rfl); (case hr => exact ax33); (case hp => exact (Reps.one (show Kd.M (Kd.int .u8) _ _ _ ((wrap64 (97 + ((rd_T74 l0_0 x1_1).f0))) % 256) [.int .u8 ((wrap64 (97 + ((rd_T74 l0_0 x1_1).f0))) % 256)] from rfl) (Reps.none _ _))); intro v334 w26 ho27 hb hg_ hnew_; clear hg_ hnew_; (first | rw [← Ny333.out] at ho27 | (simp only [Int.reduceToNat] at ho27; rw [← Ny333.out] at ho27)); have HO335 := am (Kd.R_lower ho27 (below_size ax142)); replace BK329 := ub BK329 hb; replace BK331 := ub BK331 hb; replace HB := am (below_step ax142 hb); clear hb ho27; have hcv28 := own_string (P := Tryz.prog) Tryz.underlying22 Tryz.underlying5 Tryz.underlying9 (Kd.own_of_R HO335.out); have hcz29_0 := bc (.int .i64 ((rd_T74 l0_0 x1_1).f0)) BK331 0; have hcz29_1 := bc (.int .i64 ((rd_T74 l0_0 x1_1).f1)) BK331 1; have hcz29_2 := bc (.bool ((rd_T74 l0_0 x1_1).f2)) BK331 2; have hfz29_0 := blk_frozen BK331.out 0; have hfz29_1 := blk_frozen BK331.out 1; have hfz29_2 := blk_frozen BK331.out 2))
           go_roundg kj3
           case measure => have := HK1.out; have := HJ3.out; omega
           case rel => exact ⟨((rd_T74 l0_0 x1_1).f1), (js19), ax31, (by first | rfl | (simp; done) | (simp only [← hjs19] <;> (first | rfl | simp)) | (simp [*]; done)), H', ⟨(by have := HK1.out; have := HJ3.out; omega)⟩, ⟨ax136⟩, ⟨ax142⟩⟩
          ·exact ax13
        ·replace c10 := Bool.eq_false_iff.mpr c10
         subst c10; rw [if_neg (show ¬ (false = true) by decide)] at H; obtain rfl := Option.some.inj H; have hcz30_0 := bc (.slice A0_0 l0_0.length c0_0) BK329 0; have hfz30_0 := blk_frozen BK329.out 0; have p330 : 0 ≤ (x1_1 : Int) := of_decide_eq_true ax26; have q330 : x1_1 < (l0_0.length : Int) := of_decide_eq_true ax26; obtain ⟨ad330, e330, hx330_0, hx330_1, hx330_2⟩ := at_T74 HR0_0.out x1_1 p330 q330
         cases e330
         replace hx330_0 := (HB.out.cell (World.block_lt_of_cell? w _ hx330_0)).trans hx330_0; replace hx330_1 := (HB.out.cell (World.block_lt_of_cell? w _ hx330_1)).trans hx330_1; replace hx330_2 := (HB.out.cell (World.block_lt_of_cell? w _ hx330_2)).trans hx330_2; replace p330 := eq_true p330; replace q330 := eq_true q330
         go_wp2_with (first | ((with_reducible refine gate_dst (N := 6) rfl ?_); (try (refine gate_guard (by rfl) ?_; dsimp only)); refine bx 6 #[.int .i64 0, .int .i64 0, .bool false] 74 ?_; intro gb331 hg w31 hbox hb; have BK331 := am (hbox); have GW331 := am ((ax138 : w.heap.size ≤ gb331)); have GE331 := am ((ax138 : w.heap.size ≤ gb331)); replace HB := am (below_step ax137 hb); have NB329_331 := uN hg BK329; have NB331_329 := uM hg BK329; replace BK329 := ub BK329 hb; clear hb hbox hg; have hnb32 := NB331_329.out; have hnc32 := NB329_331.out; have hcz33_0 := bc (.int .i64 0) BK331 0; have hcz33_1 := bc (.int .i64 0) BK331 1; have hcz33_2 := bc (.bool false) BK331 2; have hfz33_0 := blk_frozen BK331.out 0; have hfz33_1 := blk_frozen BK331.out 1; have hfz33_2 := blk_frozen BK331.out 2) | ((with_reducible refine gate_store (t := 74) (p := 6) rfl ?_); refine store_event (t := 74) (p := 6) (v := ?vo_w34) (w1 := (((w31.setCell ⟨gb331, 0, none⟩ (.int .i64 ((rd_T74 l0_0 x1_1).f0))).setCell ⟨gb331, 1, none⟩ (.int .i64 ((rd_T74 l0_0 x1_1).f1))).setCell ⟨gb331, 2, none⟩ (.bool ((rd_T74 l0_0 x1_1).f2)))) ?hg ?ho ?hn ?hr ?_; (case ho => rfl); (case hg => rfl); (case hn => rfl); (case hr => exact ax33); intro w34 hw; have n0_ : Aside0 (w34.heap[gb329]? = some (.cells #[.slice (some ad330) l0_0.length c0_0] 26 (0, 0))) := ⟨ax139⟩; have n1_ : Aside0 (w34.heap[gb331]? = some (.cells #[.int .i64 ((rd_T74 l0_0 x1_1).f0), .int .i64 ((rd_T74 l0_0 x1_1).f1), .bool ((rd_T74 l0_0 x1_1).f2)] 74 (0, 0))) := ⟨ax140⟩; have n2_ : Aside0 (Below w.heap.size w w34) := ⟨ax141⟩; clear hw; clear BK329; clear BK331; clear HB; have BK329 := n0_; have BK331 := n1_; have HB := n2_; clear n0_ n1_ n2_; have hcz35_0 := bc (.int .i64 ((rd_T74 l0_0 x1_1).f0)) BK331 0; have hcz35_1 := bc (.int .i64 ((rd_T74 l0_0 x1_1).f1)) BK331 1; have hcz35_2 := bc (.bool ((rd_T74 l0_0 x1_1).f2)) BK331 2; have hfz35_0 := blk_frozen BK331.out 0; have hfz35_1 := blk_frozen BK331.out 1; have hfz35_2 := blk_frozen BK331.out 2) | ((with_reducible refine gd 21 132 ?_); refine gc 21 Tryz.func132 #[.int .i64 ((rd_T74 l0_0 x1_1).f0), .int .i64 0, .int .i64 25] (spec_l1In.calls ((rd_T74 l0_0 x1_1).f0) 0 25 false _ A9.out) ?_; rintro e w' ⟨rfl, ⟨nd, rfl⟩⟩; refine ⟨_, rfl, ?_⟩))
         go_ret
         exact ⟨ax27, ax142⟩
       ·exact ax17
      ·exact ax4
     ·replace c6 := Bool.eq_false_iff.mpr c6
      subst c6; rw [if_neg (show ¬ (false = true) by decide)] at H
      by_cases c36 : x1_1 = 0
      ·rw [if_pos c36] at H
       have c36b0 := beq_iff_eq.mpr c36; have c36b1 := bne_eq_false_iff_eq.mpr c36; clear c36; obtain rfl := Option.some.inj H
       go_wp2
       go_ret
       exact ⟨ax27, ax137⟩
      ·rw [if_neg c36] at H
       have c36b0 := beq_eq_false_iff_ne.mpr c36; have c36b1 := bne_iff_ne.mpr c36; obtain rfl := Option.some.inj H
       go_wp2
       go_ret
       exact ⟨ax27, ax137⟩

/-! ### spec_l2Words: function 115 -/
def spec_l2Words.l0 : Nat → List ByteArray → Int → List (S74) → Option (List ByteArray)
 | 0, _, _, _ => none
 | k + 1, x3, x4, x337000 => if x4 < (x337000.length : Int) then (if 0 ≤ x4 then (if (rd_T74 x337000 x4).f2 = true then ((spec_l2Prefix.f k x337000 x4).bind fun t341 => (if x3.length < 8796093022208 then (spec_l2Words.l0 k (x3 ++ [t341]) (wrap64 (x4 + 1)) x337000) else (none))) else (spec_l2Words.l0 k x3 (wrap64 (x4 + 1)) x337000)) else (none)) else (some x3)
def spec_l2Words.f (k : Nat) (l0_0 : List (S74)) : Option (List ByteArray) := spec_l2Words.l0 k (([] : List ByteArray)) 0 l0_0
set_option maxHeartbeats 8000000 in
set_option maxRecDepth 100000 in
theorem spec_l2Words.calls (k : Nat) (A0_0 : Option Addr) (c0_0 : Nat) (l0_0 : List (S74)) (r : List ByteArray) (w : World) (hr0_0 : Kd.C k74 w A0_0 l0_0.length l0_0) (hc0_0 : l0_0.length ≤ c0_0) (h : spec_l2Words.f k l0_0 = some r) :
  Calls Tryz.prog 115 #[.agg #[.slice A0_0 l0_0.length c0_0]] w fun e w' => ∃ v0_ : Value, e = .returned (v0_) ∧ Kd.R Kd.string 9 w' w.heap.size (fun _ => True) v0_ r ∧ Below w.heap.size w w' := by
 have hu26 := Tryz.underlying26; have HR0_0 := am hr0_0; have HC0_0 := am hc0_0; clear hr0_0 hc0_0; have HB := am (Below.refl w.heap.size w)
 unfold spec_l2Words.f at h
 have H := h; clear h; obtain ⟨y337, hy337⟩ : ∃ y_ : List ByteArray, y_ = (([] : List ByteArray)) := ⟨_, rfl⟩
 replace H : (spec_l2Words.l0 k y337 0 l0_0) = some r := by first | (rw [hy337]; with_reducible exact H) | (have H2_ := (Option.bind_some _ _).symm.trans H; rw [hy337]; with_reducible exact H2_) | (have H2_ := (Option.bind_some _ _).symm.trans H; with_reducible exact H2_) | with_reducible exact H | (rw [hy337]; exact H) | exact H
 have Ny337 := am hy337; clear hy337; have H' := am H; clear H
 go_enter Tryz.func115, Tryz.ntmps115
 go_wp2_with (first | ((with_reducible refine gate_dst (N := 1) rfl ?_); refine bx 1 #[.slice A0_0 l0_0.length c0_0] 26 ?_; intro gb336 hg w2 hbox hb; have BK336 := am (hbox); have GW336 := uG hg HB; have GE336 := uG hg HB; replace HB := uB HB hb; clear hb hbox hg) | ((with_reducible refine gate_dst (N := 5) rfl ?_); refine Kd.R_lit Kd.string _ 9 ?hg (N := 5) ?hd (xs := ([] : List ByteArray)) (inner := []) (ok := fun _ => True) (okp := fun _ => True) ?hr ?hp (fun _ hk => hk) trivial (Below.refl _ _) (Nat.le_refl _) (by simp) ?_; (case hd => rfl); (case hg => rfl); (case hr => exact ax33); (case hp => exact ax34); intro v338 w3 ho4 hb hg_ hnew_; clear hg_ hnew_; (first | rw [← Ny337.out] at ho4 | (simp only [Int.reduceToNat] at ho4; rw [← Ny337.out] at ho4)); have HO339 := am (Kd.R_lower ho4 (below_size ax143)); replace BK336 := ub BK336 hb; replace HB := am (below_step ax143 hb); clear hb ho4))
 go_loopg [3, 4] k (fun kq v3 v4 w' => ∃ (x3_1 : List ByteArray) (x4_1 : Int), v4 = .int .i64 x4_1 ∧ Aside0 (spec_l2Words.l0 kq x3_1 x4_1 l0_0 = some r) ∧ Aside0 (kq ≤ k) ∧ Aside0 (Kd.R Kd.string 9 w' w.heap.size (fun _ => True) v3 x3_1) ∧ Aside0 (w'.heap[gb336]? = some (.cells #[(.slice A0_0 l0_0.length c0_0)] 26 (0, 0))) ∧ Aside0 (Below w.heap.size w w'))
 case atStart => exact ⟨(y337), (0), ax31, H', ⟨Nat.le_refl _⟩, ⟨(by (with_reducible repeat (first | apply Kd.R_alloc | apply Kd.R_drewN | apply Kd.R_drew)); exact HO339.out)⟩, ⟨ax144⟩, ⟨ax143⟩⟩
 case round =>
  clear H'; obtain ⟨x3_1, x4_1, rfl, HA, HK1, HO_3, BK336, HB⟩ := hrel
  cases gk with
  | zero => exact absurd HA.out (by simp [spec_l2Words.l0])
  | succ k1 =>
   have H := HA.out; clear HA; simp only [spec_l2Words.l0] at H
   by_cases c5 : x4_1 < (l0_0.length : Int)
   ·rw [if_pos c5] at H
    have c5b0 := decide_eq_true c5; clear c5
    by_cases c6 : 0 ≤ x4_1
    ·rw [if_pos c6] at H
     have c6b0 := decide_eq_true c6; clear c6; obtain ⟨bq7, hbq7⟩ : ∃ b_ : Bool, b_ = ((rd_T74 l0_0 x4_1).f2) := ⟨_, rfl⟩
     replace H : (if bq7 = true then ((spec_l2Prefix.f k1 l0_0 x4_1).bind fun t341 => (if x3_1.length < 8796093022208 then (spec_l2Words.l0 k1 (x3_1 ++ [t341]) (wrap64 (x4_1 + 1)) l0_0) else (none))) else (spec_l2Words.l0 k1 x3_1 (wrap64 (x4_1 + 1)) l0_0)) = some r := by rw [← hbq7] at H; exact H
     have Nbq7 := am hbq7; clear hbq7
     by_cases c8 : bq7 = true
     ·subst c8
      rw [if_pos rfl] at H; obtain ⟨t341, A9, H⟩ := bs H
      by_cases c10 : x3_1.length < 8796093022208
      ·rw [if_pos c10] at H
       have LMc10 := am c10; clear c10; obtain ⟨y342, hy342⟩ : ∃ y_ : List ByteArray, y_ = (x3_1 ++ [t341]) := ⟨_, rfl⟩
       replace H : (spec_l2Words.l0 k1 y342 (wrap64 (x4_1 + 1)) l0_0) = some r := by first | (rw [hy342]; with_reducible exact H) | (have H2_ := (Option.bind_some _ _).symm.trans H; rw [hy342]; with_reducible exact H2_) | (have H2_ := (Option.bind_some _ _).symm.trans H; with_reducible exact H2_) | with_reducible exact H | (rw [hy342]; exact H) | exact H
       have Ny342 := am hy342; clear hy342; have H' := am H; clear H; have hcz11_0 := bc (.slice A0_0 l0_0.length c0_0) BK336 0; have hfz11_0 := blk_frozen BK336.out 0; have p340 : 0 ≤ (x4_1 : Int) := of_decide_eq_true ax26; have q340 : x4_1 < (l0_0.length : Int) := of_decide_eq_true ax26; obtain ⟨ad340, e340, hx340_0, hx340_1, hx340_2⟩ := at_T74 HR0_0.out x4_1 p340 q340; (try rw [← Nbq7.out] at hx340_2)
       cases e340
       replace hx340_0 := (HB.out.cell (World.block_lt_of_cell? w _ hx340_0)).trans hx340_0; replace hx340_1 := (HB.out.cell (World.block_lt_of_cell? w _ hx340_1)).trans hx340_1; replace hx340_2 := (HB.out.cell (World.block_lt_of_cell? w _ hx340_2)).trans hx340_2; replace p340 := eq_true p340; replace q340 := eq_true q340
       go_wp2_with (first | ((with_reducible refine gd 22 165 ?_); refine gc 22 Tryz.func165 #[.agg #[.slice (some ad340) l0_0.length c0_0], .int .i64 x4_1] (spec_l2Prefix.calls k1 _ _ l0_0 x4_1 t341 _ ax145 (HC0_0.out) A9.out) ?_; rintro e w12 ⟨rfl, hb⟩; refine ⟨_, rfl, ?_⟩; replace HO_3 := uR HO_3 hb; replace BK336 := ub BK336 hb; replace HB := am (below_step ax143 hb); (try clear hb)) | ((with_reducible refine gate_builtin (b := .append) (xs := #[.tmp 19, .tmp 23]) rfl ?_); at_builtin; refine Kd.R_append Kd.string (w0 := w) w.heap.size rfl (.tmp 19) (.tmp 23) 31 9 (.string ⟨#[]⟩) 16 rfl Tryz.underlying31 info9 rfl (by decide) (by omega) u3 x3_1 t341 [.string t341] (fun _ => True) (fun _ => False) rfl rfl ?aP (fun _ hk => hk.elim) ?aF ?aO ?aB ?aS ?aL ?_; (case aP => exact rfl); (case aB => exact ax143); (case aF => exact ax37); (case aO => exact ax100); (case aS => exact (below_size ax143)); (case aL => have := LMc10.out; omega); intro v343 w13 ho hb hg hat; rw [← Ny342.out] at ho; have n0_ := am (blk_grown (g := gb336) (o := .cells #[.slice (some ad340) l0_0.length c0_0] 26 (0, 0)) ax144 hg (Kd.R_ne HO_3.out BK336.out (by decide))); have n1_ := am (hb); have n2_ := am (ho); clear BK336; clear HB; clear HO_3; have BK336 := n0_; have HB := n1_; have HO344 := n2_; clear n0_ n1_ n2_; clear ho hb hg hat))
       go_roundg k1
       case measure => have := HK1.out; omega
       case rel => exact ⟨(y342), (wrap64 (x4_1 + 1)), ax31, H', ⟨by have := HK1.out; omega⟩, ⟨(by (with_reducible repeat (first | apply Kd.R_alloc | apply Kd.R_drewN | apply Kd.R_drew)); exact HO344.out)⟩, ⟨ax144⟩, ⟨ax143⟩⟩
      ·exact ax16
     ·replace c8 := Bool.eq_false_iff.mpr c8
      subst c8; rw [if_neg (show ¬ (false = true) by decide)] at H; have H' := am H; clear H; have hcz14_0 := bc (.slice A0_0 l0_0.length c0_0) BK336 0; have hfz14_0 := blk_frozen BK336.out 0; have p340 : 0 ≤ (x4_1 : Int) := of_decide_eq_true ax26; have q340 : x4_1 < (l0_0.length : Int) := of_decide_eq_true ax26; obtain ⟨ad340, e340, hx340_0, hx340_1, hx340_2⟩ := at_T74 HR0_0.out x4_1 p340 q340; (try rw [← Nbq7.out] at hx340_2)
      cases e340
      replace hx340_0 := (HB.out.cell (World.block_lt_of_cell? w _ hx340_0)).trans hx340_0; replace hx340_1 := (HB.out.cell (World.block_lt_of_cell? w _ hx340_1)).trans hx340_1; replace hx340_2 := (HB.out.cell (World.block_lt_of_cell? w _ hx340_2)).trans hx340_2; replace p340 := eq_true p340; replace q340 := eq_true q340
      go_wp2
      go_roundg k1
      case measure => have := HK1.out; omega
      case rel => exact ⟨(x3_1), (wrap64 (x4_1 + 1)), ax31, H', ⟨by have := HK1.out; omega⟩, ⟨ax93⟩, ⟨ax144⟩, ⟨ax143⟩⟩
    ·exact ax5
   ·rw [if_neg c5] at H
    have c5b0 := decide_eq_false c5; clear c5; obtain rfl := Option.some.inj H; have hcz15_0 := bc (.slice A0_0 l0_0.length c0_0) BK336 0; have hfz15_0 := blk_frozen BK336.out 0
    go_wp2
    go_ret
    exact ⟨_, ax27, ax93, ax143⟩

/-! ### spec_l2Same: function 193 -/
mutual
def spec_l2Same.l0 : Nat → Int → List (S74) → List (S74) → Option (Bool)
 | 0, _, _, _ => none
 | k + 1, x5, x346000, x347000 => if x5 < (x346000.length : Int) then (spec_l2Same.j1 k x5 (decide (x5 < (x347000.length : Int))) x346000 x347000) else (spec_l2Same.j1 k x5 false x346000 x347000)
def spec_l2Same.j1 : Nat → Int → Bool → List (S74) → List (S74) → Option (Bool)
 | 0, _, _, _, _ => none
 | k + 1, x5, x17, x346000, x347000 => if x17 = true then (if 0 ≤ x5 then (if x5 < (x346000.length : Int) then (if x5 < (x347000.length : Int) then (if (!(((rd_T74 x346000 x5).f0) == ((rd_T74 x347000 x5).f0)) || (!(((rd_T74 x346000 x5).f1) == ((rd_T74 x347000 x5).f1)) || (!(((rd_T74 x346000 x5).f2) == ((rd_T74 x347000 x5).f2))))) = true then (some false) else (spec_l2Same.l0 k (wrap64 (x5 + 1)) x346000 x347000)) else (none)) else (none)) else (none)) else (some ((x346000.length : Int) == (x347000.length : Int)))
end
def spec_l2Same.f (k : Nat) (l0_0 : List (S74)) (l1_0 : List (S74)) : Option (Bool) := spec_l2Same.l0 k 0 l0_0 l1_0
set_option maxHeartbeats 8000000 in
set_option maxRecDepth 100000 in
theorem spec_l2Same.calls (k : Nat) (A0_0 : Option Addr) (c0_0 : Nat) (l0_0 : List (S74)) (A1_0 : Option Addr) (c1_0 : Nat) (l1_0 : List (S74)) (r : Bool) (w : World) (hr0_0 : Kd.C k74 w A0_0 l0_0.length l0_0) (hc0_0 : l0_0.length ≤ c0_0) (hr1_0 : Kd.C k74 w A1_0 l1_0.length l1_0) (hc1_0 : l1_0.length ≤ c1_0) (h : spec_l2Same.f k l0_0 l1_0 = some r) :
  Calls Tryz.prog 193 #[.agg #[.slice A0_0 l0_0.length c0_0], .agg #[.slice A1_0 l1_0.length c1_0]] w fun e w' => e = .returned (.bool r) ∧ Below w.heap.size w w' := by
 have hu26 := Tryz.underlying26; have hu74 := Tryz.underlying74; have HR0_0 := am hr0_0; have HC0_0 := am hc0_0; clear hr0_0 hc0_0; have HR1_0 := am hr1_0; have HC1_0 := am hc1_0; clear hr1_0 hc1_0; have HB := am (Below.refl w.heap.size w)
 unfold spec_l2Same.f at h
 have H := h; clear h; have H' := am H; clear H
 go_enter Tryz.func193, Tryz.ntmps193
 go_wp2_with (first | ((with_reducible refine gate_dst (N := 2) rfl ?_); (try (refine gate_guard (by rfl) ?_; dsimp only)); refine bx 2 #[.slice A0_0 l0_0.length c0_0] 26 ?_; intro gb345 hg w3 hbox hb; have BK345 := am (hbox); have GW345 := uG hg HB; have GE345 := uG hg HB; replace HB := uB HB hb; clear hb hbox hg) | ((with_reducible refine gate_dst (N := 3) rfl ?_); (try (refine gate_guard (by rfl) ?_; dsimp only)); refine bx 3 #[.slice A1_0 l1_0.length c1_0] 26 ?_; intro gb346 hg w4 hbox hb; have BK346 := am (hbox); have GW346 := am ((ax146 : w.heap.size ≤ gb346)); have GE346 := am ((ax146 : w.heap.size ≤ gb346)); replace HB := am (below_step ax147 hb); have NB345_346 := uN hg BK345; have NB346_345 := uM hg BK345; replace BK345 := ub BK345 hb; clear hb hbox hg))
 repeat (go_quiet (fail); try go_wp2_with (first | ((with_reducible refine gate_dst (N := 2) rfl ?_); (try (refine gate_guard (by rfl) ?_; dsimp only)); refine bx 2 #[.slice A0_0 l0_0.length c0_0] 26 ?_; intro gb345 hg w3 hbox hb; have n0_ := am (below_step ax39 hb); have n1_ := am (hbox); have n2_ := am ((ax148 : w.heap.size ≤ gb345)); have n3_ := am ((ax148 : w.heap.size ≤ gb345)); clear HB; have HB := n0_; have BK345 := n1_; have GW345 := n2_; have GE345 := n3_; clear n0_ n1_ n2_ n3_; clear hb hbox hg) | ((with_reducible refine gate_dst (N := 3) rfl ?_); (try (refine gate_guard (by rfl) ?_; dsimp only)); refine bx 3 #[.slice A1_0 l1_0.length c1_0] 26 ?_; intro gb346 hg w4 hbox hb; have n0_ := am (blk_below (g := gb345) (o := .cells #[.slice A0_0 l0_0.length c0_0] 26 (0, 0)) ax149 hb); have n1_ := am (below_step ax147 hb); have n2_ := am (hbox); have n3_ := am ((ax146 : w.heap.size ≤ gb346)); have n4_ := am ((ax146 : w.heap.size ≤ gb346)); have n5_ := am ((by rw [hg]; exact Nat.ne_of_lt (blk_lt (g := gb345) (o := .cells #[.slice A0_0 l0_0.length c0_0] 26 (0, 0)) ax149) : gb345 ≠ gb346)); have n6_ := am ((by rw [hg]; exact Nat.ne_of_gt (blk_lt (g := gb345) (o := .cells #[.slice A0_0 l0_0.length c0_0] 26 (0, 0)) ax149) : gb346 ≠ gb345)); clear BK345; clear HB; have BK345 := n0_; have HB := n1_; have BK346 := n2_; have GW346 := n3_; have GE346 := n4_; have NB345_346 := n5_; have NB346_345 := n6_; clear n0_ n1_ n2_ n3_ n4_ n5_ n6_; clear hb hbox hg)))
 go_loopg [5] k (fun kq v5 w' => ∃ (x5_1 : Int), v5 = .int .i64 x5_1 ∧ Aside0 (spec_l2Same.l0 kq x5_1 l0_0 l1_0 = some r) ∧ Aside0 (kq ≤ k) ∧ Aside0 (w'.heap[gb345]? = some (.cells #[(.slice A0_0 l0_0.length c0_0)] 26 (0, 0))) ∧ Aside0 (w'.heap[gb346]? = some (.cells #[(.slice A1_0 l1_0.length c1_0)] 26 (0, 0))) ∧ Aside0 (Below w.heap.size w w'))
 case atStart => exact ⟨(0), ax31, H', ⟨Nat.le_refl _⟩, ⟨ax149⟩, ⟨ax150⟩, ⟨ax151⟩⟩
 case round =>
  clear H'; obtain ⟨x5_1, rfl, HA, HK1, BK345, BK346, HB⟩ := hrel
  cases gk with
  | zero => exact absurd HA.out (by simp [spec_l2Same.l0])
  | succ k1 =>
   have H := HA.out; clear HA; simp only [spec_l2Same.l0] at H; have HC5 := am H; clear H
   go_upto_region 2 with (fail)
   repeat (go_quiet (fail); go_upto_region 2 with (fail))
   go_cut [17] (fun v17 wc => ∃ (kq : Nat) (x17_4 : Bool), v17 = .bool x17_4 ∧ Aside0 (spec_l2Same.j1 kq x5_1 x17_4 l0_0 l1_0 = some r) ∧ Aside0 (kq ≤ k1) ∧ Aside0 (wc.heap[gb345]? = some (.cells #[(.slice A0_0 l0_0.length c0_0)] 26 (0, 0))) ∧ Aside0 (wc.heap[gb346]? = some (.cells #[(.slice A1_0 l1_0.length c1_0)] 26 (0, 0))) ∧ Aside0 (Below w.heap.size w wc))
   case first =>
    have H := HC5.out; clear HC5
    by_cases c6 : x5_1 < (l0_0.length : Int)
    ·rw [if_pos c6] at H
     have c6b0 := decide_eq_true c6; clear c6; (first | rw [c6b0] | (simp only [i64_w, i32_w]; rw [c6b0]) | skip); have H' := am H; clear H; have hnb7 := NB345_346.out; have hnc7 := NB346_345.out; have hcz8_0 := bc (.slice A0_0 l0_0.length c0_0) BK345 0; have hfz8_0 := blk_frozen BK345.out 0; have hcz9_0 := bc (.slice A1_0 l1_0.length c1_0) BK346 0; have hfz9_0 := blk_frozen BK346.out 0
     go_wp2
     repeat (go_quiet (fail); try go_wp2)
     go_meet
     case rel => exact ⟨_, (decide (x5_1 < (l1_0.length : Int))), ax31, H', ⟨ax40⟩, ⟨ax149⟩, ⟨ax150⟩, ⟨ax151⟩⟩
    ·rw [if_neg c6] at H
     have c6b0 := decide_eq_false c6; clear c6; (first | rw [c6b0] | (simp only [i64_w, i32_w]; rw [c6b0]) | skip); have H' := am H; clear H; have hnb10 := NB345_346.out; have hnc10 := NB346_345.out; have hcz11_0 := bc (.slice A0_0 l0_0.length c0_0) BK345 0; have hfz11_0 := blk_frozen BK345.out 0
     go_wp2
     repeat (go_quiet (fail); try go_wp2)
     go_meet
     case rel => exact ⟨_, (false), ax31, H', ⟨ax40⟩, ⟨ax149⟩, ⟨ax150⟩, ⟨ax151⟩⟩
   case rest =>
    clear HC5; obtain ⟨kq, x17_4, rfl, HA, HJ4, BK345, BK346, HB⟩ := hcut
    cases kq with
    | zero => exact absurd HA.out (by simp [spec_l2Same.j1])
    | succ kj4 =>
     have H := HA.out; clear HA; simp only [spec_l2Same.j1] at H
     by_cases c12 : x17_4 = true
     ·subst c12
      rw [if_pos rfl] at H
      by_cases c13 : 0 ≤ x5_1
      ·rw [if_pos c13] at H
       have c13b0 := decide_eq_true c13; clear c13
       by_cases c14 : x5_1 < (l0_0.length : Int)
       ·rw [if_pos c14] at H
        have c14b0 := decide_eq_true c14; clear c14
        by_cases c15 : x5_1 < (l1_0.length : Int)
        ·rw [if_pos c15] at H
         have c15b0 := decide_eq_true c15; clear c15
         by_cases c16 : (!(((rd_T74 l0_0 x5_1).f0) == ((rd_T74 l1_0 x5_1).f0)) || (!(((rd_T74 l0_0 x5_1).f1) == ((rd_T74 l1_0 x5_1).f1)) || (!(((rd_T74 l0_0 x5_1).f2) == ((rd_T74 l1_0 x5_1).f2))))) = true
         ·rw [if_pos c16] at H
          have c16b0 : (!(((rd_T74 l0_0 x5_1).f0) == ((rd_T74 l1_0 x5_1).f0)) || (!(((rd_T74 l0_0 x5_1).f1) == ((rd_T74 l1_0 x5_1).f1)) || (!(((rd_T74 l0_0 x5_1).f2) == ((rd_T74 l1_0 x5_1).f2))))) = true := c16; clear c16; obtain rfl := Option.some.inj H; have hnb17 := NB345_346.out; have hnc17 := NB346_345.out; have hcz18_0 := bc (.slice A0_0 l0_0.length c0_0) BK345 0; have hfz18_0 := blk_frozen BK345.out 0; have p347 : 0 ≤ (x5_1 : Int) := of_decide_eq_true ax26; have q347 : x5_1 < (l0_0.length : Int) := of_decide_eq_true ax26; obtain ⟨ad347, e347, hx347_0, hx347_1, hx347_2⟩ := at_T74 HR0_0.out x5_1 p347 q347
          cases e347
          replace hx347_0 := (HB.out.cell (World.block_lt_of_cell? w _ hx347_0)).trans hx347_0; replace hx347_1 := (HB.out.cell (World.block_lt_of_cell? w _ hx347_1)).trans hx347_1; replace hx347_2 := (HB.out.cell (World.block_lt_of_cell? w _ hx347_2)).trans hx347_2; replace p347 := eq_true p347; replace q347 := eq_true q347; have hcz19_0 := bc (.slice A1_0 l1_0.length c1_0) BK346 0; have hfz19_0 := blk_frozen BK346.out 0; have p348 : 0 ≤ (x5_1 : Int) := of_decide_eq_true ax26; have q348 : x5_1 < (l1_0.length : Int) := of_decide_eq_true ax26; obtain ⟨ad348, e348, hx348_0, hx348_1, hx348_2⟩ := at_T74 HR1_0.out x5_1 p348 q348
          cases e348
          replace hx348_0 := (HB.out.cell (World.block_lt_of_cell? w _ hx348_0)).trans hx348_0; replace hx348_1 := (HB.out.cell (World.block_lt_of_cell? w _ hx348_1)).trans hx348_1; replace hx348_2 := (HB.out.cell (World.block_lt_of_cell? w _ hx348_2)).trans hx348_2; replace p348 := eq_true p348; replace q348 := eq_true q348
          go_wp2
          repeat (go_quiet (fail); try go_wp2)
          go_ret
          exact ⟨ax27, ax151⟩
         ·rw [if_neg c16] at H
          have c16b0 : (!(((rd_T74 l0_0 x5_1).f0) == ((rd_T74 l1_0 x5_1).f0)) || (!(((rd_T74 l0_0 x5_1).f1) == ((rd_T74 l1_0 x5_1).f1)) || (!(((rd_T74 l0_0 x5_1).f2) == ((rd_T74 l1_0 x5_1).f2))))) = false := by simpa using c16
          clear c16; have H' := am H; clear H; have hnb20 := NB345_346.out; have hnc20 := NB346_345.out; have hcz21_0 := bc (.slice A0_0 l0_0.length c0_0) BK345 0; have hfz21_0 := blk_frozen BK345.out 0; have p347 : 0 ≤ (x5_1 : Int) := of_decide_eq_true ax26; have q347 : x5_1 < (l0_0.length : Int) := of_decide_eq_true ax26; obtain ⟨ad347, e347, hx347_0, hx347_1, hx347_2⟩ := at_T74 HR0_0.out x5_1 p347 q347
          cases e347
          replace hx347_0 := (HB.out.cell (World.block_lt_of_cell? w _ hx347_0)).trans hx347_0; replace hx347_1 := (HB.out.cell (World.block_lt_of_cell? w _ hx347_1)).trans hx347_1; replace hx347_2 := (HB.out.cell (World.block_lt_of_cell? w _ hx347_2)).trans hx347_2; replace p347 := eq_true p347; replace q347 := eq_true q347; have hcz22_0 := bc (.slice A1_0 l1_0.length c1_0) BK346 0; have hfz22_0 := blk_frozen BK346.out 0; have p348 : 0 ≤ (x5_1 : Int) := of_decide_eq_true ax26; have q348 : x5_1 < (l1_0.length : Int) := of_decide_eq_true ax26; obtain ⟨ad348, e348, hx348_0, hx348_1, hx348_2⟩ := at_T74 HR1_0.out x5_1 p348 q348
          cases e348
          replace hx348_0 := (HB.out.cell (World.block_lt_of_cell? w _ hx348_0)).trans hx348_0; replace hx348_1 := (HB.out.cell (World.block_lt_of_cell? w _ hx348_1)).trans hx348_1; replace hx348_2 := (HB.out.cell (World.block_lt_of_cell? w _ hx348_2)).trans hx348_2; replace p348 := eq_true p348; replace q348 := eq_true q348
          go_wp2
          repeat (go_quiet (fail); try go_wp2)
          go_roundg kj4
          case measure => have := HK1.out; have := HJ4.out; omega
          case rel => exact ⟨(wrap64 (x5_1 + 1)), ax31, H', ⟨(by have := HK1.out; have := HJ4.out; omega)⟩, ⟨ax149⟩, ⟨ax150⟩, ⟨ax151⟩⟩
        ·exact ax18
       ·exact ax7
      ·exact ax19
     ·replace c12 := Bool.eq_false_iff.mpr c12
      subst c12; rw [if_neg (show ¬ (false = true) by decide)] at H; obtain rfl := Option.some.inj H; have hnb23 := NB345_346.out; have hnc23 := NB346_345.out; have hcz24_0 := bc (.slice A0_0 l0_0.length c0_0) BK345 0; have hfz24_0 := blk_frozen BK345.out 0; have hcz25_0 := bc (.slice A1_0 l1_0.length c1_0) BK346 0; have hfz25_0 := blk_frozen BK346.out 0
      go_wp2
      repeat (go_quiet (fail); try go_wp2)
      go_ret
      exact ⟨ax27, ax151⟩

end Go.Proofs.YtcplbbflfgckbaaGreatDoor.X


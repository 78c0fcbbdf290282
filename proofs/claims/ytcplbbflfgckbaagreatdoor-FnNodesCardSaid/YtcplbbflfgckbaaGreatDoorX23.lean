-- By gen.py (the session's own program over the kit's printer): functions of the program, each with its contract. Lean checks it.
import Derived.Test.YtcplbbflfgckbaaGreatDoorX0
import Derived.Test.YtcplbbflfgckbaaGreatDoorX2
import Derived.Test.YtcplbbflfgckbaaGreatDoorX6
import Derived.Test.YtcplbbflfgckbaaGreatDoorX7
import Derived.Test.YtcplbbflfgckbaaGreatDoorX8
import Derived.Test.YtcplbbflfgckbaaGreatDoorX9
import Derived.Test.YtcplbbflfgckbaaGreatDoorX10
import Derived.Test.YtcplbbflfgckbaaGreatDoorX14
namespace Go.Proofs.YtcplbbflfgckbaaGreatDoor.X
open Go.RowKit Go.Proofs.YtcplbbflfgckbaaGreatDoorW.PrintWords Go.Proofs.YtcplbbflfgckbaaGreatDoorW.PrintLast Go.Proofs.YtcplbbflfgckbaaGreatDoorW.PrintMore
attribute [local go_sem] max2_int min2_int max_two min_two max_three min_three max_four min_four   -- for this text's walks alone
set_option linter.unusedVariables false
set_option linter.unusedSimpArgs false

/-! ### spec_RankOf: function 81 -/
mutual
def spec_RankOf.j0 : Nat → ByteArray → Bool → List (S74) → Option (Int × Bool)
 | 0, _, _, _ => none
 | k + 1, x1, x16, x1224000 => if x16 = true then (some (0, false)) else ((spec_l2Words.f k x1224000).bind fun t1226 => (spec_RankOf.l0 k x1 0 t1226 0))
def spec_RankOf.l0 : Nat → ByteArray → Int → List ByteArray → Int → Option (Int × Bool)
 | 0, _, _, _, _ => none
 | k + 1, x1, x6, x7, x8 => if x8 < (x7.length : Int) then (if 0 ≤ x8 then ((spec_l2Before.f k (rdOf ByteArray.empty x7 x8) x1).bind fun t1230 => (if t1230 = true then (spec_RankOf.l0 k x1 (wrap64 (x6 + 1)) x7 (wrap64 (x8 + 1))) else (spec_RankOf.l0 k x1 x6 x7 (wrap64 (x8 + 1))))) else (none)) else (some (x6, true))
end
def spec_RankOf.f (k : Nat) (l0_0 : List (S74)) (a1 : ByteArray) : Option (Int × Bool) := (spec_l2Trie.f k l0_0).bind fun t1224 => (if t1224 = true then ((spec_l2Word.f k a1).bind fun t1225 => (spec_RankOf.j0 k a1 (!t1225) l0_0)) else (spec_RankOf.j0 k a1 true l0_0))
set_option maxHeartbeats 8000000 in
set_option maxRecDepth 100000 in
theorem spec_RankOf.calls (k : Nat) (A0_0 : Option Addr) (c0_0 : Nat) (l0_0 : List (S74)) (a1 : ByteArray) (r1 : Int) (r2 : Bool) (w : World) (hr0_0 : Kd.C k74 w A0_0 l0_0.length l0_0) (hc0_0 : l0_0.length ≤ c0_0) (h : spec_RankOf.f k l0_0 a1 = some (r1, r2)) :
  Calls Tryz.prog 81 #[.agg #[.slice A0_0 l0_0.length c0_0], .string a1] w fun e w' => e = .returned (.tuple #[.int .i64 r1, .bool r2]) ∧ Below w.heap.size w w' := by
 have hu26 := Tryz.underlying26; have HR0_0 := am hr0_0; have HC0_0 := am hc0_0; clear hr0_0 hc0_0; have HB := am (Below.refl w.heap.size w)
 unfold spec_RankOf.f at h
 have H := h; clear h; have HC3 := am H; clear H
 go_enter Tryz.func81, Tryz.ntmps81
 go_upto_region 1 with (first | ((with_reducible refine gate_dst (N := 2) rfl ?_); refine bx 2 #[.slice A0_0 l0_0.length c0_0] 26 ?_; intro gb1223 hg w4 hbox hb; have BK1223 := am (hbox); have GW1223 := uG hg HB; have GE1223 := uG hg HB; replace HB := uB HB hb; clear hb hbox hg))
 (try simp only [Act.put, List.setIfInBounds_toArray, List.set_cons_zero, List.set_cons_succ])
 go_cut [16] (fun v16 wc => ∃ (kq : Nat) (x16_2 : Bool), v16 = .bool x16_2 ∧ Aside0 (spec_RankOf.j0 kq a1 x16_2 l0_0 = some (r1, r2)) ∧ Aside0 (kq ≤ k) ∧ Aside0 (wc.heap[gb1223]? = some (.cells #[(.slice A0_0 l0_0.length c0_0)] 26 (0, 0))) ∧ Aside0 (Below w.heap.size w wc))
 case first =>
  have H := HC3.out; clear HC3; obtain ⟨t1224, A5, H⟩ := bs H
  by_cases c6 : t1224 = true
  ·subst c6
   rw [if_pos rfl] at H; obtain ⟨t1225, A7, H⟩ := bs H; have H' := am H; clear H; have hcz8_0 := bc (.slice A0_0 l0_0.length c0_0) BK1223 0; have hfz8_0 := blk_frozen BK1223.out 0
   go_wp2_with (first | ((with_reducible refine gd 10 113 ?_); refine gc 10 Tryz.func113 #[.agg #[.slice A0_0 l0_0.length c0_0]] (spec_l2Trie.calls k _ _ l0_0 true _ ax145 (HC0_0.out) A5.out) ?_; rintro e w9 ⟨rfl, hb⟩; refine ⟨_, rfl, ?_⟩; replace BK1223 := ub BK1223 hb; replace HB := am (below_step ax280 hb); (try clear hb)) | (go_at_call 117; (with_reducible refine (spec_l2Word.calls k a1 t1225 _ A7.out).mono ?_); rintro e w' ⟨rfl, ⟨nd, rfl⟩⟩))
   go_meet
   case rel => exact ⟨_, (!t1225), ax31, H', ⟨by first | omega | exact Nat.le_refl _⟩, ⟨ax281⟩, ⟨ax280⟩⟩
  ·replace c6 := Bool.eq_false_iff.mpr c6
   subst c6; rw [if_neg (show ¬ (false = true) by decide)] at H; have H' := am H; clear H; have hcz10_0 := bc (.slice A0_0 l0_0.length c0_0) BK1223 0; have hfz10_0 := blk_frozen BK1223.out 0
   go_wp2_with (first | ((with_reducible refine gd 10 113 ?_); refine gc 10 Tryz.func113 #[.agg #[.slice A0_0 l0_0.length c0_0]] (spec_l2Trie.calls k _ _ l0_0 false _ ax145 (HC0_0.out) A5.out) ?_; rintro e w11 ⟨rfl, hb⟩; refine ⟨_, rfl, ?_⟩; replace BK1223 := ub BK1223 hb; replace HB := am (below_step ax280 hb); (try clear hb)))
   go_meet
   case rel => exact ⟨_, (true), ax31, H', ⟨by first | omega | exact Nat.le_refl _⟩, ⟨ax281⟩, ⟨ax280⟩⟩
 case rest =>
  clear HC3; obtain ⟨kq, x16_2, rfl, HA, HJ2, BK1223, HB⟩ := hcut
  cases kq with
  | zero => exact absurd HA.out (by simp [spec_RankOf.j0])
  | succ kj2 =>
   have H := HA.out; clear HA; simp only [spec_RankOf.j0] at H
   by_cases c12 : x16_2 = true
   ·subst c12
    rw [if_pos rfl] at H; simp only [Option.some.injEq, Prod.mk.injEq] at H; obtain ⟨rfl, rfl⟩ := H
    go_wp2
    go_ret2
    exact ⟨ax27, ax280⟩
   ·replace c12 := Bool.eq_false_iff.mpr c12
    subst c12; rw [if_neg (show ¬ (false = true) by decide)] at H; obtain ⟨t1226, A13, H⟩ := bs H; have H' := am H; clear H; have hcz14_0 := bc (.slice A0_0 l0_0.length c0_0) BK1223 0; have hfz14_0 := blk_frozen BK1223.out 0
    go_wp2_with (first | ((with_reducible refine gd 18 115 ?_); refine gc 18 Tryz.func115 #[.agg #[.slice A0_0 l0_0.length c0_0]] (spec_l2Words.calls kj2 _ _ l0_0 t1226 _ ax145 (HC0_0.out) A13.out) ?_; rintro e w15 ⟨v1227, rfl, ho0, hb⟩; refine ⟨_, rfl, ?_⟩; have HO1228 := am (Kd.R_lower ho0 (below_size ax280)); replace BK1223 := ub BK1223 hb; replace HB := am (below_step ax280 hb); (try clear hb ho0)))
    go_loopg [6, 8] kj2 (fun kq v6 v8 w' => ∃ (x6_2 : Int) (x8_2 : Int), v6 = .int .i64 x6_2 ∧ v8 = .int .i64 x8_2 ∧ Aside0 (spec_RankOf.l0 kq a1 x6_2 t1226 x8_2 = some (r1, r2)) ∧ Aside0 (kq ≤ kj2) ∧ Aside0 (Kd.R Kd.string 9 w' w.heap.size (fun _ => True) v1227 t1226) ∧ Aside0 (w'.heap[gb1223]? = some (.cells #[(.slice A0_0 l0_0.length c0_0)] 26 (0, 0))) ∧ Aside0 (Below w.heap.size w w'))
    case atStart => exact ⟨(0), (0), ax31, ax31, H', ⟨Nat.le_refl _⟩, ⟨(by (with_reducible repeat (first | apply Kd.R_alloc | apply Kd.R_drewN | apply Kd.R_drew)); exact HO1228.out)⟩, ⟨ax281⟩, ⟨ax280⟩⟩
    case round =>
     clear H'; (try clear hfz14_0);(try clear hcz14_0);(try clear c12); obtain ⟨x6_2, x8_2, rfl, rfl, HA, HK2, HO_7, BK1223, HB⟩ := hrel
     cases gk with
     | zero => exact absurd HA.out (by simp [spec_RankOf.l0])
     | succ k2 =>
      have H := HA.out; clear HA; simp only [spec_RankOf.l0] at H
      by_cases c16 : x8_2 < (t1226.length : Int)
      ·rw [if_pos c16] at H
       have c16b0 := decide_eq_true c16; clear c16
       by_cases c17 : 0 ≤ x8_2
       ·rw [if_pos c17] at H
        have c17b0 := decide_eq_true c17; clear c17; obtain ⟨t1230, A18, H⟩ := bs H
        by_cases c19 : t1230 = true
        ·subst c19
         rw [if_pos rfl] at H; have H' := am H; clear H; obtain ⟨Ao20, co20, eo20⟩ := Kd.R_slice HO_7.out; subst eo20; have p1229 : 0 ≤ (x8_2 : Int) := of_decide_eq_true ax26; have q1229 : x8_2 < (t1226.length : Int) := of_decide_eq_true ax26; obtain ⟨ad1229, e1229, hx1229_0⟩ := Kd.at_string (Kd.R_reads' HO_7.out).2.2 x8_2 p1229 q1229
         cases e1229
         replace p1229 := eq_true p1229; replace q1229 := eq_true q1229
         go_wp2_with (first | ((with_reducible refine gd 30 170 ?_); refine gc 30 Tryz.func170 #[.string (rdOf ByteArray.empty t1226 x8_2), .string a1] (spec_l2Before.calls k2 (rdOf ByteArray.empty t1226 x8_2) a1 true _ A18.out) ?_; rintro e w' ⟨rfl, ⟨nd, rfl⟩⟩; refine ⟨_, rfl, ?_⟩))
         go_roundg k2
         case measure => have := HJ2.out; have := HK2.out; omega
         case rel => exact ⟨(wrap64 (x6_2 + 1)), (wrap64 (x8_2 + 1)), ax31, ax31, H', ⟨ax282⟩, ⟨ax283⟩, ⟨ax281⟩, ⟨ax280⟩⟩
        ·replace c19 := Bool.eq_false_iff.mpr c19
         subst c19; rw [if_neg (show ¬ (false = true) by decide)] at H; have H' := am H; clear H; obtain ⟨Ao21, co21, eo21⟩ := Kd.R_slice HO_7.out; subst eo21; have p1229 : 0 ≤ (x8_2 : Int) := of_decide_eq_true ax26; have q1229 : x8_2 < (t1226.length : Int) := of_decide_eq_true ax26; obtain ⟨ad1229, e1229, hx1229_0⟩ := Kd.at_string (Kd.R_reads' HO_7.out).2.2 x8_2 p1229 q1229
         cases e1229
         replace p1229 := eq_true p1229; replace q1229 := eq_true q1229
         go_wp2_with (first | ((with_reducible refine gd 30 170 ?_); refine gc 30 Tryz.func170 #[.string (rdOf ByteArray.empty t1226 x8_2), .string a1] (spec_l2Before.calls k2 (rdOf ByteArray.empty t1226 x8_2) a1 false _ A18.out) ?_; rintro e w' ⟨rfl, ⟨nd, rfl⟩⟩; refine ⟨_, rfl, ?_⟩))
         go_roundg k2
         case measure => have := HJ2.out; have := HK2.out; omega
         case rel => exact ⟨(x6_2), (wrap64 (x8_2 + 1)), ax31, ax31, H', ⟨ax282⟩, ⟨ax283⟩, ⟨ax281⟩, ⟨ax280⟩⟩
       ·exact ax21
      ·rw [if_neg c16] at H
       have c16b0 := decide_eq_false c16; clear c16; simp only [Option.some.injEq, Prod.mk.injEq] at H; obtain ⟨rfl, rfl⟩ := H; obtain ⟨Ao22, co22, eo22⟩ := Kd.R_slice HO_7.out; subst eo22
       go_wp2
       go_ret2
       exact ⟨ax27, ax280⟩

/-! ### spec_DrawWordAt: function 82 -/
def spec_DrawWordAt.f (k : Nat) (l0 : List Int) : Option ((List (S74)) × Int) := (spec_l1Cur_trie.f k l0 0 0).bind fun bt1233 => ((spec_l1Cur_pick.f l0 bt1233.2.1 bt1233.2.2 8).bind fun bt1239 => ((spec_l1Cur_pick.f l0 bt1239.2.1 bt1239.2.2 24).bind fun bt1242 => (some (bt1233.1, wrap64 (bt1239.1 - (wrap64 (Int.tdiv bt1242.1 23)))))))
def spec_DrawWordAt.T3 : Bool × List (List Nat × List Nat) := (true, [([], []), ([], []), ([1], [1]), ([], []), ([3, 2], [3]), ([4], [4]), ([2, 5], [2, 5]), ([0, 4, 0], [0]), ([6, 7, 0, 1, 2, 3, 4, 5, 6, 7], [6])])
def spec_DrawWordAt.B3 : List Nat := [0, 0, 2, 0, 14, 30, 62, 31, 255]
theorem spec_DrawWordAt.tab3 : rtab .any (opsOf Tryz.f82 3) = spec_DrawWordAt.T3 := by kernel_rfl
theorem spec_DrawWordAt.bits3 : waitsOk spec_DrawWordAt.T3.2 spec_DrawWordAt.B3 = true := by kernel_rfl
set_option maxHeartbeats 8000000 in
set_option maxRecDepth 100000 in
theorem spec_DrawWordAt.calls (k : Nat) (A0 : Option Addr) (c0 : Nat) (l0 : List Int) (r1 : List (S74)) (r2 : Int) (w : World) (hr0 : Kd.C (Kd.int .u8) w A0 l0.length l0) (hc0 : l0.length ≤ c0) (h : spec_DrawWordAt.f k l0 = some (r1, r2)) :
  Calls Tryz.prog 82 #[.slice A0 l0.length c0] w fun e w' => ∃ v0_ : Value, e = .returned (.tuple #[.agg #[v0_], .int .i64 r2]) ∧ Kd.R k74 74 w' w.heap.size (fun _ => True) v0_ r1 ∧ Below w.heap.size w w' := by
 have hu26 := Tryz.underlying26; have hu82 := Tryz.underlying82; have HR0 := am hr0; have HC0 := am hc0; clear hr0 hc0; have HB := am (Below.refl w.heap.size w)
 unfold spec_DrawWordAt.f at h
 have H := h; clear h; obtain ⟨⟨t1233, t1236, t1237⟩, A2, H⟩ := bs H; obtain ⟨⟨t1239, t1240, t1241⟩, A3, H⟩ := bs H; obtain ⟨⟨t1242, t1243, t1244⟩, A4, H⟩ := bs H; simp only [Option.some.injEq, Prod.mk.injEq] at H; obtain ⟨rfl, rfl⟩ := H
 go_enter Tryz.func82, Tryz.ntmps82
 try go_wp2_with (first | ((with_reducible refine gate_dst (N := 2) rfl ?_); refine bx 2 #[.slice none 0 0] 26 ?_; intro gb1231 hg w5 hbox hb; have BK1231 := am (hbox); have GW1231 := uG hg HB; have GE1231 := uG hg HB; replace HB := uB HB hb; clear hb hbox hg) | ((with_reducible refine gate_dst (N := 8) rfl ?_); refine bx 8 #[.slice A0 l0.length c0, .int .i64 0, .int .u64 0] 82 ?_; intro gb1232 hg w6 hbox hb; have BK1232 := am (hbox); have GW1232 := am ((ax284 : w.heap.size ≤ gb1232)); have GE1232 := am ((ax284 : w.heap.size ≤ gb1232)); have NB1231_1232 := uN hg BK1231; have NB1232_1231 := uM hg BK1231; replace BK1231 := ub BK1231 hb; have HI1232 := am ((⟨_, _, hbox, ax284, HR0.out⟩ : IsS82 w w6 gb1232 l0 0 0)); replace HB := am (below_step ax285 hb); clear hb hbox hg) | ((with_reducible refine gd 10 108 ?_); refine gc 10 Tryz.func108 #[.pointer (some ⟨gb1232, 0, none⟩)] (spec_l1Cur_trie.calls k gb1232 l0 0 0 t1233 t1236 t1237 w _ ax286 ax287 A2.out) ?_; rintro e w7 ⟨v1234, rfl, ho0, hi, hb, hk⟩; refine ⟨_, rfl, ?_⟩; replace BK1231 := am (KeepBut.blk hk (g' := gb1231) (o := .cells #[.slice none 0 0] 26 (0, 0)) ax288 NB1231_1232.out (by simp)); have HO1235 := am (Kd.R_lower ho0 (below_size ax287)); replace HB := am (hb); replace HI1232 := am (hi); (try clear hb hk hi ho0)) | ((with_reducible refine gate_dst (N := 5) rfl ?_); refine bx 5 #[.slice none 0 0] 26 ?_; intro gb1238 hg w8 hbox hb; replace HO1235 := uR HO1235 hb; have BK1238 := am (hbox); have GW1238 := am ((ax289 : w.heap.size ≤ gb1238)); have GE1238 := am ((ax289 : w.heap.size ≤ gb1238)); replace HB := am (below_step ax287 hb); have NB1231_1238 := uN hg BK1231; have NB1238_1231 := uM hg BK1231; replace BK1231 := ub BK1231 hb; have NB1232_1238 := am ((by rw [hg]; exact Nat.ne_of_lt (IsS82.lt (show IsS82 w _ gb1232 l0 t1236 t1237 from by repeat (first | (with_reducible first | exact HI1232.out | apply IsS82.alloc | apply IsS82.drewN | apply IsS82.drew | apply IsS82.set_1 | apply IsS82.set_2 | refine IsS82.far ?_ NB1232_1231.out _) | exact HI1232.out))) : gb1232 ≠ gb1238)); have NB1238_1232 := am ((by rw [hg]; exact Nat.ne_of_gt (IsS82.lt (show IsS82 w _ gb1232 l0 t1236 t1237 from by repeat (first | (with_reducible first | exact HI1232.out | apply IsS82.alloc | apply IsS82.drewN | apply IsS82.drew | apply IsS82.set_1 | apply IsS82.set_2 | refine IsS82.far ?_ NB1232_1231.out _) | exact HI1232.out))) : gb1238 ≠ gb1232)); replace HI1232 := am (IsS82.below ax286 hb); clear hb hbox hg; obtain ⟨Ao9, co9, eo9⟩ := Kd.R_slice HO1235.out; subst eo9; have hnb10 := NB1238_1231.out; have hnc10 := NB1231_1238.out; have hnb11 := NB1238_1232.out; have hnc11 := NB1232_1238.out; have hcz12_0 := bc (.slice none 0 0) BK1238 0; have hfz12_0 := blk_frozen BK1238.out 0))
 have n0_ : Aside0 (Kd.R k74 74 (w8.setCell ⟨gb1238, 0, none⟩ (.slice Ao9 t1233.length co9)) w.heap.size (fun _ => True) (.slice Ao9 t1233.length co9) t1233) := ⟨(by (with_reducible repeat (first | apply Kd.R_alloc | apply Kd.R_drewN | apply Kd.R_drew)); exact Kd.R_mono (Kd.R_far (p := ⟨gb1238, 0, none⟩) (Kd.R_types HO1235.out BK1238.out (by decide)) (fun _ hk => hk.2) (.slice Ao9 t1233.length co9)) (fun _ hk => trivial))⟩; have n1_ : Aside0 ((w8.setCell ⟨gb1238, 0, none⟩ (.slice Ao9 t1233.length co9)).heap[gb1231]? = some (.cells #[.slice none 0 0] 26 (0, 0))) := ⟨(by (with_reducible repeat (first | refine blk_drewN ?_ _ | refine blk_drew ?_ | refine blk_alloc ?_ _)); refine blk_far ?_ NB1231_1238.out _; (with_reducible repeat (first | refine blk_drewN ?_ _ | refine blk_drew ?_ | refine blk_alloc ?_ _)); exact BK1231.out)⟩; have n2_ : Aside0 ((w8.setCell ⟨gb1238, 0, none⟩ (.slice Ao9 t1233.length co9)).heap[gb1238]? = some (.cells #[.slice Ao9 t1233.length co9] 26 (0, 0))) := ⟨(by (with_reducible repeat (first | refine blk_drewN ?_ _ | refine blk_drew ?_ | refine blk_alloc ?_ _)); refine blk_put (cs := #[.slice none 0 0]) ?_ 0 _ rfl; (with_reducible repeat (first | refine blk_drewN ?_ _ | refine blk_drew ?_ | refine blk_alloc ?_ _)); exact BK1238.out)⟩; have n3_ : Aside0 (IsS82 w (w8.setCell ⟨gb1238, 0, none⟩ (.slice Ao9 t1233.length co9)) gb1232 l0 t1236 t1237) := ⟨ax290⟩; have n4_ : Aside0 (Below w.heap.size w (w8.setCell ⟨gb1238, 0, none⟩ (.slice Ao9 t1233.length co9))) := ⟨ax291⟩; (try clear HO1235); (try clear BK1231); (try clear BK1238); (try clear HI1232); (try clear HB); generalize (w8.setCell ⟨gb1238, 0, none⟩ (.slice Ao9 t1233.length co9)) = w13 at n0_ n1_ n2_ n3_ n4_ ⊢; have HO1235 := n0_; have BK1231 := n1_; have BK1238 := n2_; have HI1232 := n3_; have HB := n4_; clear n0_ n1_ n2_ n3_ n4_; replace HO1235 := am (Kd.R_drew HO1235.out); replace BK1231 := am (blk_drew BK1231.out); replace BK1238 := am (blk_drew BK1238.out); replace HI1232 := am (IsS82.drew HI1232.out); replace HB := am (below_drew1 HB.out); refine start_ (n := 9) (S := fun w' => w'.cell? ⟨gb1238, 0, none⟩ = some (.slice Ao9 t1233.length co9)) (ds := []) (ob 9 0) (by kernel_rfl) rfl rfl ((blk_cell BK1238.out 0).trans rfl) (fun hHeld => ?_); refine with_tabW spec_DrawWordAt.tab3 spec_DrawWordAt.bits3 (fun HT_ HW_ => ?_); generalize w13.drew = w14 at HO1235 BK1231 BK1238 HI1232 HB hHeld ⊢; refine pu 1 12 ?_; refine pu 3 14 ?_; refine take_ (i := 0) (N := some 11) (v := ?_) (a' := ?_) (ob 9 11) rfl rfl (take_ofW HT_.out HW_.out (by kernel_rfl)) (fun _ _ _ h => h) (Or.inl ⟨by rfl, ?_⟩) hHeld ?_ ?_
 rotate_left
 ·exact ax14
 rotate_left
 ·exact ax15
 refine one_ (i := 2) (N := some 13) (ob 9 15) rfl rfl (one_of HT_.out (by kernel_rfl)) (by decide) (fun K hK => ?_); refine goes_ Tryz.func127 (by kernel_rfl) rfl #[.pointer (some ⟨gb1232, 0, none⟩), .int .i64 8] (by rfl) rfl rfl ax42 ?_
 with_reducible refine (spec_l1Cur_pick.calls gb1232 l0 t1236 t1237 8 t1239 t1240 t1241 w _ ?side1 ?side2 A3.out).mono ?_
 (case side1 => exact ax290)
 (case side2 => exact ax291)
 rintro e w15 ⟨rfl, hi, hb, hk⟩; refine ⟨_, rfl, ?_⟩; replace BK1231 := am (KeepBut.blk hk (g' := gb1231) (o := .cells #[.slice none 0 0] 26 (0, 0)) ax288 NB1231_1232.out (by simp)); replace HO1235 := am (Kd.R_mono (Kd.R_keep (IsS82.apart (show IsS82 w _ gb1232 l0 t1236 t1237 from by repeat (first | (with_reducible first | exact HI1232.out | apply IsS82.alloc | apply IsS82.drewN | apply IsS82.drew | apply IsS82.set_1 | apply IsS82.set_2 | refine IsS82.far ?_ NB1232_1231.out _ | refine IsS82.far ?_ NB1232_1238.out _) | exact HI1232.out)) ax292 (by decide)) hk (fun _ h => h.2)) (fun _ h => h.1)); replace BK1238 := am (KeepBut.blk hk (g' := gb1238) (o := .cells #[.slice Ao9 t1233.length co9] 26 (0, 0)) ax293 NB1238_1232.out (by simp)); replace HB := am (hb); replace HI1232 := am (hi); (try clear hb); (try clear hb2); (try clear hk); (try clear hi); refine hK.out _ _ ((blk_cell BK1238.out 0).trans rfl) (fun hHeld => ?_); clear hK K; refine nm 13 ?_; refine one_ (i := 4) (N := some 15) (ob 9 31) rfl rfl (one_of HT_.out (by kernel_rfl)) (by decide) (fun K hK => ?_); refine goes_ Tryz.func127 (by kernel_rfl) rfl #[.pointer (some ⟨gb1232, 0, none⟩), .int .i64 24] (by rfl) rfl rfl ax42 ?_
 with_reducible refine (spec_l1Cur_pick.calls gb1232 l0 t1240 t1241 24 t1242 t1243 t1244 w _ ?side1 ?side2 A4.out).mono ?_
 (case side1 => exact ax290)
 (case side2 => exact ax291)
 rintro e w16 ⟨rfl, hi, hb, hk⟩; refine ⟨_, rfl, ?_⟩; replace BK1231 := am (KeepBut.blk hk (g' := gb1231) (o := .cells #[.slice none 0 0] 26 (0, 0)) ax288 NB1231_1232.out (by simp)); replace HO1235 := am (Kd.R_mono (Kd.R_keep (IsS82.apart (show IsS82 w _ gb1232 l0 t1240 t1241 from by repeat (first | (with_reducible first | exact HI1232.out | apply IsS82.alloc | apply IsS82.drewN | apply IsS82.drew | apply IsS82.set_1 | apply IsS82.set_2 | refine IsS82.far ?_ NB1232_1231.out _ | refine IsS82.far ?_ NB1232_1238.out _) | exact HI1232.out)) ax292 (by decide)) hk (fun _ h => h.2)) (fun _ h => h.1)); replace BK1238 := am (KeepBut.blk hk (g' := gb1238) (o := .cells #[.slice Ao9 t1233.length co9] 26 (0, 0)) ax293 NB1238_1232.out (by simp)); replace HB := am (hb); replace HI1232 := am (hi); (try clear hb); (try clear hb2); (try clear hk); (try clear hi); refine hK.out _ _ ((blk_cell BK1238.out 0).trans rfl) (fun hHeld => ?_); clear hK K; refine nm 15 ?_; refine pu 5 16 ?_; refine pu 6 17 ?_; refine one_ (i := 7) (N := none) (ob 9 255) rfl rfl (one_of HT_.out (by kernel_rfl)) (by decide) (fun K hK => ?_); have hs17 : w16.cell? ⟨gb1231, 0, none⟩ = some (.slice none 0 0) := (blk_cell BK1231.out 0).trans rfl; have hfs17 := blk_frozen BK1231.out 0; have hns17_1 := NB1238_1231.out; have hms17_1 := NB1231_1238.out; refine skip_ (w1 := ?_) (by rfl) rfl ?_ ?_
 rotate_left
 ·go_simp
  rfl
 refine hK.out _ _ (((cell_far (p := ⟨gb1231, _, none⟩) NB1238_1231.out _).trans (hHeld))) (fun hHeld => ?_); clear hK K; refine pu 8 3 ?_; refine dn ?_
 try go_wp2
 refine bodyPost_ret (results_ct rfl _ _ gb1231 26 #[.slice Ao9 t1233.length co9] (0, 0) _ rfl (by (with_reducible repeat (first | refine blk_drewN ?_ _ | refine blk_drew ?_ | refine blk_alloc ?_ _)); refine blk_put (cs := #[.slice none 0 0]) ?_ 0 _ rfl; (with_reducible repeat (first | refine blk_drewN ?_ _ | refine blk_drew ?_ | refine blk_alloc ?_ _)); exact BK1231.out) Tryz.underlying26 rfl (by kernel_rfl)) rfl ?_
 exact ⟨_, ax27, (by (with_reducible repeat (first | apply Kd.R_alloc | apply Kd.R_drewN | apply Kd.R_drew)); exact Kd.R_mono (Kd.R_far (p := ⟨gb1231, 0, none⟩) (Kd.R_types HO1235.out BK1231.out (by decide)) (fun _ hk => hk.2) (.slice Ao9 t1233.length co9)) (fun _ hk => trivial)), ax291⟩

/-! ### impl_WordAt: function 83 -/
def impl_WordAt.f (k : Nat) (l0_0 : List (S74)) (a1 : Int) : Option (ByteArray × Bool) := (impl_isTrie.f k l0_0).bind fun t1246 => (if t1246 = true then ((impl_Trie_words.f k l0_0).bind fun t1247 => ((impl_in.f a1 0 (wrap64 ((t1247.length : Int) - 1))).bind fun t1250 => (if t1250 = true then ((impl_Trie_words.f k l0_0).bind fun t1251 => (if 0 ≤ a1 then (if a1 < (t1251.length : Int) then (some (rdOf ByteArray.empty t1251 a1, true)) else (none)) else (none))) else (some ((⟨#[]⟩ : ByteArray), false))))) else (some ((⟨#[]⟩ : ByteArray), false)))
set_option maxHeartbeats 8000000 in
set_option maxRecDepth 100000 in
theorem impl_WordAt.calls (k : Nat) (A0_0 : Option Addr) (c0_0 : Nat) (l0_0 : List (S74)) (a1 : Int) (r1 : ByteArray) (r2 : Bool) (w : World) (hr0_0 : Kd.C k74 w A0_0 l0_0.length l0_0) (hc0_0 : l0_0.length ≤ c0_0) (h : impl_WordAt.f k l0_0 a1 = some (r1, r2)) :
  Calls Tryz.prog 83 #[.agg #[.slice A0_0 l0_0.length c0_0], .int .i64 a1] w fun e w' => e = .returned (.tuple #[.string r1, .bool r2]) ∧ Below w.heap.size w w' := by
 have hu26 := Tryz.underlying26; have HR0_0 := am hr0_0; have HC0_0 := am hc0_0; clear hr0_0 hc0_0; have HB := am (Below.refl w.heap.size w)
 unfold impl_WordAt.f at h
 have H := h; clear h; obtain ⟨t1246, A3, H⟩ := bs H
 by_cases c4 : t1246 = true
 ·subst c4
  rw [if_pos rfl] at H; obtain ⟨t1247, A5, H⟩ := bs H; obtain ⟨t1250, A6, H⟩ := bs H
  by_cases c7 : t1250 = true
  ·subst c7
   rw [if_pos rfl] at H; obtain ⟨t1251, A8, H⟩ := bs H
   by_cases c9 : 0 ≤ a1
   ·rw [if_pos c9] at H
    have c9b0 := decide_eq_true c9; clear c9
    by_cases c10 : a1 < (t1251.length : Int)
    ·rw [if_pos c10] at H
     have c10b0 := decide_eq_true c10; clear c10; simp only [Option.some.injEq, Prod.mk.injEq] at H; obtain ⟨rfl, rfl⟩ := H
     go_enter Tryz.func83, Tryz.ntmps83
     go_wp2_with (first | ((with_reducible refine gate_dst (N := 2) rfl ?_); (try (refine gate_guard (by rfl) ?_; dsimp only)); refine bx 2 #[.slice A0_0 l0_0.length c0_0] 26 ?_; intro gb1245 hg w11 hbox hb; have BK1245 := am (hbox); have GW1245 := uG hg HB; have GE1245 := uG hg HB; replace HB := uB HB hb; clear hb hbox hg; have hcz12_0 := bc (.slice A0_0 l0_0.length c0_0) BK1245 0; have hfz12_0 := blk_frozen BK1245.out 0) | ((with_reducible refine gd 7 124 ?_); refine gc 7 Tryz.func124 #[.agg #[.slice A0_0 l0_0.length c0_0]] (impl_isTrie.calls k _ _ l0_0 true _ ax145 (HC0_0.out) A3.out) ?_; rintro e w13 ⟨rfl, hb⟩; refine ⟨_, rfl, ?_⟩; replace BK1245 := ub BK1245 hb; replace HB := am (below_step ax294 hb); (try clear hb); have hcz14_0 := bc (.slice A0_0 l0_0.length c0_0) BK1245 0; have hfz14_0 := blk_frozen BK1245.out 0) | (go_at_call 125; (with_reducible refine (impl_Trie_words.calls k _ _ l0_0 t1247 _ ?side1 ?side2 A5.out).mono ?_); (case side1 => exact ax145); (case side2 => exact ax158); rintro e w15 ⟨v1248, rfl, ho0, hb⟩; have HO1249 := am (Kd.R_lower ho0 (below_size ax294)); replace BK1245 := ub BK1245 hb; replace HB := am (below_step ax294 hb); (try clear hb ho0); obtain ⟨Ao16, co16, eo16⟩ := Kd.R_slice HO1249.out; subst eo16) | (go_at_call 129; (with_reducible refine (impl_in.calls a1 0 (wrap64 ((t1247.length : Int) - 1)) true _ A6.out).mono ?_); rintro e w' ⟨rfl, ⟨nd, rfl⟩⟩; have hcz17_0 := bc (.slice A0_0 l0_0.length c0_0) BK1245 0; have hfz17_0 := blk_frozen BK1245.out 0) | ((with_reducible refine gd 19 125 ?_); refine gc 19 Tryz.func125 #[.agg #[.slice A0_0 l0_0.length c0_0]] (impl_Trie_words.calls k _ _ l0_0 t1251 _ (by repeat (first | exact (Kd.C_below HR0_0.out ax294) | (with_reducible refine Kd.C_alloc ?_ _) | (with_reducible refine Kd.C_drewN ?_ _) | (with_reducible refine Kd.C_drew ?_))) (HC0_0.out) A8.out) ?_; rintro e w18 ⟨v1252, rfl, ho0, hb⟩; refine ⟨_, rfl, ?_⟩; have HO1253 := am (Kd.R_lower (Kd.R_new' ho0 (Kd.R_lt ax295)) (below_size ax294)); replace HO1249 := am (Kd.R_elder' ax295 (Kd.R_base ho0) hb); replace BK1245 := ub BK1245 hb; replace HB := am (below_step ax294 hb); (try clear hb ho0); obtain ⟨Ao19, co19, eo19⟩ := Kd.R_slice HO1253.out; subst eo19; have p1254 : 0 ≤ (a1 : Int) := of_decide_eq_true ax26; have q1254 : a1 < (t1251.length : Int) := of_decide_eq_true ax26; obtain ⟨ad1254, e1254, hx1254_0⟩ := Kd.at_string (Kd.R_reads' HO1253.out).2.2 a1 p1254 q1254; cases e1254; replace p1254 := eq_true p1254; replace q1254 := eq_true q1254))
     go_ret2
     exact ⟨ax27, ax294⟩
    ·exact ax16
   ·exact ax3
  ·replace c7 := Bool.eq_false_iff.mpr c7
   subst c7; rw [if_neg (show ¬ (false = true) by decide)] at H; simp only [Option.some.injEq, Prod.mk.injEq] at H; obtain ⟨rfl, rfl⟩ := H
   go_enter Tryz.func83, Tryz.ntmps83
   go_wp2_with (first | ((with_reducible refine gate_dst (N := 2) rfl ?_); (try (refine gate_guard (by rfl) ?_; dsimp only)); refine bx 2 #[.slice A0_0 l0_0.length c0_0] 26 ?_; intro gb1245 hg w20 hbox hb; have BK1245 := am (hbox); have GW1245 := uG hg HB; have GE1245 := uG hg HB; replace HB := uB HB hb; clear hb hbox hg; have hcz21_0 := bc (.slice A0_0 l0_0.length c0_0) BK1245 0; have hfz21_0 := blk_frozen BK1245.out 0) | ((with_reducible refine gd 7 124 ?_); refine gc 7 Tryz.func124 #[.agg #[.slice A0_0 l0_0.length c0_0]] (impl_isTrie.calls k _ _ l0_0 true _ ax145 (HC0_0.out) A3.out) ?_; rintro e w22 ⟨rfl, hb⟩; refine ⟨_, rfl, ?_⟩; replace BK1245 := ub BK1245 hb; replace HB := am (below_step ax294 hb); (try clear hb); have hcz23_0 := bc (.slice A0_0 l0_0.length c0_0) BK1245 0; have hfz23_0 := blk_frozen BK1245.out 0) | (go_at_call 125; (with_reducible refine (impl_Trie_words.calls k _ _ l0_0 t1247 _ ?side1 ?side2 A5.out).mono ?_); (case side1 => exact ax145); (case side2 => exact ax158); rintro e w24 ⟨v1248, rfl, ho0, hb⟩; have HO1249 := am (Kd.R_lower ho0 (below_size ax294)); replace BK1245 := ub BK1245 hb; replace HB := am (below_step ax294 hb); (try clear hb ho0); obtain ⟨Ao25, co25, eo25⟩ := Kd.R_slice HO1249.out; subst eo25) | (go_at_call 129; (with_reducible refine (impl_in.calls a1 0 (wrap64 ((t1247.length : Int) - 1)) false _ A6.out).mono ?_); rintro e w' ⟨rfl, ⟨nd, rfl⟩⟩))
   go_ret2
   exact ⟨ax27, ax294⟩
 ·replace c4 := Bool.eq_false_iff.mpr c4
  subst c4; rw [if_neg (show ¬ (false = true) by decide)] at H; simp only [Option.some.injEq, Prod.mk.injEq] at H; obtain ⟨rfl, rfl⟩ := H
  go_enter Tryz.func83, Tryz.ntmps83
  go_wp2_with (first | ((with_reducible refine gate_dst (N := 2) rfl ?_); (try (refine gate_guard (by rfl) ?_; dsimp only)); refine bx 2 #[.slice A0_0 l0_0.length c0_0] 26 ?_; intro gb1245 hg w26 hbox hb; have BK1245 := am (hbox); have GW1245 := uG hg HB; have GE1245 := uG hg HB; replace HB := uB HB hb; clear hb hbox hg; have hcz27_0 := bc (.slice A0_0 l0_0.length c0_0) BK1245 0; have hfz27_0 := blk_frozen BK1245.out 0) | ((with_reducible refine gd 7 124 ?_); refine gc 7 Tryz.func124 #[.agg #[.slice A0_0 l0_0.length c0_0]] (impl_isTrie.calls k _ _ l0_0 false _ ax145 (HC0_0.out) A3.out) ?_; rintro e w28 ⟨rfl, hb⟩; refine ⟨_, rfl, ?_⟩; replace BK1245 := ub BK1245 hb; replace HB := am (below_step ax294 hb); (try clear hb)))
  go_ret2
  exact ⟨ax27, ax294⟩

/-! ### spec_WordAt: function 84 -/
def spec_WordAt.f (k : Nat) (l0_0 : List (S74)) (a1 : Int) : Option (ByteArray × Bool) := (spec_l2Trie.f k l0_0).bind fun t1256 => (if t1256 = true then ((spec_l2Words.f k l0_0).bind fun t1257 => ((spec_l1In.f a1 0 (wrap64 ((t1257.length : Int) - 1))).bind fun t1260 => (if t1260 = true then (if 0 ≤ a1 then (if a1 < (t1257.length : Int) then (some (rdOf ByteArray.empty t1257 a1, true)) else (none)) else (none)) else (some ((⟨#[]⟩ : ByteArray), false))))) else (some ((⟨#[]⟩ : ByteArray), false)))
set_option maxHeartbeats 8000000 in
set_option maxRecDepth 100000 in
theorem spec_WordAt.calls (k : Nat) (A0_0 : Option Addr) (c0_0 : Nat) (l0_0 : List (S74)) (a1 : Int) (r1 : ByteArray) (r2 : Bool) (w : World) (hr0_0 : Kd.C k74 w A0_0 l0_0.length l0_0) (hc0_0 : l0_0.length ≤ c0_0) (h : spec_WordAt.f k l0_0 a1 = some (r1, r2)) :
  Calls Tryz.prog 84 #[.agg #[.slice A0_0 l0_0.length c0_0], .int .i64 a1] w fun e w' => e = .returned (.tuple #[.string r1, .bool r2]) ∧ Below w.heap.size w w' := by
 have hu26 := Tryz.underlying26; have HR0_0 := am hr0_0; have HC0_0 := am hc0_0; clear hr0_0 hc0_0; have HB := am (Below.refl w.heap.size w)
 unfold spec_WordAt.f at h
 have H := h; clear h; obtain ⟨t1256, A3, H⟩ := bs H
 by_cases c4 : t1256 = true
 ·subst c4
  rw [if_pos rfl] at H; obtain ⟨t1257, A5, H⟩ := bs H; obtain ⟨t1260, A6, H⟩ := bs H
  by_cases c7 : t1260 = true
  ·subst c7
   rw [if_pos rfl] at H
   by_cases c8 : 0 ≤ a1
   ·rw [if_pos c8] at H
    have c8b0 := decide_eq_true c8; clear c8
    by_cases c9 : a1 < (t1257.length : Int)
    ·rw [if_pos c9] at H
     have c9b0 := decide_eq_true c9; clear c9; simp only [Option.some.injEq, Prod.mk.injEq] at H; obtain ⟨rfl, rfl⟩ := H
     go_enter Tryz.func84, Tryz.ntmps84
     go_wp2_with (first | ((with_reducible refine gate_dst (N := 2) rfl ?_); refine bx 2 #[.slice A0_0 l0_0.length c0_0] 26 ?_; intro gb1255 hg w10 hbox hb; have BK1255 := am (hbox); have GW1255 := uG hg HB; have GE1255 := uG hg HB; replace HB := uB HB hb; clear hb hbox hg; have hcz11_0 := bc (.slice A0_0 l0_0.length c0_0) BK1255 0; have hfz11_0 := blk_frozen BK1255.out 0) | ((with_reducible refine gd 8 113 ?_); refine gc 8 Tryz.func113 #[.agg #[.slice A0_0 l0_0.length c0_0]] (spec_l2Trie.calls k _ _ l0_0 true _ ax145 (HC0_0.out) A3.out) ?_; rintro e w12 ⟨rfl, hb⟩; refine ⟨_, rfl, ?_⟩; replace BK1255 := ub BK1255 hb; replace HB := am (below_step ax296 hb); (try clear hb); have hcz13_0 := bc (.slice A0_0 l0_0.length c0_0) BK1255 0; have hfz13_0 := blk_frozen BK1255.out 0) | ((with_reducible refine gd 11 115 ?_); refine gc 11 Tryz.func115 #[.agg #[.slice A0_0 l0_0.length c0_0]] (spec_l2Words.calls k _ _ l0_0 t1257 _ ax145 (HC0_0.out) A5.out) ?_; rintro e w14 ⟨v1258, rfl, ho0, hb⟩; refine ⟨_, rfl, ?_⟩; have HO1259 := am (Kd.R_lower ho0 (below_size ax296)); replace BK1255 := ub BK1255 hb; replace HB := am (below_step ax296 hb); (try clear hb ho0); obtain ⟨Ao15, co15, eo15⟩ := Kd.R_slice HO1259.out; subst eo15) | ((with_reducible refine gd 16 132 ?_); refine gc 16 Tryz.func132 #[.int .i64 a1, .int .i64 0, .int .i64 (wrap64 ((t1257.length : Int) - 1))] (spec_l1In.calls a1 0 (wrap64 ((t1257.length : Int) - 1)) true _ A6.out) ?_; rintro e w' ⟨rfl, ⟨nd, rfl⟩⟩; refine ⟨_, rfl, ?_⟩; have p1261 : 0 ≤ (a1 : Int) := of_decide_eq_true ax26; have q1261 : a1 < (t1257.length : Int) := of_decide_eq_true ax26; obtain ⟨ad1261, e1261, hx1261_0⟩ := Kd.at_string (Kd.R_reads' HO1259.out).2.2 a1 p1261 q1261; cases e1261; replace p1261 := eq_true p1261; replace q1261 := eq_true q1261))
     go_ret2
     exact ⟨ax27, ax296⟩
    ·exact ax3
   ·exact ax17
  ·replace c7 := Bool.eq_false_iff.mpr c7
   subst c7; rw [if_neg (show ¬ (false = true) by decide)] at H; simp only [Option.some.injEq, Prod.mk.injEq] at H; obtain ⟨rfl, rfl⟩ := H
   go_enter Tryz.func84, Tryz.ntmps84
   go_wp2_with (first | ((with_reducible refine gate_dst (N := 2) rfl ?_); refine bx 2 #[.slice A0_0 l0_0.length c0_0] 26 ?_; intro gb1255 hg w16 hbox hb; have BK1255 := am (hbox); have GW1255 := uG hg HB; have GE1255 := uG hg HB; replace HB := uB HB hb; clear hb hbox hg; have hcz17_0 := bc (.slice A0_0 l0_0.length c0_0) BK1255 0; have hfz17_0 := blk_frozen BK1255.out 0) | ((with_reducible refine gd 8 113 ?_); refine gc 8 Tryz.func113 #[.agg #[.slice A0_0 l0_0.length c0_0]] (spec_l2Trie.calls k _ _ l0_0 true _ ax145 (HC0_0.out) A3.out) ?_; rintro e w18 ⟨rfl, hb⟩; refine ⟨_, rfl, ?_⟩; replace BK1255 := ub BK1255 hb; replace HB := am (below_step ax296 hb); (try clear hb); have hcz19_0 := bc (.slice A0_0 l0_0.length c0_0) BK1255 0; have hfz19_0 := blk_frozen BK1255.out 0) | ((with_reducible refine gd 11 115 ?_); refine gc 11 Tryz.func115 #[.agg #[.slice A0_0 l0_0.length c0_0]] (spec_l2Words.calls k _ _ l0_0 t1257 _ ax145 (HC0_0.out) A5.out) ?_; rintro e w20 ⟨v1258, rfl, ho0, hb⟩; refine ⟨_, rfl, ?_⟩; have HO1259 := am (Kd.R_lower ho0 (below_size ax296)); replace BK1255 := ub BK1255 hb; replace HB := am (below_step ax296 hb); (try clear hb ho0); obtain ⟨Ao21, co21, eo21⟩ := Kd.R_slice HO1259.out; subst eo21) | ((with_reducible refine gd 16 132 ?_); refine gc 16 Tryz.func132 #[.int .i64 a1, .int .i64 0, .int .i64 (wrap64 ((t1257.length : Int) - 1))] (spec_l1In.calls a1 0 (wrap64 ((t1257.length : Int) - 1)) false _ A6.out) ?_; rintro e w' ⟨rfl, ⟨nd, rfl⟩⟩; refine ⟨_, rfl, ?_⟩))
   go_ret2
   exact ⟨ax27, ax296⟩
 ·replace c4 := Bool.eq_false_iff.mpr c4
  subst c4; rw [if_neg (show ¬ (false = true) by decide)] at H; simp only [Option.some.injEq, Prod.mk.injEq] at H; obtain ⟨rfl, rfl⟩ := H
  go_enter Tryz.func84, Tryz.ntmps84
  go_wp2_with (first | ((with_reducible refine gate_dst (N := 2) rfl ?_); refine bx 2 #[.slice A0_0 l0_0.length c0_0] 26 ?_; intro gb1255 hg w22 hbox hb; have BK1255 := am (hbox); have GW1255 := uG hg HB; have GE1255 := uG hg HB; replace HB := uB HB hb; clear hb hbox hg; have hcz23_0 := bc (.slice A0_0 l0_0.length c0_0) BK1255 0; have hfz23_0 := blk_frozen BK1255.out 0) | ((with_reducible refine gd 8 113 ?_); refine gc 8 Tryz.func113 #[.agg #[.slice A0_0 l0_0.length c0_0]] (spec_l2Trie.calls k _ _ l0_0 false _ ax145 (HC0_0.out) A3.out) ?_; rintro e w24 ⟨rfl, hb⟩; refine ⟨_, rfl, ?_⟩; replace BK1255 := ub BK1255 hb; replace HB := am (below_step ax296 hb); (try clear hb)))
  go_ret2
  exact ⟨ax27, ax296⟩

end Go.Proofs.YtcplbbflfgckbaaGreatDoor.X


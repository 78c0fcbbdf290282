-- By gen.py (the session's own program over the kit's printer): functions of the program, each with its contract. Lean checks it.
import Derived.Test.YtcplbbflfgckbaaGreatDoorX0
import Derived.Test.YtcplbbflfgckbaaGreatDoorX2
import Derived.Test.YtcplbbflfgckbaaGreatDoorX7
import Derived.Test.YtcplbbflfgckbaaGreatDoorX8
import Derived.Test.YtcplbbflfgckbaaGreatDoorX9
import Derived.Test.YtcplbbflfgckbaaGreatDoorX10
import Derived.Test.YtcplbbflfgckbaaGreatDoorX14
import Derived.Test.YtcplbbflfgckbaaGreatDoorX17
namespace Go.Proofs.YtcplbbflfgckbaaGreatDoor.X
open Go.RowKit Go.Proofs.YtcplbbflfgckbaaGreatDoorW.PrintWords Go.Proofs.YtcplbbflfgckbaaGreatDoorW.PrintLast Go.Proofs.YtcplbbflfgckbaaGreatDoorW.PrintMore
attribute [local go_sem] max2_int min2_int max_two min_two max_three min_three max_four min_four   -- for this text's walks alone
set_option linter.unusedVariables false
set_option linter.unusedSimpArgs false

/-! ### spec_l1Most: function 134 -/
def spec_l1Most.f (a0 : Int) (a1 : Int) : Option (Int) := if a0 > a1 then (some a0) else (some a1)
set_option maxHeartbeats 8000000 in
set_option maxRecDepth 100000 in
theorem spec_l1Most.calls (a0 : Int) (a1 : Int) (r : Int) (w : World) (h : spec_l1Most.f a0 a1 = some r) :
  Calls Tryz.prog 134 #[.int .i64 a0, .int .i64 a1] w fun e w' => e = .returned (.int .i64 r) ∧ Drawn0 w w' := by
 unfold spec_l1Most.f at h
 have H := h; clear h
 by_cases c3 : a0 > a1
 ·rw [if_pos c3] at H
  have c3b0 := decide_eq_true c3; clear c3; obtain rfl := Option.some.inj H
  go_enter Tryz.func134, Tryz.ntmps134
  go_wp2
  go_ret
  exact ⟨ax31, ax32⟩
 ·rw [if_neg c3] at H
  have c3b0 := decide_eq_false c3; clear c3; obtain rfl := Option.some.inj H
  go_enter Tryz.func134, Tryz.ntmps134
  go_wp2
  go_ret
  exact ⟨ax31, ax32⟩

/-! ### spec_DrawPrefixOf: function 159 -/
def spec_DrawPrefixOf.f (k : Nat) (l0 : List Int) : Option ((List (S74)) × Int) := (spec_l1Cur_trie.f k l0 0 0).bind fun bt1117 => ((spec_l1Most.f 1 (bt1117.1.length : Int)).bind fun t1123 => ((spec_l1Cur_pick.f l0 bt1117.2.1 bt1117.2.2 t1123).bind fun bt1124 => ((spec_l1Cur_pick.f l0 bt1124.2.1 bt1124.2.2 24).bind fun bt1127 => ((spec_l1Cur_pick.f l0 bt1127.2.1 bt1127.2.2 24).bind fun bt1130 => (some (bt1117.1, wrap64 ((wrap64 (bt1124.1 + (wrap64 (Int.tdiv bt1127.1 23)))) - (wrap64 (Int.tdiv bt1130.1 23)))))))))
def spec_DrawPrefixOf.T3 : Bool × List (List Nat × List Nat) := (true, [([], []), ([], []), ([], []), ([2], [2]), ([3], [3]), ([4], [4]), ([1, 5, 5], [1, 5]), ([], []), ([7, 6], [7]), ([8], [8]), ([6, 9], [6, 9]), ([], []), ([11, 8], [11]), ([12], [12]), ([10, 13], [10, 13]), ([0, 12, 0], [0]), ([14, 15, 0, 1, 2, 3, 4, 5, 6, 7, 8, 9, 10, 11, 12, 13, 14, 15], [14])])
def spec_DrawPrefixOf.B3 : List Nat := [0, 0, 0, 4, 12, 28, 62, 0, 254, 510, 1022, 0, 2558, 6654, 16382, 6655, 65535]
theorem spec_DrawPrefixOf.tab3 : rtab .any (opsOf Tryz.f159 3) = spec_DrawPrefixOf.T3 := by kernel_rfl
theorem spec_DrawPrefixOf.bits3 : waitsOk spec_DrawPrefixOf.T3.2 spec_DrawPrefixOf.B3 = true := by kernel_rfl
set_option maxHeartbeats 8000000 in
set_option maxRecDepth 100000 in
theorem spec_DrawPrefixOf.calls (k : Nat) (A0 : Option Addr) (c0 : Nat) (l0 : List Int) (r1 : List (S74)) (r2 : Int) (w : World) (hr0 : Kd.C (Kd.int .u8) w A0 l0.length l0) (hc0 : l0.length ≤ c0) (h : spec_DrawPrefixOf.f k l0 = some (r1, r2)) :
  Calls Tryz.prog 159 #[.slice A0 l0.length c0] w fun e w' => ∃ v0_ : Value, e = .returned (.tuple #[.agg #[v0_], .int .i64 r2]) ∧ Kd.R k74 74 w' w.heap.size (fun _ => True) v0_ r1 ∧ Below w.heap.size w w' := by
 have hu26 := Tryz.underlying26; have hu82 := Tryz.underlying82; have HR0 := am hr0; have HC0 := am hc0; clear hr0 hc0; have HB := am (Below.refl w.heap.size w)
 unfold spec_DrawPrefixOf.f at h
 have H := h; clear h; obtain ⟨⟨t1117, t1120, t1121⟩, A2, H⟩ := bs H; obtain ⟨t1123, A3, H⟩ := bs H; obtain ⟨⟨t1124, t1125, t1126⟩, A4, H⟩ := bs H; obtain ⟨⟨t1127, t1128, t1129⟩, A5, H⟩ := bs H; obtain ⟨⟨t1130, t1131, t1132⟩, A6, H⟩ := bs H; simp only [Option.some.injEq, Prod.mk.injEq] at H; obtain ⟨rfl, rfl⟩ := H
 go_enter Tryz.func159, Tryz.ntmps159
 try go_wp2_with (first | ((with_reducible refine gate_dst (N := 2) rfl ?_); refine bx 2 #[.slice none 0 0] 26 ?_; intro gb1115 hg w7 hbox hb; have BK1115 := am (hbox); have GW1115 := uG hg HB; have GE1115 := uG hg HB; replace HB := uB HB hb; clear hb hbox hg) | ((with_reducible refine gate_dst (N := 8) rfl ?_); refine bx 8 #[.slice A0 l0.length c0, .int .i64 0, .int .u64 0] 82 ?_; intro gb1116 hg w8 hbox hb; have BK1116 := am (hbox); have GW1116 := am ((ax245 : w.heap.size ≤ gb1116)); have GE1116 := am ((ax245 : w.heap.size ≤ gb1116)); have NB1115_1116 := uN hg BK1115; have NB1116_1115 := uM hg BK1115; replace BK1115 := ub BK1115 hb; have HI1116 := am ((⟨_, _, hbox, ax245, HR0.out⟩ : IsS82 w w8 gb1116 l0 0 0)); replace HB := am (below_step ax246 hb); clear hb hbox hg) | ((with_reducible refine gd 10 108 ?_); refine gc 10 Tryz.func108 #[.pointer (some ⟨gb1116, 0, none⟩)] (spec_l1Cur_trie.calls k gb1116 l0 0 0 t1117 t1120 t1121 w _ ax247 ax248 A2.out) ?_; rintro e w9 ⟨v1118, rfl, ho0, hi, hb, hk⟩; refine ⟨_, rfl, ?_⟩; replace BK1115 := am (KeepBut.blk hk (g' := gb1115) (o := .cells #[.slice none 0 0] 26 (0, 0)) ax249 NB1115_1116.out (by simp)); have HO1119 := am (Kd.R_lower ho0 (below_size ax248)); replace HB := am (hb); replace HI1116 := am (hi); (try clear hb hk hi ho0)) | ((with_reducible refine gate_dst (N := 5) rfl ?_); refine bx 5 #[.slice none 0 0] 26 ?_; intro gb1122 hg w10 hbox hb; replace HO1119 := uR HO1119 hb; have BK1122 := am (hbox); have GW1122 := am ((ax250 : w.heap.size ≤ gb1122)); have GE1122 := am ((ax250 : w.heap.size ≤ gb1122)); replace HB := am (below_step ax248 hb); have NB1115_1122 := uN hg BK1115; have NB1122_1115 := uM hg BK1115; replace BK1115 := ub BK1115 hb; have NB1116_1122 := am ((by rw [hg]; exact Nat.ne_of_lt (IsS82.lt (show IsS82 w _ gb1116 l0 t1120 t1121 from by repeat (first | (with_reducible first | exact HI1116.out | apply IsS82.alloc | apply IsS82.drewN | apply IsS82.drew | apply IsS82.set_1 | apply IsS82.set_2 | refine IsS82.far ?_ NB1116_1115.out _) | exact HI1116.out))) : gb1116 ≠ gb1122)); have NB1122_1116 := am ((by rw [hg]; exact Nat.ne_of_gt (IsS82.lt (show IsS82 w _ gb1116 l0 t1120 t1121 from by repeat (first | (with_reducible first | exact HI1116.out | apply IsS82.alloc | apply IsS82.drewN | apply IsS82.drew | apply IsS82.set_1 | apply IsS82.set_2 | refine IsS82.far ?_ NB1116_1115.out _) | exact HI1116.out))) : gb1122 ≠ gb1116)); replace HI1116 := am (IsS82.below ax247 hb); clear hb hbox hg; obtain ⟨Ao11, co11, eo11⟩ := Kd.R_slice HO1119.out; subst eo11; have hnb12 := NB1122_1115.out; have hnc12 := NB1115_1122.out; have hnb13 := NB1122_1116.out; have hnc13 := NB1116_1122.out; have hcz14_0 := bc (.slice none 0 0) BK1122 0; have hfz14_0 := blk_frozen BK1122.out 0))
 have n0_ : Aside0 (Kd.R k74 74 (w10.setCell ⟨gb1122, 0, none⟩ (.slice Ao11 t1117.length co11)) w.heap.size (fun _ => True) (.slice Ao11 t1117.length co11) t1117) := ⟨(by (with_reducible repeat (first | apply Kd.R_alloc | apply Kd.R_drewN | apply Kd.R_drew)); exact Kd.R_mono (Kd.R_far (p := ⟨gb1122, 0, none⟩) (Kd.R_types HO1119.out BK1122.out (by decide)) (fun _ hk => hk.2) (.slice Ao11 t1117.length co11)) (fun _ hk => trivial))⟩; have n1_ : Aside0 ((w10.setCell ⟨gb1122, 0, none⟩ (.slice Ao11 t1117.length co11)).heap[gb1115]? = some (.cells #[.slice none 0 0] 26 (0, 0))) := ⟨(by (with_reducible repeat (first | refine blk_drewN ?_ _ | refine blk_drew ?_ | refine blk_alloc ?_ _)); refine blk_far ?_ NB1115_1122.out _; (with_reducible repeat (first | refine blk_drewN ?_ _ | refine blk_drew ?_ | refine blk_alloc ?_ _)); exact BK1115.out)⟩; have n2_ : Aside0 ((w10.setCell ⟨gb1122, 0, none⟩ (.slice Ao11 t1117.length co11)).heap[gb1122]? = some (.cells #[.slice Ao11 t1117.length co11] 26 (0, 0))) := ⟨(by (with_reducible repeat (first | refine blk_drewN ?_ _ | refine blk_drew ?_ | refine blk_alloc ?_ _)); refine blk_put (cs := #[.slice none 0 0]) ?_ 0 _ rfl; (with_reducible repeat (first | refine blk_drewN ?_ _ | refine blk_drew ?_ | refine blk_alloc ?_ _)); exact BK1122.out)⟩; have n3_ : Aside0 (IsS82 w (w10.setCell ⟨gb1122, 0, none⟩ (.slice Ao11 t1117.length co11)) gb1116 l0 t1120 t1121) := ⟨ax251⟩; have n4_ : Aside0 (Below w.heap.size w (w10.setCell ⟨gb1122, 0, none⟩ (.slice Ao11 t1117.length co11))) := ⟨ax252⟩; (try clear HO1119); (try clear BK1115); (try clear BK1122); (try clear HI1116); (try clear HB); generalize (w10.setCell ⟨gb1122, 0, none⟩ (.slice Ao11 t1117.length co11)) = w15 at n0_ n1_ n2_ n3_ n4_ ⊢; have HO1119 := n0_; have BK1115 := n1_; have BK1122 := n2_; have HI1116 := n3_; have HB := n4_; clear n0_ n1_ n2_ n3_ n4_; replace HO1119 := am (Kd.R_drew HO1119.out); replace BK1115 := am (blk_drew BK1115.out); replace BK1122 := am (blk_drew BK1122.out); replace HI1116 := am (IsS82.drew HI1116.out); replace HB := am (below_drew1 HB.out); refine start_ (n := 17) (S := fun w' => w'.cell? ⟨gb1122, 0, none⟩ = some (.slice Ao11 t1117.length co11)) (ds := []) (ob 17 0) (by kernel_rfl) rfl rfl ((blk_cell BK1122.out 0).trans rfl) (fun hHeld => ?_); refine with_tabW spec_DrawPrefixOf.tab3 spec_DrawPrefixOf.bits3 (fun HT_ HW_ => ?_); generalize w15.drew = w16 at HO1119 BK1115 BK1122 HI1116 HB hHeld ⊢; refine pu 1 12 ?_; refine pu 2 13 ?_; refine pu 7 18 ?_; refine pu 11 22 ?_; refine take_ (i := 0) (N := some 11) (v := ?_) (a' := ?_) (ob 17 2183) rfl rfl (take_ofW HT_.out HW_.out (by kernel_rfl)) (fun _ _ _ h => h) (Or.inl ⟨by rfl, ?_⟩) hHeld ?_ ?_
 rotate_left
 ·exact ax14
 rotate_left
 ·exact ax15
 refine take_ (i := 3) (N := some 14) (v := ?_) (a' := ?_) (ob 17 2191) rfl rfl (take_ofW HT_.out HW_.out (by kernel_rfl)) (fun _ _ _ h => h) (Or.inl ⟨by rfl, ?_⟩) hHeld ?_ ?_; rotate_left; exact ax14; rotate_left; exact ax15
 refine pu 4 15 ?_; refine one_ (i := 5) (N := some 16) (ob 17 2239) rfl rfl (one_of HT_.out (by kernel_rfl)) (by decide) (fun K hK => ?_); refine goes_ Tryz.func134 (by kernel_rfl) rfl #[.int .i64 1, .int .i64 (t1117.length : Int)] (by rfl) rfl rfl ax42 ?_
 with_reducible refine (spec_l1Most.calls 1 (t1117.length : Int) t1123 _ A3.out).mono ?_
 rintro e w' ⟨rfl, ⟨nd, rfl⟩⟩; refine ⟨_, rfl, ?_⟩; refine hK.out _ _ ((blk_cell BK1122.out 0).trans rfl) (fun hHeld => ?_); clear hK K; refine nm 16 ?_; refine one_ (i := 6) (N := some 17) (ob 17 2303) rfl rfl (one_of HT_.out (by kernel_rfl)) (by decide) (fun K hK => ?_); refine goes_ Tryz.func127 (by kernel_rfl) rfl #[.pointer (some ⟨gb1116, 0, none⟩), .int .i64 t1123] (by rfl) rfl rfl ax42 ?_
 with_reducible refine (spec_l1Cur_pick.calls gb1116 l0 t1120 t1121 t1123 t1124 t1125 t1126 w _ ?side1 ?side2 A4.out).mono ?_
 (case side1 => exact ax251)
 (case side2 => exact ax252)
 rintro e w17 ⟨rfl, hi, hb, hk⟩; refine ⟨_, rfl, ?_⟩; replace BK1115 := am (KeepBut.blk hk (g' := gb1115) (o := .cells #[.slice none 0 0] 26 (0, 0)) ax249 NB1115_1116.out (by simp)); replace HO1119 := am (Kd.R_mono (Kd.R_keep (IsS82.apart (show IsS82 w _ gb1116 l0 t1120 t1121 from by repeat (first | (with_reducible first | exact HI1116.out | apply IsS82.alloc | apply IsS82.drewN | apply IsS82.drew | apply IsS82.set_1 | apply IsS82.set_2 | refine IsS82.far ?_ NB1116_1115.out _ | refine IsS82.far ?_ NB1116_1122.out _) | exact HI1116.out)) ax253 (by decide)) hk (fun _ h => h.2)) (fun _ h => h.1)); replace BK1122 := am (KeepBut.blk hk (g' := gb1122) (o := .cells #[.slice Ao11 t1117.length co11] 26 (0, 0)) ax254 NB1122_1116.out (by simp)); replace HB := am (hb); replace HI1116 := am (hi); (try clear hb); (try clear hb2); (try clear hk); (try clear hi); refine hK.out _ _ ((blk_cell BK1122.out 0).trans rfl) (fun hHeld => ?_); clear hK K; refine nm 17 ?_; refine one_ (i := 8) (N := some 19) (ob 17 2559) rfl rfl (one_of HT_.out (by kernel_rfl)) (by decide) (fun K hK => ?_); refine goes_ Tryz.func127 (by kernel_rfl) rfl #[.pointer (some ⟨gb1116, 0, none⟩), .int .i64 24] (by rfl) rfl rfl ax42 ?_
 with_reducible refine (spec_l1Cur_pick.calls gb1116 l0 t1125 t1126 24 t1127 t1128 t1129 w _ ?side1 ?side2 A5.out).mono ?_
 (case side1 => exact ax251)
 (case side2 => exact ax252)
 rintro e w18 ⟨rfl, hi, hb, hk⟩; refine ⟨_, rfl, ?_⟩; replace BK1115 := am (KeepBut.blk hk (g' := gb1115) (o := .cells #[.slice none 0 0] 26 (0, 0)) ax249 NB1115_1116.out (by simp)); replace HO1119 := am (Kd.R_mono (Kd.R_keep (IsS82.apart (show IsS82 w _ gb1116 l0 t1125 t1126 from by repeat (first | (with_reducible first | exact HI1116.out | apply IsS82.alloc | apply IsS82.drewN | apply IsS82.drew | apply IsS82.set_1 | apply IsS82.set_2 | refine IsS82.far ?_ NB1116_1115.out _ | refine IsS82.far ?_ NB1116_1122.out _) | exact HI1116.out)) ax253 (by decide)) hk (fun _ h => h.2)) (fun _ h => h.1)); replace BK1122 := am (KeepBut.blk hk (g' := gb1122) (o := .cells #[.slice Ao11 t1117.length co11] 26 (0, 0)) ax254 NB1122_1116.out (by simp)); replace HB := am (hb); replace HI1116 := am (hi); (try clear hb); (try clear hb2); (try clear hk); (try clear hi); refine hK.out _ _ ((blk_cell BK1122.out 0).trans rfl) (fun hHeld => ?_); clear hK K; refine nm 19 ?_; refine pu 9 20 ?_; refine pu 10 21 ?_; refine one_ (i := 12) (N := some 23) (ob 17 8191) rfl rfl (one_of HT_.out (by kernel_rfl)) (by decide) (fun K hK => ?_); refine goes_ Tryz.func127 (by kernel_rfl) rfl #[.pointer (some ⟨gb1116, 0, none⟩), .int .i64 24] (by rfl) rfl rfl ax42 ?_
 with_reducible refine (spec_l1Cur_pick.calls gb1116 l0 t1128 t1129 24 t1130 t1131 t1132 w _ ?side1 ?side2 A6.out).mono ?_
 (case side1 => exact ax251)
 (case side2 => exact ax252)
 rintro e w19 ⟨rfl, hi, hb, hk⟩; refine ⟨_, rfl, ?_⟩; replace BK1115 := am (KeepBut.blk hk (g' := gb1115) (o := .cells #[.slice none 0 0] 26 (0, 0)) ax249 NB1115_1116.out (by simp)); replace HO1119 := am (Kd.R_mono (Kd.R_keep (IsS82.apart (show IsS82 w _ gb1116 l0 t1128 t1129 from by repeat (first | (with_reducible first | exact HI1116.out | apply IsS82.alloc | apply IsS82.drewN | apply IsS82.drew | apply IsS82.set_1 | apply IsS82.set_2 | refine IsS82.far ?_ NB1116_1115.out _ | refine IsS82.far ?_ NB1116_1122.out _) | exact HI1116.out)) ax253 (by decide)) hk (fun _ h => h.2)) (fun _ h => h.1)); replace BK1122 := am (KeepBut.blk hk (g' := gb1122) (o := .cells #[.slice Ao11 t1117.length co11] 26 (0, 0)) ax254 NB1122_1116.out (by simp)); replace HB := am (hb); replace HI1116 := am (hi); (try clear hb); (try clear hb2); (try clear hk); (try clear hi); refine hK.out _ _ ((blk_cell BK1122.out 0).trans rfl) (fun hHeld => ?_); clear hK K; refine nm 23 ?_; refine pu 13 24 ?_; refine pu 14 25 ?_; refine one_ (i := 15) (N := none) (ob 17 65535) rfl rfl (one_of HT_.out (by kernel_rfl)) (by decide) (fun K hK => ?_); have hs20 : w19.cell? ⟨gb1115, 0, none⟩ = some (.slice none 0 0) := (blk_cell BK1115.out 0).trans rfl; have hfs20 := blk_frozen BK1115.out 0; have hns20_1 := NB1122_1115.out; have hms20_1 := NB1115_1122.out; refine skip_ (w1 := ?_) (by rfl) rfl ?_ ?_
 rotate_left
 ·go_simp
  rfl
 refine hK.out _ _ (((cell_far (p := ⟨gb1115, _, none⟩) NB1122_1115.out _).trans (hHeld))) (fun hHeld => ?_); clear hK K; refine pu 16 3 ?_; refine dn ?_
 try go_wp2
 refine bodyPost_ret (results_ct rfl _ _ gb1115 26 #[.slice Ao11 t1117.length co11] (0, 0) _ rfl (by (with_reducible repeat (first | refine blk_drewN ?_ _ | refine blk_drew ?_ | refine blk_alloc ?_ _)); refine blk_put (cs := #[.slice none 0 0]) ?_ 0 _ rfl; (with_reducible repeat (first | refine blk_drewN ?_ _ | refine blk_drew ?_ | refine blk_alloc ?_ _)); exact BK1115.out) Tryz.underlying26 rfl (by kernel_rfl)) rfl ?_
 exact ⟨_, ax27, (by (with_reducible repeat (first | apply Kd.R_alloc | apply Kd.R_drewN | apply Kd.R_drew)); exact Kd.R_mono (Kd.R_far (p := ⟨gb1115, 0, none⟩) (Kd.R_types HO1119.out BK1115.out (by decide)) (fun _ hk => hk.2) (.slice Ao11 t1117.length co11)) (fun _ hk => trivial)), ax252⟩

/-! ### spec_DrawKidsOf: function 69 -/
def spec_DrawKidsOf.f (k : Nat) (l0 : List Int) : Option ((List (S74)) × Int) := (spec_DrawPrefixOf.f k l0).bind fun bt1134 => (some (bt1134.1, bt1134.2))
set_option maxHeartbeats 8000000 in
set_option maxRecDepth 100000 in
theorem spec_DrawKidsOf.calls (k : Nat) (A0 : Option Addr) (c0 : Nat) (l0 : List Int) (r1 : List (S74)) (r2 : Int) (w : World) (hr0 : Kd.C (Kd.int .u8) w A0 l0.length l0) (hc0 : l0.length ≤ c0) (h : spec_DrawKidsOf.f k l0 = some (r1, r2)) :
  Calls Tryz.prog 69 #[.slice A0 l0.length c0] w fun e w' => ∃ v0_ : Value, e = .returned (.tuple #[.agg #[v0_], .int .i64 r2]) ∧ Kd.R k74 74 w' w.heap.size (fun _ => True) v0_ r1 ∧ Below w.heap.size w w' := by
 have hu26 := Tryz.underlying26; have HR0 := am hr0; have HC0 := am hc0; clear hr0 hc0; have HB := am (Below.refl w.heap.size w)
 unfold spec_DrawKidsOf.f at h
 have H := h; clear h; obtain ⟨⟨t1134, t1137⟩, A2, H⟩ := bs H; simp only [Option.some.injEq, Prod.mk.injEq] at H; obtain ⟨rfl, rfl⟩ := H
 go_enter Tryz.func69, Tryz.ntmps69
 go_wp2_with (first | ((with_reducible refine gate_dst (N := 2) rfl ?_); refine bx 2 #[.slice none 0 0] 26 ?_; intro gb1133 hg w3 hbox hb; have BK1133 := am (hbox); have GW1133 := uG hg HB; have GE1133 := uG hg HB; replace HB := uB HB hb; clear hb hbox hg) | ((with_reducible refine gd 5 159 ?_); refine gc 5 Tryz.func159 #[.slice A0 l0.length c0] (spec_DrawPrefixOf.calls k _ _ l0 t1134 t1137 _ ax35 (HC0.out) A2.out) ?_; rintro e w4 ⟨v1135, rfl, ho0, hb⟩; refine ⟨_, rfl, ?_⟩; have HO1136 := am (Kd.R_lower ho0 (below_size ax255)); replace BK1133 := ub BK1133 hb; replace HB := am (below_step ax255 hb); (try clear hb ho0); obtain ⟨Ao5, co5, eo5⟩ := Kd.R_slice HO1136.out; subst eo5; have hcz6_0 := bc (.slice none 0 0) BK1133 0; have hfz6_0 := blk_frozen BK1133.out 0))
 refine bodyPost_ret (results_ct rfl _ _ gb1133 26 #[.slice Ao5 t1134.length co5] (0, 0) _ rfl (by (with_reducible repeat (first | refine blk_drewN ?_ _ | refine blk_drew ?_ | refine blk_alloc ?_ _)); refine blk_put (cs := #[.slice none 0 0]) ?_ 0 _ rfl; (with_reducible repeat (first | refine blk_drewN ?_ _ | refine blk_drew ?_ | refine blk_alloc ?_ _)); exact BK1133.out) Tryz.underlying26 rfl (by kernel_rfl)) rfl ?_
 exact ⟨_, ax27, (by (with_reducible repeat (first | apply Kd.R_alloc | apply Kd.R_drewN | apply Kd.R_drew)); exact Kd.R_mono (Kd.R_far (p := ⟨gb1133, 0, none⟩) (Kd.R_types HO1136.out BK1133.out (by decide)) (fun _ hk => hk.2) (.slice Ao5 t1134.length co5)) (fun _ hk => trivial)), ax255⟩

/-! ### impl_isNode: function 160 -/
def impl_isNode.f (k : Nat) (l0_0 : List (S74)) (a1 : Int) : Option (Bool) := (impl_in.f a1 0 (wrap64 ((l0_0.length : Int) - 1))).bind fun t1139 => (if t1139 = true then ((impl_isTrie.f k l0_0).bind fun t1140 => (some t1140)) else (some false))
set_option maxHeartbeats 8000000 in
set_option maxRecDepth 100000 in
theorem impl_isNode.calls (k : Nat) (A0_0 : Option Addr) (c0_0 : Nat) (l0_0 : List (S74)) (a1 : Int) (r : Bool) (w : World) (hr0_0 : Kd.C k74 w A0_0 l0_0.length l0_0) (hc0_0 : l0_0.length ≤ c0_0) (h : impl_isNode.f k l0_0 a1 = some r) :
  Calls Tryz.prog 160 #[.agg #[.slice A0_0 l0_0.length c0_0], .int .i64 a1] w fun e w' => e = .returned (.bool r) ∧ Below w.heap.size w w' := by
 have hu26 := Tryz.underlying26; have HR0_0 := am hr0_0; have HC0_0 := am hc0_0; clear hr0_0 hc0_0; have HB := am (Below.refl w.heap.size w)
 unfold impl_isNode.f at h
 have H := h; clear h; obtain ⟨t1139, A3, H⟩ := bs H
 by_cases c4 : t1139 = true
 ·subst c4
  rw [if_pos rfl] at H; obtain ⟨t1140, A5, H⟩ := bs H; obtain rfl := Option.some.inj H
  go_enter Tryz.func160, Tryz.ntmps160
  go_wp2_with (first | ((with_reducible refine gate_dst (N := 2) rfl ?_); refine bx 2 #[.slice A0_0 l0_0.length c0_0] 26 ?_; intro gb1138 hg w6 hbox hb; have BK1138 := am (hbox); have GW1138 := uG hg HB; have GE1138 := uG hg HB; replace HB := uB HB hb; clear hb hbox hg; have hcz7_0 := bc (.slice A0_0 l0_0.length c0_0) BK1138 0; have hfz7_0 := blk_frozen BK1138.out 0) | ((with_reducible refine gd 10 129 ?_); refine gc 10 Tryz.func129 #[.int .i64 a1, .int .i64 0, .int .i64 (wrap64 ((l0_0.length : Int) - 1))] (impl_in.calls a1 0 (wrap64 ((l0_0.length : Int) - 1)) true _ A3.out) ?_; rintro e w' ⟨rfl, ⟨nd, rfl⟩⟩; refine ⟨_, rfl, ?_⟩) | (go_at_call 124; (with_reducible refine (impl_isTrie.calls k _ _ l0_0 t1140 _ ?side1 ?side2 A5.out).mono ?_); (case side1 => repeat (first | exact (Kd.C_below HR0_0.out ax256) | (with_reducible refine Kd.C_alloc ?_ _) | (with_reducible refine Kd.C_drewN ?_ _) | (with_reducible refine Kd.C_drew ?_))); (case side2 => exact ax158); rintro e w8 ⟨rfl, hb⟩; replace BK1138 := ub BK1138 hb; replace HB := am (below_step ax256 hb); (try clear hb)))
  go_ret
  exact ⟨ax27, ax256⟩
 ·replace c4 := Bool.eq_false_iff.mpr c4
  subst c4; rw [if_neg (show ¬ (false = true) by decide)] at H; obtain rfl := Option.some.inj H
  go_enter Tryz.func160, Tryz.ntmps160
  go_wp2_with (first | ((with_reducible refine gate_dst (N := 2) rfl ?_); refine bx 2 #[.slice A0_0 l0_0.length c0_0] 26 ?_; intro gb1138 hg w9 hbox hb; have BK1138 := am (hbox); have GW1138 := uG hg HB; have GE1138 := uG hg HB; replace HB := uB HB hb; clear hb hbox hg; have hcz10_0 := bc (.slice A0_0 l0_0.length c0_0) BK1138 0; have hfz10_0 := blk_frozen BK1138.out 0) | ((with_reducible refine gd 10 129 ?_); refine gc 10 Tryz.func129 #[.int .i64 a1, .int .i64 0, .int .i64 (wrap64 ((l0_0.length : Int) - 1))] (impl_in.calls a1 0 (wrap64 ((l0_0.length : Int) - 1)) false _ A3.out) ?_; rintro e w' ⟨rfl, ⟨nd, rfl⟩⟩; refine ⟨_, rfl, ?_⟩))
  go_ret
  exact ⟨ax27, ax256⟩

/-! ### impl_KidsOf: function 70 -/
def impl_KidsOf.f (k : Nat) (l0_0 : List (S74)) (a1 : Int) : Option (List Int × Bool) := (impl_isNode.f k l0_0 a1).bind fun t1142 => (if t1142 = true then ((impl_Trie_kids.f k l0_0 a1).bind fun t1143 => (some (t1143, true))) else (some (([] : List Int), false)))
set_option maxHeartbeats 8000000 in
set_option maxRecDepth 100000 in
theorem impl_KidsOf.calls (k : Nat) (A0_0 : Option Addr) (c0_0 : Nat) (l0_0 : List (S74)) (a1 : Int) (r1 : List Int) (r2 : Bool) (w : World) (hr0_0 : Kd.C k74 w A0_0 l0_0.length l0_0) (hc0_0 : l0_0.length ≤ c0_0) (h : impl_KidsOf.f k l0_0 a1 = some (r1, r2)) :
  Calls Tryz.prog 70 #[.agg #[.slice A0_0 l0_0.length c0_0], .int .i64 a1] w fun e w' => ∃ v0_ : Value, e = .returned (.tuple #[v0_, .bool r2]) ∧ Kd.R (Kd.int .i64) 3 w' w.heap.size (fun _ => True) v0_ r1 ∧ Below w.heap.size w w' := by
 have hu26 := Tryz.underlying26; have HR0_0 := am hr0_0; have HC0_0 := am hc0_0; clear hr0_0 hc0_0; have HB := am (Below.refl w.heap.size w)
 unfold impl_KidsOf.f at h
 have H := h; clear h; obtain ⟨t1142, A3, H⟩ := bs H
 by_cases c4 : t1142 = true
 ·subst c4
  rw [if_pos rfl] at H; obtain ⟨t1143, A5, H⟩ := bs H; simp only [Option.some.injEq, Prod.mk.injEq] at H; obtain ⟨rfl, rfl⟩ := H
  go_enter Tryz.func70, Tryz.ntmps70
  go_wp2_with (first | ((with_reducible refine gate_dst (N := 2) rfl ?_); refine bx 2 #[.slice A0_0 l0_0.length c0_0] 26 ?_; intro gb1141 hg w6 hbox hb; have BK1141 := am (hbox); have GW1141 := uG hg HB; have GE1141 := uG hg HB; replace HB := uB HB hb; clear hb hbox hg; have hcz7_0 := bc (.slice A0_0 l0_0.length c0_0) BK1141 0; have hfz7_0 := blk_frozen BK1141.out 0) | ((with_reducible refine gd 8 160 ?_); refine gc 8 Tryz.func160 #[.agg #[.slice A0_0 l0_0.length c0_0], .int .i64 a1] (impl_isNode.calls k _ _ l0_0 a1 true _ ax145 (HC0_0.out) A3.out) ?_; rintro e w8 ⟨rfl, hb⟩; refine ⟨_, rfl, ?_⟩; replace BK1141 := ub BK1141 hb; replace HB := am (below_step ax257 hb); (try clear hb); have hcz9_0 := bc (.slice A0_0 l0_0.length c0_0) BK1141 0; have hfz9_0 := blk_frozen BK1141.out 0) | ((with_reducible refine gd 12 161 ?_); refine gc 12 Tryz.func161 #[.agg #[.slice A0_0 l0_0.length c0_0], .int .i64 a1] (impl_Trie_kids.calls k _ _ l0_0 a1 t1143 _ ax145 (HC0_0.out) A5.out) ?_; rintro e w10 ⟨v1144, rfl, ho0, hb⟩; refine ⟨_, rfl, ?_⟩; have HO1145 := am (Kd.R_lower ho0 (below_size ax257)); replace BK1141 := ub BK1141 hb; replace HB := am (below_step ax257 hb); (try clear hb ho0)))
  go_ret2
  exact ⟨_, ax27, (by (with_reducible repeat (first | apply Kd.R_alloc | apply Kd.R_drewN | apply Kd.R_drew)); exact HO1145.out), ax257⟩
 ·replace c4 := Bool.eq_false_iff.mpr c4
  subst c4; rw [if_neg (show ¬ (false = true) by decide)] at H; simp only [Option.some.injEq, Prod.mk.injEq] at H; obtain ⟨rfl, rfl⟩ := H
  go_enter Tryz.func70, Tryz.ntmps70
  go_wp2_with (first | ((with_reducible refine gate_dst (N := 2) rfl ?_); refine bx 2 #[.slice A0_0 l0_0.length c0_0] 26 ?_; intro gb1141 hg w11 hbox hb; have BK1141 := am (hbox); have GW1141 := uG hg HB; have GE1141 := uG hg HB; replace HB := uB HB hb; clear hb hbox hg; have hcz12_0 := bc (.slice A0_0 l0_0.length c0_0) BK1141 0; have hfz12_0 := blk_frozen BK1141.out 0) | ((with_reducible refine gd 8 160 ?_); refine gc 8 Tryz.func160 #[.agg #[.slice A0_0 l0_0.length c0_0], .int .i64 a1] (impl_isNode.calls k _ _ l0_0 a1 false _ ax145 (HC0_0.out) A3.out) ?_; rintro e w13 ⟨rfl, hb⟩; refine ⟨_, rfl, ?_⟩; replace BK1141 := ub BK1141 hb; replace HB := am (below_step ax257 hb); (try clear hb)))
  go_ret2
  exact ⟨_, ax27, ax135, ax257⟩

/-! ### spec_l2Good: function 162 -/
def spec_l2Good.f (k : Nat) (l0_0 : List (S74)) (a1 : Int) : Option (Bool) := (spec_l2Trie.f k l0_0).bind fun t1147 => (if t1147 = true then ((spec_l1In.f a1 0 (wrap64 ((l0_0.length : Int) - 1))).bind fun t1148 => (some t1148)) else (some false))
set_option maxHeartbeats 8000000 in
set_option maxRecDepth 100000 in
theorem spec_l2Good.calls (k : Nat) (A0_0 : Option Addr) (c0_0 : Nat) (l0_0 : List (S74)) (a1 : Int) (r : Bool) (w : World) (hr0_0 : Kd.C k74 w A0_0 l0_0.length l0_0) (hc0_0 : l0_0.length ≤ c0_0) (h : spec_l2Good.f k l0_0 a1 = some r) :
  Calls Tryz.prog 162 #[.agg #[.slice A0_0 l0_0.length c0_0], .int .i64 a1] w fun e w' => e = .returned (.bool r) ∧ Below w.heap.size w w' := by
 have hu26 := Tryz.underlying26; have HR0_0 := am hr0_0; have HC0_0 := am hc0_0; clear hr0_0 hc0_0; have HB := am (Below.refl w.heap.size w)
 unfold spec_l2Good.f at h
 have H := h; clear h; obtain ⟨t1147, A3, H⟩ := bs H
 by_cases c4 : t1147 = true
 ·subst c4
  rw [if_pos rfl] at H; obtain ⟨t1148, A5, H⟩ := bs H; obtain rfl := Option.some.inj H
  go_enter Tryz.func162, Tryz.ntmps162
  go_wp2_with (first | ((with_reducible refine gate_dst (N := 2) rfl ?_); (try (refine gate_guard (by rfl) ?_; dsimp only)); refine bx 2 #[.slice A0_0 l0_0.length c0_0] 26 ?_; intro gb1146 hg w6 hbox hb; have BK1146 := am (hbox); have GW1146 := uG hg HB; have GE1146 := uG hg HB; replace HB := uB HB hb; clear hb hbox hg; have hcz7_0 := bc (.slice A0_0 l0_0.length c0_0) BK1146 0; have hfz7_0 := blk_frozen BK1146.out 0) | ((with_reducible refine gd 6 113 ?_); refine gc 6 Tryz.func113 #[.agg #[.slice A0_0 l0_0.length c0_0]] (spec_l2Trie.calls k _ _ l0_0 true _ ax145 (HC0_0.out) A3.out) ?_; rintro e w8 ⟨rfl, hb⟩; refine ⟨_, rfl, ?_⟩; replace BK1146 := ub BK1146 hb; replace HB := am (below_step ax258 hb); (try clear hb); have hcz9_0 := bc (.slice A0_0 l0_0.length c0_0) BK1146 0; have hfz9_0 := blk_frozen BK1146.out 0) | (go_at_call 132; (with_reducible refine (spec_l1In.calls a1 0 (wrap64 ((l0_0.length : Int) - 1)) t1148 _ A5.out).mono ?_); rintro e w' ⟨rfl, ⟨nd, rfl⟩⟩))
  go_ret
  exact ⟨ax27, ax258⟩
 ·replace c4 := Bool.eq_false_iff.mpr c4
  subst c4; rw [if_neg (show ¬ (false = true) by decide)] at H; obtain rfl := Option.some.inj H
  go_enter Tryz.func162, Tryz.ntmps162
  go_wp2_with (first | ((with_reducible refine gate_dst (N := 2) rfl ?_); (try (refine gate_guard (by rfl) ?_; dsimp only)); refine bx 2 #[.slice A0_0 l0_0.length c0_0] 26 ?_; intro gb1146 hg w10 hbox hb; have BK1146 := am (hbox); have GW1146 := uG hg HB; have GE1146 := uG hg HB; replace HB := uB HB hb; clear hb hbox hg; have hcz11_0 := bc (.slice A0_0 l0_0.length c0_0) BK1146 0; have hfz11_0 := blk_frozen BK1146.out 0) | ((with_reducible refine gd 6 113 ?_); refine gc 6 Tryz.func113 #[.agg #[.slice A0_0 l0_0.length c0_0]] (spec_l2Trie.calls k _ _ l0_0 false _ ax145 (HC0_0.out) A3.out) ?_; rintro e w12 ⟨rfl, hb⟩; refine ⟨_, rfl, ?_⟩; replace BK1146 := ub BK1146 hb; replace HB := am (below_step ax258 hb); (try clear hb)))
  go_ret
  exact ⟨ax27, ax258⟩

/-! ### spec_KidsOf: function 71 -/
def spec_KidsOf.f (k : Nat) (l0_0 : List (S74)) (a1 : Int) : Option (List Int × Bool) := (spec_l2Good.f k l0_0 a1).bind fun t1150 => (if t1150 = true then ((spec_l2Kids.f k l0_0 a1).bind fun t1151 => (some (t1151, true))) else (some ((([] : List Int)), false)))
set_option maxHeartbeats 8000000 in
set_option maxRecDepth 100000 in
theorem spec_KidsOf.calls (k : Nat) (A0_0 : Option Addr) (c0_0 : Nat) (l0_0 : List (S74)) (a1 : Int) (r1 : List Int) (r2 : Bool) (w : World) (hr0_0 : Kd.C k74 w A0_0 l0_0.length l0_0) (hc0_0 : l0_0.length ≤ c0_0) (h : spec_KidsOf.f k l0_0 a1 = some (r1, r2)) :
  Calls Tryz.prog 71 #[.agg #[.slice A0_0 l0_0.length c0_0], .int .i64 a1] w fun e w' => ∃ v0_ : Value, e = .returned (.tuple #[v0_, .bool r2]) ∧ Kd.R (Kd.int .i64) 3 w' w.heap.size (fun _ => True) v0_ r1 ∧ Below w.heap.size w w' := by
 have hu26 := Tryz.underlying26; have HR0_0 := am hr0_0; have HC0_0 := am hc0_0; clear hr0_0 hc0_0; have HB := am (Below.refl w.heap.size w)
 unfold spec_KidsOf.f at h
 have H := h; clear h; obtain ⟨t1150, A3, H⟩ := bs H
 by_cases c4 : t1150 = true
 ·subst c4
  rw [if_pos rfl] at H; obtain ⟨t1151, A5, H⟩ := bs H; simp only [Option.some.injEq, Prod.mk.injEq] at H; obtain ⟨rfl, rfl⟩ := H
  go_enter Tryz.func71, Tryz.ntmps71
  go_wp2_with (first | ((with_reducible refine gate_dst (N := 2) rfl ?_); refine bx 2 #[.slice A0_0 l0_0.length c0_0] 26 ?_; intro gb1149 hg w6 hbox hb; have BK1149 := am (hbox); have GW1149 := uG hg HB; have GE1149 := uG hg HB; replace HB := uB HB hb; clear hb hbox hg; have hcz7_0 := bc (.slice A0_0 l0_0.length c0_0) BK1149 0; have hfz7_0 := blk_frozen BK1149.out 0) | ((with_reducible refine gd 8 162 ?_); refine gc 8 Tryz.func162 #[.agg #[.slice A0_0 l0_0.length c0_0], .int .i64 a1] (spec_l2Good.calls k _ _ l0_0 a1 true _ ax145 (HC0_0.out) A3.out) ?_; rintro e w8 ⟨rfl, hb⟩; refine ⟨_, rfl, ?_⟩; replace BK1149 := ub BK1149 hb; replace HB := am (below_step ax259 hb); (try clear hb); have hcz9_0 := bc (.slice A0_0 l0_0.length c0_0) BK1149 0; have hfz9_0 := blk_frozen BK1149.out 0) | ((with_reducible refine gd 13 163 ?_); refine gc 13 Tryz.func163 #[.agg #[.slice A0_0 l0_0.length c0_0], .int .i64 a1] (spec_l2Kids.calls k _ _ l0_0 a1 t1151 _ ax145 (HC0_0.out) A5.out) ?_; rintro e w10 ⟨v1152, rfl, ho0, hb⟩; refine ⟨_, rfl, ?_⟩; have HO1153 := am (Kd.R_lower ho0 (below_size ax259)); replace BK1149 := ub BK1149 hb; replace HB := am (below_step ax259 hb); (try clear hb ho0)))
  go_ret2
  exact ⟨_, ax27, (by (with_reducible repeat (first | apply Kd.R_alloc | apply Kd.R_drewN | apply Kd.R_drew)); exact HO1153.out), ax259⟩
 ·replace c4 := Bool.eq_false_iff.mpr c4
  subst c4; rw [if_neg (show ¬ (false = true) by decide)] at H; obtain ⟨y1154, hy1154⟩ : ∃ y_ : List Int, y_ = (([] : List Int)) := ⟨_, rfl⟩
  replace H : (some (y1154, false)) = some (r1, r2) := by first | (rw [hy1154]; with_reducible exact H) | (have H2_ := (Option.bind_some _ _).symm.trans H; rw [hy1154]; with_reducible exact H2_) | (have H2_ := (Option.bind_some _ _).symm.trans H; with_reducible exact H2_) | with_reducible exact H | (rw [hy1154]; exact H) | exact H
  have Ny1154 := am hy1154; clear hy1154; simp only [Option.some.injEq, Prod.mk.injEq] at H; obtain ⟨rfl, rfl⟩ := H
  go_enter Tryz.func71, Tryz.ntmps71
  go_wp2_with (first | ((with_reducible refine gate_dst (N := 2) rfl ?_); refine bx 2 #[.slice A0_0 l0_0.length c0_0] 26 ?_; intro gb1149 hg w11 hbox hb; have BK1149 := am (hbox); have GW1149 := uG hg HB; have GE1149 := uG hg HB; replace HB := uB HB hb; clear hb hbox hg; have hcz12_0 := bc (.slice A0_0 l0_0.length c0_0) BK1149 0; have hfz12_0 := blk_frozen BK1149.out 0) | ((with_reducible refine gd 8 162 ?_); refine gc 8 Tryz.func162 #[.agg #[.slice A0_0 l0_0.length c0_0], .int .i64 a1] (spec_l2Good.calls k _ _ l0_0 a1 false _ ax145 (HC0_0.out) A3.out) ?_; rintro e w13 ⟨rfl, hb⟩; refine ⟨_, rfl, ?_⟩; replace BK1149 := ub BK1149 hb; replace HB := am (below_step ax259 hb); (try clear hb)) | ((with_reducible refine gate_dst (N := 10) rfl ?_); refine Kd.R_lit (Kd.int .i64) _ 3 ?hg (N := 10) ?hd (xs := ([] : List Int)) (inner := []) (ok := fun _ => True) (okp := fun _ => True) ?hr ?hp (fun _ hk => hk) trivial (Below.refl _ _) (Nat.le_refl _) (by simp) ?_; (case hd => rfl); (case hg => rfl); (case hr => exact ax33); (case hp => exact ax34); intro v1155 w14 ho15 hb hg_ hnew_; clear hg_ hnew_; (first | rw [← Ny1154.out] at ho15 | (simp only [Int.reduceToNat] at ho15; rw [← Ny1154.out] at ho15)); have HO1156 := am (Kd.R_lower ho15 (below_size ax259)); replace BK1149 := ub BK1149 hb; replace HB := am (below_step ax259 hb); clear hb ho15))
  go_ret2
  exact ⟨_, ax27, (by (with_reducible repeat (first | apply Kd.R_alloc | apply Kd.R_drewN | apply Kd.R_drew)); exact HO1156.out), ax259⟩

end Go.Proofs.YtcplbbflfgckbaaGreatDoor.X


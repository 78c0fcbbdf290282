-- By gen.py (the session's own program over the kit's printer): functions of the program, each with its contract. Lean checks it.
import Derived.Test.YtcplbbflfgckbaaGreatDoorX0
namespace Go.Proofs.YtcplbbflfgckbaaGreatDoor.X
open Go.RowKit Go.Proofs.YtcplbbflfgckbaaGreatDoorW.PrintWords Go.Proofs.YtcplbbflfgckbaaGreatDoorW.PrintLast Go.Proofs.YtcplbbflfgckbaaGreatDoorW.PrintMore
attribute [local go_sem] max2_int min2_int max_two min_two max_three min_three max_four min_four   -- for this text's walks alone
set_option linter.unusedVariables false
set_option linter.unusedSimpArgs false

/-! ### impl_in: function 129 -/
def impl_in.f (a0 : Int) (a1 : Int) (a2 : Int) : Option (Bool) := if a0 ≥ a1 then (some (decide (a0 ≤ a2))) else (some false)
set_option maxHeartbeats 8000000 in
set_option maxRecDepth 100000 in
theorem impl_in.calls (a0 : Int) (a1 : Int) (a2 : Int) (r : Bool) (w : World) (h : impl_in.f a0 a1 a2 = some r) :
  Calls Tryz.prog 129 #[.int .i64 a0, .int .i64 a1, .int .i64 a2] w fun e w' => e = .returned (.bool r) ∧ Drawn0 w w' := by
 unfold impl_in.f at h
 have H := h; clear h
 by_cases c4 : a0 ≥ a1
 ·rw [if_pos c4] at H
  have c4b0 := decide_eq_true c4; clear c4; obtain rfl := Option.some.inj H
  go_enter Tryz.func129, Tryz.ntmps129
  go_wp2
  go_ret
  exact ⟨ax31, ax32⟩
 ·rw [if_neg c4] at H
  have c4b0 := decide_eq_false c4; clear c4; obtain rfl := Option.some.inj H
  go_enter Tryz.func129, Tryz.ntmps129
  go_wp2
  go_ret
  exact ⟨ax31, ax32⟩

/-! ### impl_letter: function 188 -/
def impl_letter.f (a0 : Int) : Option (ByteArray) := some (strOfNums (([(wrap64 (97 + a0)) % 256] : List Int)))
set_option maxHeartbeats 8000000 in
set_option maxRecDepth 100000 in
theorem impl_letter.calls (a0 : Int) (r : ByteArray) (w : World) (h : impl_letter.f a0 = some r) :
  Calls Tryz.prog 188 #[.int .i64 a0] w fun e w' => e = .returned (.string r) ∧ Below w.heap.size w w' := by
 have HB := am (Below.refl w.heap.size w)
 unfold impl_letter.f at h
 have H := h; clear h; obtain ⟨y394, hy394⟩ : ∃ y_ : List Int, y_ = (([(wrap64 (97 + a0)) % 256] : List Int)) := ⟨_, rfl⟩
 replace H : (some (strOfNums y394)) = some r := by first | (rw [hy394]; with_reducible exact H) | (have H2_ := (Option.bind_some _ _).symm.trans H; rw [hy394]; with_reducible exact H2_) | (have H2_ := (Option.bind_some _ _).symm.trans H; with_reducible exact H2_) | with_reducible exact H | (rw [hy394]; exact H) | exact H
 have Ny394 := am hy394; clear hy394; obtain rfl := Option.some.inj H
 go_enter Tryz.func188, Tryz.ntmps188
 go_wp2_with (first | ((with_reducible refine gate_dst (N := 6) rfl ?_); refine Kd.R_lit (Kd.int .u8) _ 5 ?hg (N := 6) ?hd (xs := ([(wrap64 (97 + a0)) % 256] : List Int)) (inner := [.int .u8 ((wrap64 (97 + a0)) % 256)]) (ok := fun _ => True) (okp := fun _ => True) ?hr ?hp (fun _ hk => hk) trivial (Below.refl _ _) (Nat.le_refl _) (by simp) ?_; (case hd => rfl); (case hg => rfl); (case hr => exact ax33); (case hp => exact (Reps.one (show Kd.M (Kd.int .u8) _ _ _ ((wrap64 (97 + a0)) % 256) [.int .u8 ((wrap64 (97 + a0)) % 256)] from rfl) (Reps.none _ _))); intro v395 w2 ho3 hb hg_ hnew_; clear hg_ hnew_; (first | rw [← Ny394.out] at ho3 | (simp only [Int.reduceToNat] at ho3; rw [← Ny394.out] at ho3)); have HO396 := uL ho3 HB; replace HB := uB HB hb; clear hb ho3; have hcv4 := own_string (P := Tryz.prog) Tryz.underlying22 Tryz.underlying5 Tryz.underlying9 (Kd.own_of_R HO396.out)))
 go_ret
 exact ⟨ax27, ax39⟩

/-! ### impl_Trie_prefixes: function 164 -/
def impl_Trie_prefixes.l0 : Nat → List ByteArray → List (S74) → Int → Int → Option (List ByteArray × Bool)
 | 0, _, _, _, _ => none
 | k + 1, x4, x15, x16, x17 => if x17 < x16 then (if 0 ≤ x17 then (if x17 < (x15.length : Int) then ((impl_in.f ((rd_T74 x15 x17).f1) 0 x17).bind fun t408 => (if t408 = true then ((impl_in.f ((rd_T74 x15 x17).f0) 0 25).bind fun t409 => (if t409 = true then (if 0 ≤ ((rd_T74 x15 x17).f1) then (if ((rd_T74 x15 x17).f1) < (x4.length : Int) then ((impl_letter.f ((rd_T74 x15 x17).f0)).bind fun t411 => (if (rdOf ByteArray.empty x4 ((rd_T74 x15 x17).f1)).size + t411.size ≤ 9223372036854775807 then (if x4.length < 8796093022208 then (impl_Trie_prefixes.l0 k (x4 ++ [(rdOf ByteArray.empty x4 ((rd_T74 x15 x17).f1)) ++ t411]) x15 x16 (wrap64 (x17 + 1))) else (none)) else (none))) else (none)) else (none)) else (some (([] : List ByteArray), false)))) else (some (([] : List ByteArray), false)))) else (none)) else (none)) else (some (x4, true))
def impl_Trie_prefixes.f (k : Nat) (l0_0 : List (S74)) : Option (List ByteArray × Bool) := (impl_in.f (l0_0.length : Int) 1 481).bind fun t401 => (if t401 = true then (if 1 ≤ (l0_0.length : Int) then ((some (l0_0.drop 1 : List (S74))).bind fun y402 => (impl_Trie_prefixes.l0 k (([(⟨#[]⟩ : ByteArray)] : List ByteArray)) y402 (y402.length : Int) 0)) else (none)) else (some (([] : List ByteArray), false)))
def impl_Trie_prefixes.T9 : Bool × List (List Nat × List Nat) := (true, [([], []), ([], []), ([], []), ([2], [2]), ([1, 3], [1, 3]), ([4], [4]), ([], []), ([6], [6]), ([7], [7]), ([5, 8], [5, 8]), ([9], [9]), ([0, 10, 8], [0, 10]), ([11, 11, 0, 1, 2, 3, 4, 5, 6, 7, 8, 9, 10, 11], [0, 1, 11])])
def impl_Trie_prefixes.B9 : List Nat := [0, 0, 0, 4, 14, 30, 0, 64, 192, 510, 1022, 2047, 4095]
theorem impl_Trie_prefixes.tab9 : rtab .any (opsOf Tryz.f164 9) = impl_Trie_prefixes.T9 := by kernel_rfl
theorem impl_Trie_prefixes.bits9 : waitsOk impl_Trie_prefixes.T9.2 impl_Trie_prefixes.B9 = true := by kernel_rfl
set_option maxHeartbeats 8000000 in
set_option maxRecDepth 100000 in
theorem impl_Trie_prefixes.calls (k : Nat) (A0_0 : Option Addr) (c0_0 : Nat) (l0_0 : List (S74)) (r1 : List ByteArray) (r2 : Bool) (w : World) (hr0_0 : Kd.C k74 w A0_0 l0_0.length l0_0) (hc0_0 : l0_0.length ≤ c0_0) (h : impl_Trie_prefixes.f k l0_0 = some (r1, r2)) :
  Calls Tryz.prog 164 #[.agg #[.slice A0_0 l0_0.length c0_0]] w fun e w' => ∃ v0_ : Value, e = .returned (.tuple #[v0_, .bool r2]) ∧ Kd.R Kd.string 9 w' w.heap.size (fun _ => True) v0_ r1 ∧ Below w.heap.size w w' := by
 have hu26 := Tryz.underlying26; have hu74 := Tryz.underlying74; have HR0_0 := am hr0_0; have HC0_0 := am hc0_0; clear hr0_0 hc0_0; have HB := am (Below.refl w.heap.size w)
 unfold impl_Trie_prefixes.f at h
 have H := h; clear h; obtain ⟨y398, hy398⟩ : ∃ y_ : List ByteArray, y_ = (([(⟨#[]⟩ : ByteArray)] : List ByteArray)) := ⟨_, rfl⟩
 replace H : ((impl_in.f (l0_0.length : Int) 1 481).bind fun t401 => (if t401 = true then (if 1 ≤ (l0_0.length : Int) then ((some (l0_0.drop 1 : List (S74))).bind fun y402 => (impl_Trie_prefixes.l0 k y398 y402 (y402.length : Int) 0)) else (none)) else (some (([] : List ByteArray), false)))) = some (r1, r2) := by first | (rw [hy398]; with_reducible exact H) | (have H2_ := (Option.bind_some _ _).symm.trans H; rw [hy398]; with_reducible exact H2_) | (have H2_ := (Option.bind_some _ _).symm.trans H; with_reducible exact H2_) | with_reducible exact H | (rw [hy398]; exact H) | exact H
 have Ny398 := am hy398; clear hy398; obtain ⟨t401, A2, H⟩ := bs H
 by_cases c3 : t401 = true
 ·subst c3
  rw [if_pos rfl] at H
  by_cases c4 : 1 ≤ (l0_0.length : Int)
  ·rw [if_pos c4] at H
   have c4b0 := eq_true c4; have c4b1 := decide_eq_true c4; clear c4; obtain ⟨y402, hy402⟩ : ∃ y_ : List (S74), y_ = (l0_0.drop 1) := ⟨_, rfl⟩
   replace H : (impl_Trie_prefixes.l0 k y398 y402 (y402.length : Int) 0) = some (r1, r2) := by first | (rw [hy402]; with_reducible exact H) | (have H2_ := (Option.bind_some _ _).symm.trans H; rw [hy402]; with_reducible exact H2_) | (have H2_ := (Option.bind_some _ _).symm.trans H; with_reducible exact H2_) | with_reducible exact H | (rw [hy402]; exact H) | exact H
   have Ny402 := am hy402; clear hy402; have H' := am H; clear H
   go_enter Tryz.func164, Tryz.ntmps164
   go_wp2_with (first | ((with_reducible refine gate_dst (N := 1) rfl ?_); refine bx 1 #[.slice A0_0 l0_0.length c0_0] 26 ?_; intro gb397 hg w5 hbox hb; have BK397 := am (hbox); have GW397 := uG hg HB; have GE397 := uG hg HB; replace HB := uB HB hb; clear hb hbox hg) | ((with_reducible refine gate_dst (N := 7) rfl ?_); refine Kd.R_lit Kd.string _ 9 ?hg (N := 7) ?hd (xs := ([(⟨#[]⟩ : ByteArray)] : List ByteArray)) (inner := [.string (⟨#[]⟩ : ByteArray)]) (ok := fun _ => True) (okp := fun _ => True) ?hr ?hp (fun _ hk => hk) trivial (Below.refl _ _) (Nat.le_refl _) (by simp) ?_; (case hd => rfl); (case hg => rfl); (case hr => exact ax33); (case hp => exact ax64); intro v399 w6 ho7 hb hg_ hnew_; clear hg_ hnew_; (first | rw [← Ny398.out] at ho7 | (simp only [Int.reduceToNat] at ho7; rw [← Ny398.out] at ho7)); have HO400 := am (Kd.R_lower ho7 (below_size ax165)); replace BK397 := ub BK397 hb; replace HB := am (below_step ax165 hb); clear hb ho7; have hcz8_0 := bc (.slice A0_0 l0_0.length c0_0) BK397 0; have hfz8_0 := blk_frozen BK397.out 0) | ((with_reducible refine gd 11 129 ?_); refine gc 11 Tryz.func129 #[.int .i64 (l0_0.length : Int), .int .i64 1, .int .i64 481] (impl_in.calls (l0_0.length : Int) 1 481 true _ A2.out) ?_; rintro e w' ⟨rfl, ⟨nd, rfl⟩⟩; refine ⟨_, rfl, ?_⟩; have q9 : (1 : Int) ≤ ((l0_0.length : Int) : Int) := of_decide_eq_true ax26; obtain ⟨i09, hi09, _, hsz9, _⟩ := info_parts info74; have hroom9 : l0_0.length ≤ c0_0 := HC0_0.out; have hC9 : Kd.C k74 _ A0_0 l0_0.length l0_0 := HR0_0.out; have hcut9 := cut_from (P := Tryz.prog) 24 74 .i64 Tryz.underlying24 hi09 3 hsz9 A0_0 l0_0.length c0_0 1 (by omega) q9; have hr9 := Kd.C_drop (m := (1 : Int).toNat) (c := c0_0) hC9 (by omega) hroom9; obtain ⟨A9, hA9⟩ : ∃ A1, A1 = (if c0_0 = (1 : Int).toNat then A0_0 else (A0_0 : Option Addr).map (·.add ((1 : Int).toNat * 3))) := ⟨_, rfl⟩; obtain ⟨c9, hc9⟩ : ∃ c1, c1 = c0_0 - (1 : Int).toNat := ⟨_, rfl⟩; have hy9 : y402.length = l0_0.length - (1 : Int).toNat := (by rw [Ny402.out, List.length_drop] <;> omega); rw [show (l0_0).drop (1 : Int).toNat = y402 from Ny402.out.symm] at hr9; replace hr9 : Kd.C k74 _ A9 y402.length y402 := (by rw [hA9]; exact hr9); rw [← hy9, ← hA9, ← hc9] at hcut9; have HR405 := am hr9; have HC405 := am (show y402.length ≤ c9 from by rw [hy9, hc9]; exact Nat.sub_le_sub_right hroom9 _); clear hr9 hC9 hroom9 hi09 hsz9 hc9; have KY9 := am hy9; have KA9 := am hA9; clear hy9 hA9; replace q9 := eq_true q9))
   go_loopg [4, 17] k (fun kq v4 v17 w' => ∃ (x4_1 : List ByteArray) (x17_1 : Int), v17 = .int .i64 x17_1 ∧ Aside0 (impl_Trie_prefixes.l0 kq x4_1 y402 (y402.length : Int) x17_1 = some (r1, r2)) ∧ Aside0 (kq ≤ k) ∧ Aside0 (Kd.R Kd.string 9 w' w.heap.size (fun _ => True) v4 x4_1) ∧ Aside0 (w'.heap[gb397]? = some (.cells #[(.slice A0_0 l0_0.length c0_0)] 26 (0, 0))) ∧ Aside0 (Below w.heap.size w w'))
   case atStart => exact ⟨(y398), (0), ax31, H', ⟨Nat.le_refl _⟩, ⟨(by (with_reducible repeat (first | apply Kd.R_alloc | apply Kd.R_drewN | apply Kd.R_drew)); exact HO400.out)⟩, ⟨ax166⟩, ⟨ax165⟩⟩
   case round =>
    clear H'; (try clear hcz8_0);(try clear hfz8_0);(try clear q9);(try clear c9);(try clear c1);(try clear c4);(try clear c4b1);(try clear c4b0);(try clear c3); obtain ⟨x4_1, x17_1, rfl, HA, HK1, HO_4, BK397, HB⟩ := hrel
    cases gk with
    | zero => exact absurd HA.out (by simp [impl_Trie_prefixes.l0])
    | succ k1 =>
     have H := HA.out; clear HA; simp only [impl_Trie_prefixes.l0] at H
     by_cases c10 : x17_1 < (y402.length : Int)
     ·rw [if_pos c10] at H
      have c10b0 := decide_eq_true c10; clear c10
      by_cases c11 : 0 ≤ x17_1
      ·rw [if_pos c11] at H
       have c11b0 := decide_eq_true c11; clear c11
       by_cases c12 : x17_1 < (y402.length : Int)
       ·rw [if_pos c12] at H
        have c12b0 := decide_eq_true c12; clear c12; obtain ⟨t408, A13, H⟩ := bs H
        by_cases c14 : t408 = true
        ·subst c14
         rw [if_pos rfl] at H; obtain ⟨t409, A15, H⟩ := bs H
         by_cases c16 : t409 = true
         ·subst c16
          rw [if_pos rfl] at H
          by_cases c17 : 0 ≤ ((rd_T74 y402 x17_1).f1)
          ·rw [if_pos c17] at H
           have c17b0 := decide_eq_true c17; clear c17
           by_cases c18 : ((rd_T74 y402 x17_1).f1) < (x4_1.length : Int)
           ·rw [if_pos c18] at H
            have c18b0 := decide_eq_true c18; clear c18; obtain ⟨t411, A19, H⟩ := bs H
            by_cases c20 : (rdOf ByteArray.empty x4_1 ((rd_T74 y402 x17_1).f1)).size + t411.size ≤ 9223372036854775807
            ·rw [if_pos c20] at H
             have c20b0 := eq_true c20; have c20b1 := decide_eq_true c20
             try have c20b2 : (9223372036854775807 < (rdOf ByteArray.empty x4_1 ((rd_T74 y402 x17_1).f1)).size + t411.size) = False := eq_false (Nat.not_lt.2 c20)
             clear c20; obtain ⟨js21, hjs21⟩ : ∃ j_ : ByteArray, ((rdOf ByteArray.empty x4_1 ((rd_T74 y402 x17_1).f1)) ++ t411) = j_ := ⟨_, rfl⟩; (first | rw [hjs21] at H | simp only [hjs21] at H)
             by_cases c22 : x4_1.length < 8796093022208
             ·rw [if_pos c22] at H
              have LMc22 := am c22; clear c22; obtain ⟨y412, hy412⟩ : ∃ y_ : List ByteArray, y_ = (x4_1 ++ [js21]) := ⟨_, rfl⟩
              replace H : (impl_Trie_prefixes.l0 k1 y412 y402 (y402.length : Int) (wrap64 (x17_1 + 1))) = some (r1, r2) := by first | (rw [hy412]; with_reducible exact H) | (have H2_ := (Option.bind_some _ _).symm.trans H; rw [hy412]; with_reducible exact H2_) | (have H2_ := (Option.bind_some _ _).symm.trans H; with_reducible exact H2_) | with_reducible exact H | (rw [hy412]; exact H) | exact H
              have Ny412 := am hy412; clear hy412; have H' := am H; clear H; have p406 : 0 ≤ (x17_1 : Int) := of_decide_eq_true ax26; have q406 : x17_1 < (y402.length : Int) := of_decide_eq_true ax26; obtain ⟨ad406, e406, hx406_0, hx406_1, hx406_2⟩ := at_T74 HR405.out x17_1 p406 q406
              cases e406
              replace hx406_0 := (HB.out.cell (World.block_lt_of_cell? w _ hx406_0)).trans hx406_0; replace hx406_1 := (HB.out.cell (World.block_lt_of_cell? w _ hx406_1)).trans hx406_1; replace hx406_2 := (HB.out.cell (World.block_lt_of_cell? w _ hx406_2)).trans hx406_2; replace p406 := eq_true p406; replace q406 := eq_true q406
              try go_wp2_with (first | ((with_reducible refine gate_dst (N := 6) rfl ?_); refine bx 6 #[.int .i64 0, .int .i64 0, .bool false] 74 ?_; intro gb407 hg w23 hbox hb; replace HO_4 := uR HO_4 hb; have BK407 := am (hbox); have GW407 := am ((ax167 : w.heap.size ≤ gb407)); have GE407 := am ((ax167 : w.heap.size ≤ gb407)); replace HB := am (below_step ax165 hb); have NB397_407 := uN hg BK397; have NB407_397 := uM hg BK397; replace BK397 := ub BK397 hb; clear hb hbox hg; have hnb24 := NB407_397.out; have hnc24 := NB397_407.out; have hcz25_0 := bc (.int .i64 0) BK407 0; have hcz25_1 := bc (.int .i64 0) BK407 1; have hcz25_2 := bc (.bool false) BK407 2; have hfz25_0 := blk_frozen BK407.out 0; have hfz25_1 := blk_frozen BK407.out 1; have hfz25_2 := blk_frozen BK407.out 2) | ((with_reducible refine gate_store (t := 74) (p := 6) rfl ?_); refine store_event (t := 74) (p := 6) (v := ?vo_w26) (w1 := (((w23.setCell ⟨gb407, 0, none⟩ (.int .i64 ((rd_T74 y402 x17_1).f0))).setCell ⟨gb407, 1, none⟩ (.int .i64 ((rd_T74 y402 x17_1).f1))).setCell ⟨gb407, 2, none⟩ (.bool ((rd_T74 y402 x17_1).f2)))) ?hg ?ho ?hn ?hr ?_; (case ho => rfl); (case hg => rfl); (case hn => rfl); (case hr => exact ax33); intro w26 hw; have n0_ : Aside0 (Kd.R Kd.string 9 w26 w.heap.size (fun _ => True) u4 x4_1) := ⟨ax168⟩; have n1_ : Aside0 (w26.heap[gb397]? = some (.cells #[.slice A0_0 l0_0.length c0_0] 26 (0, 0))) := ⟨ax169⟩; have n2_ : Aside0 (w26.heap[gb407]? = some (.cells #[.int .i64 ((rd_T74 y402 x17_1).f0), .int .i64 ((rd_T74 y402 x17_1).f1), .bool ((rd_T74 y402 x17_1).f2)] 74 (0, 0))) := ⟨ax170⟩; have n3_ : Aside0 (Below w.heap.size w w26) := ⟨ax171⟩; clear hw; clear HO_4; clear BK397; clear BK407; clear HB; have HO_4 := n0_; have BK397 := n1_; have BK407 := n2_; have HB := n3_; clear n0_ n1_ n2_ n3_; have hcz27_0 := bc (.int .i64 ((rd_T74 y402 x17_1).f0)) BK407 0; have hcz27_1 := bc (.int .i64 ((rd_T74 y402 x17_1).f1)) BK407 1; have hcz27_2 := bc (.bool ((rd_T74 y402 x17_1).f2)) BK407 2; have hfz27_0 := blk_frozen BK407.out 0; have hfz27_1 := blk_frozen BK407.out 1; have hfz27_2 := blk_frozen BK407.out 2) | ((with_reducible refine gd 25 129 ?_); refine gc 25 Tryz.func129 #[.int .i64 ((rd_T74 y402 x17_1).f1), .int .i64 0, .int .i64 x17_1] (impl_in.calls ((rd_T74 y402 x17_1).f1) 0 x17_1 true _ A13.out) ?_; rintro e w' ⟨rfl, ⟨nd, rfl⟩⟩; refine ⟨_, rfl, ?_⟩) | (go_at_call 129; (with_reducible refine (impl_in.calls ((rd_T74 y402 x17_1).f0) 0 25 true _ A15.out).mono ?_); rintro e w' ⟨rfl, ⟨nd, rfl⟩⟩))
              (try (rw [drewN_self w26]; generalize hq_ : World.drewN w26 _ = w26; have n0_ : Aside0 (Kd.R Kd.string 9 w26 w.heap.size (fun _ => True) u4 x4_1) := ⟨(by rw [← hq_]; exact ax172)⟩; have n1_ : Aside0 (w26.heap[gb397]? = some (.cells #[.slice A0_0 l0_0.length c0_0] 26 (0, 0))) := ⟨(by rw [← hq_]; exact ax166)⟩; have n2_ : Aside0 (w26.heap[gb407]? = some (.cells #[.int .i64 ((rd_T74 y402 x17_1).f0), .int .i64 ((rd_T74 y402 x17_1).f1), .bool ((rd_T74 y402 x17_1).f2)] 74 (0, 0))) := ⟨(by rw [← hq_]; exact ax173)⟩; have n3_ : Aside0 (Below w.heap.size w w26) := ⟨(by rw [← hq_]; exact ax174)⟩; clear HO_4 BK397 BK407 HB hq_; have HO_4 := n0_; have BK397 := n1_; have BK407 := n2_; have HB := n3_; clear n0_ n1_ n2_ n3_)); replace HO_4 := am (Kd.R_drew HO_4.out); replace BK397 := am (blk_drew BK397.out); replace BK407 := am (blk_drew BK407.out); replace HB := am (below_drew1 HB.out); obtain ⟨Ao29, co29, eo29⟩ := Kd.R_slice HO_4.out; (first | subst eo29 | (injection eo29 with f1_ f2_ f3_; have f4_ := f1_.symm; have f5_ := f3_.symm; clear f1_ f2_ f3_; subst f4_; subst f5_)); have p410 : 0 ≤ (((rd_T74 y402 x17_1).f1) : Int) := of_decide_eq_true ax26; have q410 : ((rd_T74 y402 x17_1).f1) < (x4_1.length : Int) := of_decide_eq_true ax26; obtain ⟨ad410, e410, hx410_0⟩ := Kd.at_string (Kd.R_reads' HO_4.out).2.2 ((rd_T74 y402 x17_1).f1) p410 q410
              cases e410
              replace p410 := eq_true p410; replace q410 := eq_true q410; refine start_ (n := 13) (S := fun w' => w'.cell? ⟨gb407, 0, none⟩ = some (.int .i64 ((rd_T74 y402 x17_1).f0)) ∧ w'.cell? ⟨gb407, 1, none⟩ = some (.int .i64 ((rd_T74 y402 x17_1).f1)) ∧ w'.cell? ⟨gb407, 2, none⟩ = some (.bool ((rd_T74 y402 x17_1).f2)) ∧ w'.cell? (ad410.add (((rd_T74 y402 x17_1).f1)).toNat) = some (.string (rdOf ByteArray.empty x4_1 ((rd_T74 y402 x17_1).f1)))) (ds := [10, 11]) (ob 13 0) (by kernel_rfl) rfl rfl ⟨(blk_cell BK407.out 0).trans rfl, (blk_cell BK407.out 1).trans rfl, (blk_cell BK407.out 2).trans rfl, hx410_0⟩ (fun hHeld => ?_); refine with_tabW impl_Trie_prefixes.tab9 impl_Trie_prefixes.bits9 (fun HT_ HW_ => ?_); generalize w26.drew = w28 at HO_4 BK397 BK407 HB hx410_0 hHeld ⊢; refine pu 0 33 ?_; refine pu 1 34 ?_; refine pu 2 35 ?_; refine pu 6 39 ?_; refine tk 3 36 ?_; refine pu 4 37 ?_; refine tk 5 38 ?_; refine tk 7 40 ?_; refine one_ (i := 8) (N := some 41) (ob 13 511) rfl rfl (one_of HT_.out (by kernel_rfl)) (by decide) (fun K hK => ?_); refine goes_ Tryz.func188 (by kernel_rfl) rfl #[.int .i64 ((rd_T74 y402 x17_1).f0)] (by rfl) rfl rfl ax42 ?_
              with_reducible refine (impl_letter.calls ((rd_T74 y402 x17_1).f0) t411 _ A19.out).mono ?_
              rintro e w30 ⟨rfl, hb⟩; have HS3_ := (hb.cell (World.block_lt_of_cell? _ _ (hHeld.2.2.2))).trans (hHeld.2.2.2); refine ⟨_, rfl, ?_⟩; replace HO_4 := uR HO_4 hb; replace BK397 := ub BK397 hb; replace BK407 := ub BK407 hb; replace HB := am (below_step ax174 hb); (try clear hb); (try clear hb2); (try clear hk); (try clear hi); refine hK.out _ _ ⟨(blk_cell BK407.out 0).trans rfl, (blk_cell BK407.out 1).trans rfl, (blk_cell BK407.out 2).trans rfl, HS3_⟩ (fun hHeld => ?_); clear hK K; refine nm 41 ?_; refine pu 9 42 ?_; refine last_ (i := 10) (N := some 43) (ob 13 2047) rfl rfl (one_of HT_.out (by kernel_rfl)) (by decide) (fun K hK => ?_); refine value_ (w1 := ?_) (v := ?_) (by rfl) rfl ?_ ?_
              rotate_left 2
              ·go_simp
               constructor
               ·rfl
               ·rfl
              refine hK.out _ _ ?_; clear hK K; refine nm 43 ?_; refine last_ (i := 11) (N := some 44) (ob 13 4095) rfl rfl (one_of HT_.out (by kernel_rfl)) (by decide) (fun K hK => ?_); refine Kd.R_append_step Kd.string (w0 := w) w.heap.size (by rfl) (.tmp 33) (.tmp 43) 31 9 (.string ⟨#[]⟩) 16 rfl Tryz.underlying31 info9 rfl (by decide) (by omega) (.slice (some ad410) x4_1.length co29) x4_1 js21 [.string js21] (fun _ => True) (fun _ => False) rfl rfl ?aP (fun _ hk => hk.elim) ?aF ?aO ?aB ?aS ?aL ?_
              (case aP => exact rfl)
              (case aB => exact ax174)
              (case aF => exact ax37)
              (case aO => exact ax175)
              (case aS => exact (below_size ax174))
              (case aL => have := LMc22.out; omega)
              intro v413 w31 ho hb hg hat; rw [← Ny412.out] at ho; have n0_ := am (blk_grown (g := gb397) (o := .cells #[.slice A0_0 l0_0.length c0_0] 26 (0, 0)) ax166 hg (Kd.R_ne HO_4.out BK397.out (by decide))); have n1_ := am (blk_grown (g := gb407) (o := .cells #[.int .i64 ((rd_T74 y402 x17_1).f0), .int .i64 ((rd_T74 y402 x17_1).f1), .bool ((rd_T74 y402 x17_1).f2)] 74 (0, 0)) ax173 hg (Kd.R_ne HO_4.out BK407.out (by decide))); have n2_ := am (hb); have n3_ := am (ho); clear BK397; clear BK407; clear HB; clear HO_4; have BK397 := n0_; have BK407 := n1_; have HB := n2_; have HO414 := n3_; clear n0_ n1_ n2_ n3_; clear ho hb hg hat; refine hK.out _ _ ?_; clear hK K; refine nm 44 ?_; refine pu 12 4 ?_; refine dn ?_
              try go_wp2
              go_roundg k1
              case measure => have := HK1.out; omega
              case rel => exact ⟨(y412), (wrap64 (x17_1 + 1)), ax31, H', ⟨by have := HK1.out; omega⟩, ⟨(by (with_reducible repeat (first | apply Kd.R_alloc | apply Kd.R_drewN | apply Kd.R_drew)); exact HO414.out)⟩, ⟨ax166⟩, ⟨ax174⟩⟩
             ·rw [if_neg c22] at H
              exact absurd H (by simp)
            ·rw [if_neg c20] at H
             exact absurd H (by simp)
           ·exact ax13
          ·exact ax21
         ·replace c16 := Bool.eq_false_iff.mpr c16
          subst c16; rw [if_neg (show ¬ (false = true) by decide)] at H; simp only [Option.some.injEq, Prod.mk.injEq] at H; obtain ⟨rfl, rfl⟩ := H; have p406 : 0 ≤ (x17_1 : Int) := of_decide_eq_true ax26; have q406 : x17_1 < (y402.length : Int) := of_decide_eq_true ax26; obtain ⟨ad406, e406, hx406_0, hx406_1, hx406_2⟩ := at_T74 HR405.out x17_1 p406 q406
          cases e406
          replace hx406_0 := (HB.out.cell (World.block_lt_of_cell? w _ hx406_0)).trans hx406_0; replace hx406_1 := (HB.out.cell (World.block_lt_of_cell? w _ hx406_1)).trans hx406_1; replace hx406_2 := (HB.out.cell (World.block_lt_of_cell? w _ hx406_2)).trans hx406_2; replace p406 := eq_true p406; replace q406 := eq_true q406
          go_wp2_with (first | ((with_reducible refine gate_dst (N := 6) rfl ?_); refine bx 6 #[.int .i64 0, .int .i64 0, .bool false] 74 ?_; intro gb407 hg w32 hbox hb; replace HO_4 := uR HO_4 hb; have BK407 := am (hbox); have GW407 := am ((ax167 : w.heap.size ≤ gb407)); have GE407 := am ((ax167 : w.heap.size ≤ gb407)); replace HB := am (below_step ax165 hb); have NB397_407 := uN hg BK397; have NB407_397 := uM hg BK397; replace BK397 := ub BK397 hb; clear hb hbox hg; have hnb33 := NB407_397.out; have hnc33 := NB397_407.out; have hcz34_0 := bc (.int .i64 0) BK407 0; have hcz34_1 := bc (.int .i64 0) BK407 1; have hcz34_2 := bc (.bool false) BK407 2; have hfz34_0 := blk_frozen BK407.out 0; have hfz34_1 := blk_frozen BK407.out 1; have hfz34_2 := blk_frozen BK407.out 2) | ((with_reducible refine gate_store (t := 74) (p := 6) rfl ?_); refine store_event (t := 74) (p := 6) (v := ?vo_w35) (w1 := (((w32.setCell ⟨gb407, 0, none⟩ (.int .i64 ((rd_T74 y402 x17_1).f0))).setCell ⟨gb407, 1, none⟩ (.int .i64 ((rd_T74 y402 x17_1).f1))).setCell ⟨gb407, 2, none⟩ (.bool ((rd_T74 y402 x17_1).f2)))) ?hg ?ho ?hn ?hr ?_; (case ho => rfl); (case hg => rfl); (case hn => rfl); (case hr => exact ax33); intro w35 hw; have n0_ : Aside0 (Kd.R Kd.string 9 w35 w.heap.size (fun _ => True) u4 x4_1) := ⟨ax168⟩; have n1_ : Aside0 (w35.heap[gb397]? = some (.cells #[.slice A0_0 l0_0.length c0_0] 26 (0, 0))) := ⟨ax169⟩; have n2_ : Aside0 (w35.heap[gb407]? = some (.cells #[.int .i64 ((rd_T74 y402 x17_1).f0), .int .i64 ((rd_T74 y402 x17_1).f1), .bool ((rd_T74 y402 x17_1).f2)] 74 (0, 0))) := ⟨ax170⟩; have n3_ : Aside0 (Below w.heap.size w w35) := ⟨ax171⟩; clear hw; clear HO_4; clear BK397; clear BK407; clear HB; have HO_4 := n0_; have BK397 := n1_; have BK407 := n2_; have HB := n3_; clear n0_ n1_ n2_ n3_; have hcz36_0 := bc (.int .i64 ((rd_T74 y402 x17_1).f0)) BK407 0; have hcz36_1 := bc (.int .i64 ((rd_T74 y402 x17_1).f1)) BK407 1; have hcz36_2 := bc (.bool ((rd_T74 y402 x17_1).f2)) BK407 2; have hfz36_0 := blk_frozen BK407.out 0; have hfz36_1 := blk_frozen BK407.out 1; have hfz36_2 := blk_frozen BK407.out 2) | ((with_reducible refine gd 25 129 ?_); refine gc 25 Tryz.func129 #[.int .i64 ((rd_T74 y402 x17_1).f1), .int .i64 0, .int .i64 x17_1] (impl_in.calls ((rd_T74 y402 x17_1).f1) 0 x17_1 true _ A13.out) ?_; rintro e w' ⟨rfl, ⟨nd, rfl⟩⟩; refine ⟨_, rfl, ?_⟩) | (go_at_call 129; (with_reducible refine (impl_in.calls ((rd_T74 y402 x17_1).f0) 0 25 false _ A15.out).mono ?_); rintro e w' ⟨rfl, ⟨nd, rfl⟩⟩))
          go_ret2
          exact ⟨_, ax27, ax135, ax174⟩
        ·replace c14 := Bool.eq_false_iff.mpr c14
         subst c14; rw [if_neg (show ¬ (false = true) by decide)] at H; simp only [Option.some.injEq, Prod.mk.injEq] at H; obtain ⟨rfl, rfl⟩ := H; have p406 : 0 ≤ (x17_1 : Int) := of_decide_eq_true ax26; have q406 : x17_1 < (y402.length : Int) := of_decide_eq_true ax26; obtain ⟨ad406, e406, hx406_0, hx406_1, hx406_2⟩ := at_T74 HR405.out x17_1 p406 q406
         cases e406
         replace hx406_0 := (HB.out.cell (World.block_lt_of_cell? w _ hx406_0)).trans hx406_0; replace hx406_1 := (HB.out.cell (World.block_lt_of_cell? w _ hx406_1)).trans hx406_1; replace hx406_2 := (HB.out.cell (World.block_lt_of_cell? w _ hx406_2)).trans hx406_2; replace p406 := eq_true p406; replace q406 := eq_true q406
         go_wp2_with (first | ((with_reducible refine gate_dst (N := 6) rfl ?_); refine bx 6 #[.int .i64 0, .int .i64 0, .bool false] 74 ?_; intro gb407 hg w37 hbox hb; replace HO_4 := uR HO_4 hb; have BK407 := am (hbox); have GW407 := am ((ax167 : w.heap.size ≤ gb407)); have GE407 := am ((ax167 : w.heap.size ≤ gb407)); replace HB := am (below_step ax165 hb); have NB397_407 := uN hg BK397; have NB407_397 := uM hg BK397; replace BK397 := ub BK397 hb; clear hb hbox hg; have hnb38 := NB407_397.out; have hnc38 := NB397_407.out; have hcz39_0 := bc (.int .i64 0) BK407 0; have hcz39_1 := bc (.int .i64 0) BK407 1; have hcz39_2 := bc (.bool false) BK407 2; have hfz39_0 := blk_frozen BK407.out 0; have hfz39_1 := blk_frozen BK407.out 1; have hfz39_2 := blk_frozen BK407.out 2) | ((with_reducible refine gate_store (t := 74) (p := 6) rfl ?_); refine store_event (t := 74) (p := 6) (v := ?vo_w40) (w1 := (((w37.setCell ⟨gb407, 0, none⟩ (.int .i64 ((rd_T74 y402 x17_1).f0))).setCell ⟨gb407, 1, none⟩ (.int .i64 ((rd_T74 y402 x17_1).f1))).setCell ⟨gb407, 2, none⟩ (.bool ((rd_T74 y402 x17_1).f2)))) ?hg ?ho ?hn ?hr ?_; (case ho => rfl); (case hg => rfl); (case hn => rfl); (case hr => exact ax33); intro w40 hw; have n0_ : Aside0 (Kd.R Kd.string 9 w40 w.heap.size (fun _ => True) u4 x4_1) := ⟨ax168⟩; have n1_ : Aside0 (w40.heap[gb397]? = some (.cells #[.slice A0_0 l0_0.length c0_0] 26 (0, 0))) := ⟨ax169⟩; have n2_ : Aside0 (w40.heap[gb407]? = some (.cells #[.int .i64 ((rd_T74 y402 x17_1).f0), .int .i64 ((rd_T74 y402 x17_1).f1), .bool ((rd_T74 y402 x17_1).f2)] 74 (0, 0))) := ⟨ax170⟩; have n3_ : Aside0 (Below w.heap.size w w40) := ⟨ax171⟩; clear hw; clear HO_4; clear BK397; clear BK407; clear HB; have HO_4 := n0_; have BK397 := n1_; have BK407 := n2_; have HB := n3_; clear n0_ n1_ n2_ n3_; have hcz41_0 := bc (.int .i64 ((rd_T74 y402 x17_1).f0)) BK407 0; have hcz41_1 := bc (.int .i64 ((rd_T74 y402 x17_1).f1)) BK407 1; have hcz41_2 := bc (.bool ((rd_T74 y402 x17_1).f2)) BK407 2; have hfz41_0 := blk_frozen BK407.out 0; have hfz41_1 := blk_frozen BK407.out 1; have hfz41_2 := blk_frozen BK407.out 2) | ((with_reducible refine gd 25 129 ?_); refine gc 25 Tryz.func129 #[.int .i64 ((rd_T74 y402 x17_1).f1), .int .i64 0, .int .i64 x17_1] (impl_in.calls ((rd_T74 y402 x17_1).f1) 0 x17_1 false _ A13.out) ?_; rintro e w' ⟨rfl, ⟨nd, rfl⟩⟩; refine ⟨_, rfl, ?_⟩))
         go_ret2
         exact ⟨_, ax27, ax135, ax174⟩
       ·rw [if_neg c12] at H
        exact absurd H (by simp)
      ·exact ax8
     ·rw [if_neg c10] at H
      have c10b0 := decide_eq_false c10; clear c10; simp only [Option.some.injEq, Prod.mk.injEq] at H; obtain ⟨rfl, rfl⟩ := H
      go_wp2
      go_ret2
      exact ⟨_, ax27, ax172, ax165⟩
  ·exact ax1
 ·replace c3 := Bool.eq_false_iff.mpr c3
  subst c3; rw [if_neg (show ¬ (false = true) by decide)] at H; simp only [Option.some.injEq, Prod.mk.injEq] at H; obtain ⟨rfl, rfl⟩ := H
  go_enter Tryz.func164, Tryz.ntmps164
  go_wp2_with (first | ((with_reducible refine gate_dst (N := 1) rfl ?_); refine bx 1 #[.slice A0_0 l0_0.length c0_0] 26 ?_; intro gb397 hg w42 hbox hb; have BK397 := am (hbox); have GW397 := uG hg HB; have GE397 := uG hg HB; replace HB := uB HB hb; clear hb hbox hg) | ((with_reducible refine gate_dst (N := 7) rfl ?_); refine Kd.R_lit Kd.string _ 9 ?hg (N := 7) ?hd (xs := ([(⟨#[]⟩ : ByteArray)] : List ByteArray)) (inner := [.string (⟨#[]⟩ : ByteArray)]) (ok := fun _ => True) (okp := fun _ => True) ?hr ?hp (fun _ hk => hk) trivial (Below.refl _ _) (Nat.le_refl _) (by simp) ?_; (case hd => rfl); (case hg => rfl); (case hr => exact ax33); (case hp => exact ax64); intro v399 w43 ho44 hb hg_ hnew_; clear hg_ hnew_; (first | rw [← Ny398.out] at ho44 | (simp only [Int.reduceToNat] at ho44; rw [← Ny398.out] at ho44)); have HO400 := am (Kd.R_lower ho44 (below_size ax165)); replace BK397 := ub BK397 hb; replace HB := am (below_step ax165 hb); clear hb ho44; have hcz45_0 := bc (.slice A0_0 l0_0.length c0_0) BK397 0; have hfz45_0 := blk_frozen BK397.out 0) | ((with_reducible refine gd 11 129 ?_); refine gc 11 Tryz.func129 #[.int .i64 (l0_0.length : Int), .int .i64 1, .int .i64 481] (impl_in.calls (l0_0.length : Int) 1 481 false _ A2.out) ?_; rintro e w' ⟨rfl, ⟨nd, rfl⟩⟩; refine ⟨_, rfl, ?_⟩))
  go_ret2
  exact ⟨_, ax27, ax135, ax165⟩

/-! ### impl_Trie_words: function 125 -/
def impl_Trie_words.l0 : Nat → List ByteArray → List ByteArray → List (S74) → Int → Int → Option (List ByteArray)
 | 0, _, _, _, _, _ => none
 | k + 1, x3, x5, x15, x16, x17 => if x17 < x16 then (if 0 ≤ x17 then (if x17 < (x15.length : Int) then (if (rd_T74 x15 x17).f2 = true then (if x17 < (x3.length : Int) then (if x5.length < 8796093022208 then (impl_Trie_words.l0 k x3 (x5 ++ [rdOf ByteArray.empty x3 x17]) x15 x16 (wrap64 (x17 + 1))) else (none)) else (none)) else (impl_Trie_words.l0 k x3 x5 x15 x16 (wrap64 (x17 + 1)))) else (none)) else (none)) else (some x5)
def impl_Trie_words.f (k : Nat) (l0_0 : List (S74)) : Option (List ByteArray) := (impl_Trie_prefixes.f k l0_0).bind fun bt416 => (impl_Trie_words.l0 k bt416.1 (([] : List ByteArray)) l0_0 (l0_0.length : Int) 0)
set_option maxHeartbeats 8000000 in
set_option maxRecDepth 100000 in
theorem impl_Trie_words.calls (k : Nat) (A0_0 : Option Addr) (c0_0 : Nat) (l0_0 : List (S74)) (r : List ByteArray) (w : World) (hr0_0 : Kd.C k74 w A0_0 l0_0.length l0_0) (hc0_0 : l0_0.length ≤ c0_0) (h : impl_Trie_words.f k l0_0 = some r) :
  Calls Tryz.prog 125 #[.agg #[.slice A0_0 l0_0.length c0_0]] w fun e w' => ∃ v0_ : Value, e = .returned (v0_) ∧ Kd.R Kd.string 9 w' w.heap.size (fun _ => True) v0_ r ∧ Below w.heap.size w w' := by
 have hu26 := Tryz.underlying26; have hu74 := Tryz.underlying74; have HR0_0 := am hr0_0; have HC0_0 := am hc0_0; clear hr0_0 hc0_0; have HB := am (Below.refl w.heap.size w)
 unfold impl_Trie_words.f at h
 have H := h; clear h; obtain ⟨⟨t416, t419⟩, A2, H⟩ := bs H; obtain ⟨y420, hy420⟩ : ∃ y_ : List ByteArray, y_ = (([] : List ByteArray)) := ⟨_, rfl⟩
 replace H : (impl_Trie_words.l0 k t416 y420 l0_0 (l0_0.length : Int) 0) = some r := by first | (rw [hy420]; with_reducible exact H) | (have H2_ := (Option.bind_some _ _).symm.trans H; rw [hy420]; with_reducible exact H2_) | (have H2_ := (Option.bind_some _ _).symm.trans H; with_reducible exact H2_) | with_reducible exact H | (rw [hy420]; exact H) | exact H
 have Ny420 := am hy420; clear hy420; have H' := am H; clear H
 go_enter Tryz.func125, Tryz.ntmps125
 go_wp2_with (first | ((with_reducible refine gate_dst (N := 1) rfl ?_); refine bx 1 #[.slice A0_0 l0_0.length c0_0] 26 ?_; intro gb415 hg w3 hbox hb; have BK415 := am (hbox); have GW415 := uG hg HB; have GE415 := uG hg HB; replace HB := uB HB hb; clear hb hbox hg; have hcz4_0 := bc (.slice A0_0 l0_0.length c0_0) BK415 0; have hfz4_0 := blk_frozen BK415.out 0) | ((with_reducible refine gd 10 164 ?_); refine gc 10 Tryz.func164 #[.agg #[.slice A0_0 l0_0.length c0_0]] (impl_Trie_prefixes.calls k _ _ l0_0 t416 t419 _ ax145 (HC0_0.out) A2.out) ?_; rintro e w5 ⟨v417, rfl, ho0, hb⟩; refine ⟨_, rfl, ?_⟩; have HO418 := am (Kd.R_lower ho0 (below_size ax176)); replace BK415 := ub BK415 hb; replace HB := am (below_step ax176 hb); (try clear hb ho0)) | ((with_reducible refine gate_dst (N := 13) rfl ?_); refine Kd.R_lit Kd.string _ 9 ?hg (N := 13) ?hd (xs := ([] : List ByteArray)) (inner := []) (ok := fun _ => True) (okp := fun _ => True) ?hr ?hp (fun _ hk => hk) trivial (Below.refl _ _) (Nat.le_refl _) (by simp) ?_; (case hd => rfl); (case hg => rfl); (case hr => exact ax33); (case hp => exact ax34); intro v421 w6 ho7 hb hg_ hnew_; clear hg_ hnew_; (first | rw [← Ny420.out] at ho7 | (simp only [Int.reduceToNat] at ho7; rw [← Ny420.out] at ho7)); have HO422 := am (Kd.R_lower (Kd.R_new' ho7 (Kd.R_lt ax177)) (below_size ax176)); replace HO418 := am (Kd.R_elder' ax177 (Kd.R_base ho7) hb); replace BK415 := ub BK415 hb; replace HB := am (below_step ax176 hb); clear hb ho7; have hcz8_0 := bc (.slice A0_0 l0_0.length c0_0) BK415 0; have hfz8_0 := blk_frozen BK415.out 0))
 go_loopg [5, 17] k (fun kq v5 v17 w' => ∃ (x5_1 : List ByteArray) (x17_1 : Int), v17 = .int .i64 x17_1 ∧ Aside0 (impl_Trie_words.l0 kq t416 x5_1 l0_0 (l0_0.length : Int) x17_1 = some r) ∧ Aside0 (kq ≤ k) ∧ Aside0 (Kd.R Kd.string 9 w' w.heap.size (fun k_ => some k_ ≠ (v5 : Value).ownBlock) v417 t416) ∧ Aside0 (Kd.R Kd.string 9 w' w.heap.size (fun k_ => some k_ ≠ (v417 : Value).ownBlock) v5 x5_1) ∧ Aside0 (w'.heap[gb415]? = some (.cells #[(.slice A0_0 l0_0.length c0_0)] 26 (0, 0))) ∧ Aside0 (Below w.heap.size w w'))
 case atStart => exact ⟨(y420), (0), ax31, H', ⟨Nat.le_refl _⟩, ⟨(by (with_reducible repeat (first | apply Kd.R_alloc | apply Kd.R_drewN | apply Kd.R_drew)); exact Kd.R_mono HO418.out (fun _ hk => hk.2))⟩, ⟨(by (with_reducible repeat (first | apply Kd.R_alloc | apply Kd.R_drewN | apply Kd.R_drew)); exact Kd.R_mono HO422.out (fun _ hk => hk.2))⟩, ⟨ax178⟩, ⟨ax176⟩⟩
 case round =>
  clear H'; (try clear hcz4_0);(try clear hfz4_0);(try clear hcz8_0);(try clear hfz8_0); obtain ⟨x5_1, x17_1, rfl, HA, HK1, HO_3, HO_5, BK415, HB⟩ := hrel
  cases gk with
  | zero => exact absurd HA.out (by simp [impl_Trie_words.l0])
  | succ k1 =>
   have H := HA.out; clear HA; simp only [impl_Trie_words.l0] at H
   by_cases c9 : x17_1 < (l0_0.length : Int)
   ·rw [if_pos c9] at H
    have c9b0 := decide_eq_true c9; clear c9
    by_cases c10 : 0 ≤ x17_1
    ·rw [if_pos c10] at H
     have c10b0 := decide_eq_true c10; clear c10
     by_cases c11 : x17_1 < (l0_0.length : Int)
     ·rw [if_pos c11] at H
      have c11b0 := decide_eq_true c11; clear c11; obtain ⟨bq12, hbq12⟩ : ∃ b_ : Bool, b_ = ((rd_T74 l0_0 x17_1).f2) := ⟨_, rfl⟩
      replace H : (if bq12 = true then (if x17_1 < (t416.length : Int) then (if x5_1.length < 8796093022208 then (impl_Trie_words.l0 k1 t416 (x5_1 ++ [rdOf ByteArray.empty t416 x17_1]) l0_0 (l0_0.length : Int) (wrap64 (x17_1 + 1))) else (none)) else (none)) else (impl_Trie_words.l0 k1 t416 x5_1 l0_0 (l0_0.length : Int) (wrap64 (x17_1 + 1)))) = some r := by rw [← hbq12] at H; exact H
      have Nbq12 := am hbq12; clear hbq12
      by_cases c13 : bq12 = true
      ·subst c13
       rw [if_pos rfl] at H
       by_cases c14 : x17_1 < (t416.length : Int)
       ·rw [if_pos c14] at H
        have c14b0 := decide_eq_true c14; clear c14
        by_cases c15 : x5_1.length < 8796093022208
        ·rw [if_pos c15] at H
         have LMc15 := am c15; clear c15; obtain ⟨y426, hy426⟩ : ∃ y_ : List ByteArray, y_ = (x5_1 ++ [rdOf ByteArray.empty t416 x17_1]) := ⟨_, rfl⟩
         replace H : (impl_Trie_words.l0 k1 t416 y426 l0_0 (l0_0.length : Int) (wrap64 (x17_1 + 1))) = some r := by first | (rw [hy426]; with_reducible exact H) | (have H2_ := (Option.bind_some _ _).symm.trans H; rw [hy426]; with_reducible exact H2_) | (have H2_ := (Option.bind_some _ _).symm.trans H; with_reducible exact H2_) | with_reducible exact H | (rw [hy426]; exact H) | exact H
         have Ny426 := am hy426; clear hy426; have H' := am H; clear H; have p423 : 0 ≤ (x17_1 : Int) := of_decide_eq_true ax26; have q423 : x17_1 < (l0_0.length : Int) := of_decide_eq_true ax26; obtain ⟨ad423, e423, hx423_0, hx423_1, hx423_2⟩ := at_T74 HR0_0.out x17_1 p423 q423; (try rw [← Nbq12.out] at hx423_2)
         cases e423
         replace hx423_0 := (HB.out.cell (World.block_lt_of_cell? w _ hx423_0)).trans hx423_0; replace hx423_1 := (HB.out.cell (World.block_lt_of_cell? w _ hx423_1)).trans hx423_1; replace hx423_2 := (HB.out.cell (World.block_lt_of_cell? w _ hx423_2)).trans hx423_2; replace p423 := eq_true p423; replace q423 := eq_true q423
         go_wp2_with (first | ((with_reducible refine gate_dst (N := 7) rfl ?_); refine bx 7 #[.int .i64 0, .int .i64 0, .bool false] 74 ?_; intro gb424 hg w16 hbox hb; replace HO_3 := uR HO_3 hb; replace HO_5 := uR HO_5 hb; have BK424 := am (hbox); have GW424 := am ((ax179 : w.heap.size ≤ gb424)); have GE424 := am ((ax179 : w.heap.size ≤ gb424)); replace HB := am (below_step ax176 hb); have NB415_424 := uN hg BK415; have NB424_415 := uM hg BK415; replace BK415 := ub BK415 hb; clear hb hbox hg; have hnb17 := NB424_415.out; have hnc17 := NB415_424.out; have hcz18_0 := bc (.int .i64 0) BK424 0; have hcz18_1 := bc (.int .i64 0) BK424 1; have hcz18_2 := bc (.bool false) BK424 2; have hfz18_0 := blk_frozen BK424.out 0; have hfz18_1 := blk_frozen BK424.out 1; have hfz18_2 := blk_frozen BK424.out 2; obtain ⟨Ao19, co19, eo19⟩ := Kd.R_slice HO_3.out; subst eo19; have p425 : 0 ≤ (x17_1 : Int) := of_decide_eq_true ax26; have q425 : x17_1 < (t416.length : Int) := of_decide_eq_true ax26; obtain ⟨ad425, e425, hx425_0⟩ := Kd.at_string (Kd.R_reads' HO_3.out).2.2 x17_1 p425 q425; cases e425; have hn425_0 : ad425.block ≠ gb424 := Kd.own_blk (Kd.R_ne HO_3.out BK424.out (by decide)); have hn425_1 : ad425.block ≠ gb424 := Kd.own_blk (Kd.R_ne HO_3.out BK424.out (by decide)); have hn425_2 : ad425.block ≠ gb424 := Kd.own_blk (Kd.R_ne HO_3.out BK424.out (by decide)); replace hx425_0 := (cell_far (p := ⟨gb424, 0, none⟩) (by first | (rw [add_block]; exact hn425_0) | (show (Addr.add _ _).block ≠ _; rw [add_block]; exact hn425_0) | exact hn425_0) (.int .i64 ((rd_T74 l0_0 x17_1).f0))).trans hx425_0; replace hx425_0 := (cell_far (p := ⟨gb424, 1, none⟩) (by first | (rw [add_block]; exact hn425_1) | (show (Addr.add _ _).block ≠ _; rw [add_block]; exact hn425_1) | exact hn425_1) (.int .i64 ((rd_T74 l0_0 x17_1).f1))).trans hx425_0; replace hx425_0 := (cell_far (p := ⟨gb424, 2, none⟩) (by first | (rw [add_block]; exact hn425_2) | (show (Addr.add _ _).block ≠ _; rw [add_block]; exact hn425_2) | exact hn425_2) (.bool true)).trans hx425_0; clear hn425_0; clear hn425_1; clear hn425_2; replace p425 := eq_true p425; replace q425 := eq_true q425) | ((with_reducible refine gate_builtin (b := .append) (xs := #[.tmp 24, .tmp 29]) rfl ?_); at_builtin; refine Kd.R_append Kd.string (w0 := w) w.heap.size rfl (.tmp 24) (.tmp 29) 31 9 (.string ⟨#[]⟩) 16 rfl Tryz.underlying31 info9 rfl (by decide) (by omega) u5 x5_1 (rdOf ByteArray.empty t416 x17_1) [.string (rdOf ByteArray.empty t416 x17_1)] (fun k_ => some k_ ≠ (.slice (some ad425) t416.length co19 : Value).ownBlock) (fun _ => False) rfl ax33 ?aP (fun _ hk => hk.elim) ?aF ?aO ?aB ?aS ?aL ?_; (case aP => exact rfl); (case aB => exact ax180); (case aF => exact (fun k_ hk => Kd.fresh' (Kd.R_lt (by (with_reducible repeat (first | apply Kd.R_alloc | apply Kd.R_drewN | apply Kd.R_drew)); exact (Kd.R_mono (Kd.R_far (p := ⟨gb424, 2, none⟩) (Kd.R_far (p := ⟨gb424, 1, none⟩) (Kd.R_far (p := ⟨gb424, 0, none⟩) (Kd.R_types HO_3.out BK424.out (by decide)) (fun _ hk => hk.2) (.int .i64 ((rd_T74 l0_0 x17_1).f0))) (fun _ hk => hk.2) (.int .i64 ((rd_T74 l0_0 x17_1).f1))) (fun _ hk => hk.2) (.bool true)) (fun _ h_ => h_.1)))) k_ hk)); (case aO => exact (by (with_reducible repeat (first | apply Kd.R_alloc | apply Kd.R_drewN | apply Kd.R_drew)); exact Kd.R_mono (Kd.R_far (p := ⟨gb424, 2, none⟩) (Kd.R_far (p := ⟨gb424, 1, none⟩) (Kd.R_far (p := ⟨gb424, 0, none⟩) (Kd.R_types HO_5.out BK424.out (by decide)) (fun _ hk => hk.2) (.int .i64 ((rd_T74 l0_0 x17_1).f0))) (fun _ hk => hk.2) (.int .i64 ((rd_T74 l0_0 x17_1).f1))) (fun _ hk => hk.2) (.bool true)) (fun _ hk => hk.1))); (case aS => exact (below_size ax180)); (case aL => have := LMc15.out; omega); intro v427 w20 ho hb hg hat; rw [← Ny426.out] at ho; have n0_ := am (Kd.R_after (ok := (fun _ => True)) (by (with_reducible repeat (first | apply Kd.R_alloc | apply Kd.R_drewN | apply Kd.R_drew)); exact Kd.R_mono (Kd.R_far (p := ⟨gb424, 2, none⟩) (Kd.R_far (p := ⟨gb424, 1, none⟩) (Kd.R_far (p := ⟨gb424, 0, none⟩) (Kd.R_types HO_3.out BK424.out (by decide)) (fun _ hk => hk.2) (.int .i64 ((rd_T74 l0_0 x17_1).f0))) (fun _ hk => hk.2) (.int .i64 ((rd_T74 l0_0 x17_1).f1))) (fun _ hk => hk.2) (.bool true)) (fun _ hk => ⟨trivial, hk.1⟩)) hg hat); have n1_ := am (blk_grown (g := gb415) (o := .cells #[.slice (some ad423) l0_0.length c0_0] 26 (0, 0)) ax181 hg (Kd.R_ne HO_5.out BK415.out (by decide))); have n2_ := am (blk_grown (g := gb424) (o := .cells #[.int .i64 ((rd_T74 l0_0 x17_1).f0), .int .i64 ((rd_T74 l0_0 x17_1).f1), .bool true] 74 (0, 0)) (by (with_reducible repeat (first | refine blk_drewN ?_ _ | refine blk_drew ?_ | refine blk_alloc ?_ _)); refine blk_put (cs := #[.int .i64 ((rd_T74 l0_0 x17_1).f0), .int .i64 ((rd_T74 l0_0 x17_1).f1), .bool false]) ?_ 2 _ rfl; (with_reducible repeat (first | refine blk_drewN ?_ _ | refine blk_drew ?_ | refine blk_alloc ?_ _)); refine blk_put (cs := #[.int .i64 ((rd_T74 l0_0 x17_1).f0), .int .i64 0, .bool false]) ?_ 1 _ rfl; (with_reducible repeat (first | refine blk_drewN ?_ _ | refine blk_drew ?_ | refine blk_alloc ?_ _)); refine blk_put (cs := #[.int .i64 0, .int .i64 0, .bool false]) ?_ 0 _ rfl; (with_reducible repeat (first | refine blk_drewN ?_ _ | refine blk_drew ?_ | refine blk_alloc ?_ _)); exact BK424.out) hg (Kd.R_ne HO_5.out BK424.out (by decide))); have n3_ := am (hb); have n4_ := am (ho); clear HO_3; clear BK415; clear BK424; clear HB; clear HO_5; have HO_3 := n0_; have BK415 := n1_; have BK424 := n2_; have HB := n3_; have HO428 := n4_; clear n0_ n1_ n2_ n3_ n4_; clear ho hb hg hat))
         go_roundg k1
         case measure => have := HK1.out; omega
         case rel => exact ⟨(y426), (wrap64 (x17_1 + 1)), ax31, H', ⟨by have := HK1.out; omega⟩, ⟨ax97⟩, ⟨(by (with_reducible repeat (first | apply Kd.R_alloc | apply Kd.R_drewN | apply Kd.R_drew)); exact HO428.out)⟩, ⟨ax178⟩, ⟨ax180⟩⟩
        ·exact ax18
       ·exact ax7
      ·replace c13 := Bool.eq_false_iff.mpr c13
       subst c13; rw [if_neg (show ¬ (false = true) by decide)] at H; have H' := am H; clear H; have p423 : 0 ≤ (x17_1 : Int) := of_decide_eq_true ax26; have q423 : x17_1 < (l0_0.length : Int) := of_decide_eq_true ax26; obtain ⟨ad423, e423, hx423_0, hx423_1, hx423_2⟩ := at_T74 HR0_0.out x17_1 p423 q423; (try rw [← Nbq12.out] at hx423_2)
       cases e423
       replace hx423_0 := (HB.out.cell (World.block_lt_of_cell? w _ hx423_0)).trans hx423_0; replace hx423_1 := (HB.out.cell (World.block_lt_of_cell? w _ hx423_1)).trans hx423_1; replace hx423_2 := (HB.out.cell (World.block_lt_of_cell? w _ hx423_2)).trans hx423_2; replace p423 := eq_true p423; replace q423 := eq_true q423
       go_wp2_with (first | ((with_reducible refine gate_dst (N := 7) rfl ?_); refine bx 7 #[.int .i64 0, .int .i64 0, .bool false] 74 ?_; intro gb424 hg w21 hbox hb; replace HO_3 := uR HO_3 hb; replace HO_5 := uR HO_5 hb; have BK424 := am (hbox); have GW424 := am ((ax179 : w.heap.size ≤ gb424)); have GE424 := am ((ax179 : w.heap.size ≤ gb424)); replace HB := am (below_step ax176 hb); have NB415_424 := uN hg BK415; have NB424_415 := uM hg BK415; replace BK415 := ub BK415 hb; clear hb hbox hg; have hnb22 := NB424_415.out; have hnc22 := NB415_424.out; have hcz23_0 := bc (.int .i64 0) BK424 0; have hcz23_1 := bc (.int .i64 0) BK424 1; have hcz23_2 := bc (.bool false) BK424 2; have hfz23_0 := blk_frozen BK424.out 0; have hfz23_1 := blk_frozen BK424.out 1; have hfz23_2 := blk_frozen BK424.out 2))
       go_roundg k1
       case measure => have := HK1.out; omega
       case rel => exact ⟨(x5_1), (wrap64 (x17_1 + 1)), ax31, H', ⟨by have := HK1.out; omega⟩, ⟨(by (with_reducible repeat (first | apply Kd.R_alloc | apply Kd.R_drewN | apply Kd.R_drew)); exact Kd.R_mono (Kd.R_far (p := ⟨gb424, 2, none⟩) (Kd.R_far (p := ⟨gb424, 1, none⟩) (Kd.R_far (p := ⟨gb424, 0, none⟩) (Kd.R_types HO_3.out BK424.out (by decide)) (fun _ hk => hk.2) (.int .i64 ((rd_T74 l0_0 x17_1).f0))) (fun _ hk => hk.2) (.int .i64 ((rd_T74 l0_0 x17_1).f1))) (fun _ hk => hk.2) (.bool false)) (fun _ hk => hk.1))⟩, ⟨(by (with_reducible repeat (first | apply Kd.R_alloc | apply Kd.R_drewN | apply Kd.R_drew)); exact Kd.R_mono (Kd.R_far (p := ⟨gb424, 2, none⟩) (Kd.R_far (p := ⟨gb424, 1, none⟩) (Kd.R_far (p := ⟨gb424, 0, none⟩) (Kd.R_types HO_5.out BK424.out (by decide)) (fun _ hk => hk.2) (.int .i64 ((rd_T74 l0_0 x17_1).f0))) (fun _ hk => hk.2) (.int .i64 ((rd_T74 l0_0 x17_1).f1))) (fun _ hk => hk.2) (.bool false)) (fun _ hk => hk.1))⟩, ⟨ax181⟩, ⟨ax180⟩⟩
     ·exact ax8
    ·exact ax16
   ·rw [if_neg c9] at H
    have c9b0 := decide_eq_false c9; clear c9; obtain rfl := Option.some.inj H
    go_wp2
    go_ret
    exact ⟨_, ax27, ax182, ax176⟩

/-! ### slices_IndexFunc_string_string: function 205: a contract of our own -/
abbrev slices_IndexFunc_string_string.f (a0 : List ByteArray) (F : ByteArray → Option Bool) : Option Int := G.idxM F a0
set_option maxHeartbeats 2000000 in
theorem slices_IndexFunc_string_string.calls (A : Option Addr) (c : Nat) (l : List ByteArray) (F : ByteArray → Option Bool) (r : Int) (w : World) (hr : Kd.C Kd.string w A l.length l) (hc : l.length ≤ c)
  {g : Nat} {lb : Array Value} (eg : ∀ args w, (callFunc g args).run Tryz.prog w = .ok (.enter g args) w) (hp : G.PredM Tryz.prog g lb Value.string F l w) (h : slices_IndexFunc_string_string.f l F = some r) :
  Calls Tryz.prog 205 #[.slice A l.length c, .func (.func g) #[] lb] w fun e w' => e = .returned (.int .i64 r) ∧ Below w.heap.size w w' := by
 have hlen := hr.2.1
 have hall := fun i x hx hj => G.idxM_all h i x hx hj
 have hnone := G.idxM_none h; clear h; have HALL := am hall; have HNONE := am hnone; clear hall hnone
 go_enter Tryz.func205, Tryz.ntmps205
 go_wp2
 go_loopg [5, 8] l.length (fun gg _ s8 wr => ∃ kk : Nat, kk ≤ l.length ∧ l.length - kk ≤ gg ∧ s8 = .int .i64 kk ∧ Aside0 (Below w.heap.size w wr) ∧ Aside0 (∀ (j : Nat) y, j < kk → l[j]? = some y → F y = some false))
 case atStart => exact ⟨0, Nat.zero_le _, by omega, rfl, ⟨Below.refl _ _⟩, ⟨fun j y hj => absurd hj (Nat.not_lt_zero _)⟩⟩
 case round =>
  obtain ⟨kk, hkk, hg, rfl, HB, HA⟩ := hrel
  by_cases hlt : kk < l.length
  ·have hltz : (kk : Int) < (l.length : Int) := by omega
   obtain ⟨ad, rfl, hcell⟩ := Kd.at_string (Kd.C_below hr HB.out) (kk : Int) (by omega) (by omega)
   have hx : l[kk]? = some (rdOf ByteArray.empty l kk) := by simp [rd, rdOf, List.getD, List.getElem?_eq_getElem hlt]
   obtain ⟨q, hq, hqr⟩ := HALL.out kk _ hx HA.out; have hcall := hp _ (List.mem_of_getElem? hx) wr HB.out q hq; generalize rdOf ByteArray.empty l kk = y at hcell hx hcall hq; simp only [Int.toNat_natCast] at hcell; have HX := am hx; have HQR := am hqr; have HQ := am hq; clear hx hp hr hq hqr
   cases q with
   | true =>
    have hrk := HQR.out rfl; have HRK := am hrk; clear hrk
    go_wp2_with (go_at_fn g; refine hcall.mono ?_; rintro e w' ⟨rfl, hb⟩)
    go_ret
    exact ⟨by rw [HRK.out]; rfl, HB.out.trans (hb.mono HB.out.size)⟩
   | false =>
    go_wp2_with (go_at_fn g; refine hcall.mono ?_; rintro e w' ⟨rfl, hb⟩)
    go_roundg (l.length - (kk + 1))
    case measure => omega
    case rel =>
     refine ⟨kk + 1, by omega, by omega, by go_num, ⟨HB.out.trans (hb.mono HB.out.size)⟩, ⟨fun j z hj hz => ?_⟩⟩
     by_cases e : j = kk
     ·subst e; rw [HX.out] at hz; cases hz; exact HQ.out
     ·exact HA.out j z (by omega) hz
  ·have hltz : ¬ (kk : Int) < (l.length : Int) := by omega
   have hend : r = -1 := HNONE.out (fun i x hx => HA.out i x (by have := (List.getElem?_eq_some_iff.1 hx).1; omega) hx); have HE := am hend; clear hend hp hr
   go_wp2
   go_ret
   exact ⟨by rw [HE.out]; rfl, HB.out⟩

/-! ### slices_ContainsFunc_string_string: function 140: a contract of our own -/
abbrev slices_ContainsFunc_string_string.f (a0 : List ByteArray) (F : ByteArray → Option Bool) : Option Bool := G.anyM F a0
set_option maxHeartbeats 1000000 in
theorem slices_ContainsFunc_string_string.calls (A : Option Addr) (c : Nat) (l : List ByteArray) (F : ByteArray → Option Bool) (r : Bool) (w : World) (hr : Kd.C Kd.string w A l.length l) (hc : l.length ≤ c)
  {g : Nat} {lb : Array Value} (eg : ∀ args w, (callFunc g args).run Tryz.prog w = .ok (.enter g args) w) (hp : G.PredM Tryz.prog g lb Value.string F l w) (h : slices_ContainsFunc_string_string.f l F = some r) :
  Calls Tryz.prog 140 #[.slice A l.length c, .func (.func g) #[] lb] w fun e w' => e = .returned (.bool r) ∧ Below w.heap.size w w' := by
 obtain ⟨i, hi⟩ := G.idx_of_anyM h; have hri : r = decide (i ≥ 0) := Option.some.inj (h.symm.trans (G.anyM_of_idx hi).2); have HR := am hri; have HC := am (And.intro hr (And.intro hc (And.intro hp hi))); clear hr hc hp h hri hi
 go_enter Tryz.func140, Tryz.ntmps140
 go_wp2_with (go_at_call 205; refine (slices_IndexFunc_string_string.calls A c l F i _ HC.out.1 HC.out.2.1 eg HC.out.2.2.1 HC.out.2.2.2).mono ?_; rintro e w' ⟨rfl, hb⟩)
 go_ret
 exact ⟨by rw [HR.out]; rfl, hb⟩

end Go.Proofs.YtcplbbflfgckbaaGreatDoor.X


-- By gen.py (the session's own program over the kit's printer): functions of the program, each with its contract. Lean checks it.
import Derived.Test.YtcplbbflfgckbaaGreatDoorX5
import Derived.Test.YtcplbbflfgckbaaGreatDoorX9
import Derived.Test.YtcplbbflfgckbaaGreatDoorX12
import Derived.Test.YtcplbbflfgckbaaGreatDoorX15
import Derived.Test.YtcplbbflfgckbaaGreatDoorX20
namespace Go.Proofs.YtcplbbflfgckbaaGreatDoor.X
open Go.RowKit Go.Proofs.YtcplbbflfgckbaaGreatDoorW.PrintWords Go.Proofs.YtcplbbflfgckbaaGreatDoorW.PrintLast Go.Proofs.YtcplbbflfgckbaaGreatDoorW.PrintMore
attribute [local go_sem] max2_int min2_int max_two min_two max_three min_three max_four min_four   -- for this text's walks alone
set_option linter.unusedVariables false
set_option linter.unusedSimpArgs false
set_option maxHeartbeats 8000000
set_option maxRecDepth 100000

/-! ### spec_DrawHasWord: function 148 -/
def spec_DrawHasWord.f (k : Nat) (l0 : List Int) : Option ((List (S74)) × ByteArray) := (spec_l1Cur_trie.f k l0 0 0).bind fun bt567 => ((spec_l1Cur_wordOf.f k l0 bt567.2.1 bt567.2.2 bt567.1).bind fun bt573 => (some (bt567.1, bt573.1)))
theorem spec_DrawHasWord.calls (k : Nat) (A0 : Option Addr) (c0 : Nat) (l0 : List Int) (r1 : List (S74)) (r2 : ByteArray) (w : World) (hr0 : Kd.C (Kd.int .u8) w A0 l0.length l0) (hc0 : l0.length ≤ c0) (h : spec_DrawHasWord.f k l0 = some (r1, r2)) :
  Calls Tryz.prog 148 #[.slice A0 l0.length c0] w fun e w' => ∃ v0_ : Value, e = .returned (.tuple #[.agg #[v0_], .string r2]) ∧ Kd.R k74 74 w' w.heap.size (fun _ => True) v0_ r1 ∧ Below w.heap.size w w' := by
 have hu26 := Tryz.underlying26; have hu82 := Tryz.underlying82; have HR0 := am hr0; have HC0 := am hc0; clear hr0 hc0; have HB := am (Below.refl w.heap.size w)
 unfold spec_DrawHasWord.f at h
 have H := h; clear h; obtain ⟨⟨t567, t570, t571⟩, A2, H⟩ := bs H; obtain ⟨⟨t573, t574, t575⟩, A3, H⟩ := bs H; simp only [Option.some.injEq, Prod.mk.injEq] at H; obtain ⟨rfl, rfl⟩ := H
 go_enter Tryz.func148, Tryz.ntmps148
 try go_wp2_with (first | ((with_reducible refine gt 2 ?_); refine bx 2 #[.slice none 0 0] 26 ?_; intro gb565 hg w4 hbox hb; have BK565 := am (hbox); have GW565 := uG hg HB; have GE565 := uG hg HB; replace HB := uB HB hb; clear hb hbox hg) | ((with_reducible refine gt 8 ?_); refine bx 8 #[.slice A0 l0.length c0, .int .i64 0, .int .u64 0] 82 ?_; intro gb566 hg w5 hbox hb; have BK566 := am (hbox); have GW566 := uH hg HB; have GE566 := uH hg HB; obtain ⟨NB565_566, NB566_565, BK565⟩ := uA hg hb BK565; have HI566 := am ((⟨_, _, hbox, ax36, HR0.out⟩ : IsS82 w w5 gb566 l0 0 0)); replace HB := uS HB hb; clear hb hbox hg) | ((with_reducible refine gd 10 108 ?_); refine gc 10 Tryz.func108 #[.pointer (some ⟨gb566, 0, none⟩)] (spec_l1Cur_trie.calls k gb566 l0 0 0 t567 t570 t571 w _ ax123 ax124 A2.out) ?_; rintro e w6 ⟨v568, rfl, ho0, hi, hb, hk⟩; refine ⟨_, rfl, ?_⟩; replace BK565 := kB hk BK565 NB565_566; have HO569 := am (Kd.R_lower ho0 (below_size ax124)); replace HB := am (hb); replace HI566 := am (hi); (try clear hb hk hi ho0)) | ((with_reducible refine gt 5 ?_); refine bx 5 #[.slice none 0 0] 26 ?_; intro gb572 hg w7 hbox hb; replace HO569 := uR HO569 hb; have BK572 := am (hbox); have GW572 := am ((ax125 : w.heap.size ≤ gb572)); have GE572 := am ((ax125 : w.heap.size ≤ gb572)); replace HB := am (below_step ax124 hb); obtain ⟨NB565_572, NB572_565, BK565⟩ := uA hg hb BK565; have NB566_572 := am ((by rw [hg]; exact Nat.ne_of_lt (IsS82.lt (show IsS82 w _ gb566 l0 t570 t571 from ax123)) : gb566 ≠ gb572)); have NB572_566 := am ((by rw [hg]; exact Nat.ne_of_gt (IsS82.lt (show IsS82 w _ gb566 l0 t570 t571 from ax123)) : gb572 ≠ gb566)); replace HI566 := am (IsS82.below ax123 hb); clear hb hbox hg; obtain ⟨Ao8, co8, rfl⟩ := Kd.R_slice HO569.out; obtain ⟨hnb9, hnc9⟩ := nk NB572_565; obtain ⟨hnb10, hnc10⟩ := nk NB572_566; obtain ⟨hcz11_0, hfz11_0⟩ := bz (.slice none 0 0) BK572))
 have n0_ : Aside0 (Kd.R k74 74 (w7.setCell ⟨gb572, 0, none⟩ (.slice Ao8 t567.length co8)) w.heap.size (fun _ => True) (.slice Ao8 t567.length co8) t567) := ⟨aU⟩; have n1_ : Aside0 ((w7.setCell ⟨gb572, 0, none⟩ (.slice Ao8 t567.length co8)).heap[gb565]? = some (.cells #[.slice none 0 0] 26 (0, 0))) := ⟨aU⟩; have n2_ : Aside0 ((w7.setCell ⟨gb572, 0, none⟩ (.slice Ao8 t567.length co8)).heap[gb572]? = some (.cells #[.slice Ao8 t567.length co8] 26 (0, 0))) := ⟨aU⟩; have n3_ : Aside0 (IsS82 w (w7.setCell ⟨gb572, 0, none⟩ (.slice Ao8 t567.length co8)) gb566 l0 t570 t571) := ⟨ax126⟩; have n4_ : Aside0 (Below w.heap.size w (w7.setCell ⟨gb572, 0, none⟩ (.slice Ao8 t567.length co8))) := ⟨ax127⟩; (try clear HO569); (try clear BK565); (try clear BK572); (try clear HI566); (try clear HB); generalize (w7.setCell ⟨gb572, 0, none⟩ (.slice Ao8 t567.length co8)) = w12 at n0_ n1_ n2_ n3_ n4_ ⊢; have HO569 := n0_; have BK565 := n1_; have BK572 := n2_; have HI566 := n3_; have HB := n4_; clear n0_ n1_ n2_ n3_ n4_; replace HO569 := am (Kd.R_drew HO569.out); replace BK565 := am (blk_drew BK565.out); replace BK572 := am (blk_drew BK572.out); replace HI566 := am (IsS82.drew HI566.out); replace HB := am (below_drew1 HB.out); refine start_ (n := 6) (S := fun w' => w'.cell? ⟨gb572, 0, none⟩ = some (.slice Ao8 t567.length co8)) (ds := []) (ob 6 0) (by kernel_rfl) rfl rfl ((blk_cell BK572.out 0).trans rfl) (fun hHeld => ?_); generalize w12.drew = w13 at HO569 BK565 BK572 HI566 HB hHeld ⊢; refine pure_ (i := 1) (N := some 12) (v := ?_) (a' := ?_) (ob 6 2) rfl rfl (by kernel_rfl) (fun _ _ _ h => h) (Or.inl ⟨by rfl, ?_⟩) ?_ ?_
 rotate_left
 ·intro w'
  go_simp
  with_reducible rfl
 rotate_left
 ·exact ax11
 refine take_ (i := 0) (N := some 11) (v := ?_) (a' := ?_) (ob 6 3) rfl rfl (by kernel_rfl) (fun _ _ _ h => h) (Or.inl ⟨by rfl, ?_⟩) hHeld ?_ ?_; rotate_left; exact ax10; rotate_left; exact ax11
 refine take_ (i := 2) (N := some 13) (v := ?_) (a' := ?_) (ob 6 7) rfl rfl (by kernel_rfl) (fun _ _ _ h => h) (Or.inl ⟨by rfl, ?_⟩) hHeld ?_ ?_; rotate_left; exact ax10; rotate_left; exact ax11
 refine one_ (i := 3) (N := some 14) (ob 6 15) rfl rfl (by kernel_rfl) (by decide) (fun K hK => ?_); refine goes_ Tryz.func109 (by kernel_rfl) rfl #[.pointer (some ⟨gb566, 0, none⟩), .agg #[.slice Ao8 t567.length co8]] (by rfl) rfl rfl ax26 ?_
 with_reducible refine (spec_l1Cur_wordOf.calls k gb566 l0 t570 t571 _ _ t567 t573 t574 t575 w _ ?side1 ?side2 ?side3 ?side4 A3.out).mono ?_
 (case side1 => exact ax126)
 (case side2 => repeat (first | (with_reducible first | exact HB.out | apply below_alloc | apply pw_below_drewN | apply below_drew1 | refine below_set ?_ (IsS82.ge HI566.out) | refine below_set ?_ GE565.out | refine below_set ?_ GE572.out) | exact HB.out))
 (case side3 => exact Kd.C_foot_own (IsS82.apart (show IsS82 w _ gb566 l0 t570 t571 from ax126) (rX HO569) (by decide)) (fun _ h_ => h_.2))
 (case side4 => exact (Kd.R_reads' HO569.out).2.1)
 rintro e w14 ⟨rfl, hi, hb, hk⟩; refine ⟨_, rfl, ?_⟩; replace BK565 := kB hk BK565 NB565_566; replace HO569 := rK (IsS82.apart (show IsS82 w _ gb566 l0 t570 t571 from ax126) (rX HO569) (by decide)) hk; replace BK572 := kB hk BK572 NB572_566; replace HB := am (hb); replace HI566 := am (hi); (try clear hb); (try clear hb2); (try clear hk); (try clear hi); refine hK.out _ _ ((blk_cell BK572.out 0).trans rfl) (fun hHeld => ?_); clear hK K; refine nm 14 ?_; refine one_ (i := 4) (N := none) (ob 6 31) rfl rfl (by kernel_rfl) (by decide) (fun K hK => ?_); have hs15 : w14.cell? ⟨gb565, 0, none⟩ = some (.slice none 0 0) := (blk_cell BK565.out 0).trans rfl; have hfs15 := blk_frozen BK565.out 0; have hns15_1 := NB572_565.out; have hms15_1 := NB565_572.out; refine skip_ (w1 := ?_) (by rfl) rfl ?_ ?_
 rotate_left
 ·go_simp
  rfl
 refine hK.out _ _ (((cell_far (p := ⟨gb565, _, none⟩) NB572_565.out _).trans (hHeld))) (fun hHeld => ?_); clear hK K; refine pure_ (i := 5) (N := some 3) (v := ?_) (a' := ?_) (ob 6 63) rfl rfl (by kernel_rfl) (fun _ _ _ h => h) (Or.inl ⟨by rfl, ?_⟩) ?_ ?_
 rotate_left
 ·intro w'
  go_simp
  with_reducible rfl
 rotate_left
 ·exact ax11
 refine done_ (by kernel_rfl) ?_
 try go_wp2
 refine bodyPost_ret (results_ct rfl _ _ gb565 26 #[.slice Ao8 t567.length co8] (0, 0) _ rfl (by (with_reducible repeat (first | refine blk_drewN ?_ _ | refine blk_drew ?_ | refine blk_alloc ?_ _)); refine blk_put (cs := #[.slice none 0 0]) ?_ 0 _ rfl; (with_reducible repeat (first | refine blk_drewN ?_ _ | refine blk_drew ?_ | refine blk_alloc ?_ _)); exact BK565.out) Tryz.underlying26 rfl (by kernel_rfl)) rfl ?_
 exact ⟨_, ax21, aU, ax127⟩

/-! ### spec_DrawAddWord: function 55 -/
def spec_DrawAddWord.f (k : Nat) (l0 : List Int) : Option ((List (S74)) × ByteArray) := (spec_l1Cur_one.f l0 0 0 24).bind fun bt578 => (if bt578.1 = true then ((spec_l1Cur_full.f k l0 bt578.2.1 bt578.2.2).bind fun bt581 => ((spec_l1Cur_word.f k l0 bt581.2.1 bt581.2.2).bind fun bt586 => (some (bt581.1, bt586.1)))) else ((spec_DrawHasWord.f k l0).bind fun bt589 => (some (bt589.1, bt589.2))))
theorem spec_DrawAddWord.calls (k : Nat) (A0 : Option Addr) (c0 : Nat) (l0 : List Int) (r1 : List (S74)) (r2 : ByteArray) (w : World) (hr0 : Kd.C (Kd.int .u8) w A0 l0.length l0) (hc0 : l0.length ≤ c0) (h : spec_DrawAddWord.f k l0 = some (r1, r2)) :
  Calls Tryz.prog 55 #[.slice A0 l0.length c0] w fun e w' => ∃ v0_ : Value, e = .returned (.tuple #[.agg #[v0_], .string r2]) ∧ Kd.R k74 74 w' w.heap.size (fun _ => True) v0_ r1 ∧ Below w.heap.size w w' := by
 have hu26 := Tryz.underlying26; have hu82 := Tryz.underlying82; have HR0 := am hr0; have HC0 := am hc0; clear hr0 hc0; have HB := am (Below.refl w.heap.size w)
 unfold spec_DrawAddWord.f at h
 have H := h; clear h; obtain ⟨⟨t578, t579, t580⟩, A2, H⟩ := bs H
 by_cases c3 : t578 = true
 ·subst c3
  rw [if_pos rfl] at H; obtain ⟨⟨t581, t584, t585⟩, A4, H⟩ := bs H; obtain ⟨⟨t586, t587, t588⟩, A5, H⟩ := bs H; simp only [Option.some.injEq, Prod.mk.injEq] at H; obtain ⟨rfl, rfl⟩ := H
  go_enter Tryz.func55, Tryz.ntmps55
  go_wp2_with (first | ((with_reducible refine gt 2 ?_); refine bx 2 #[.slice none 0 0] 26 ?_; intro gb576 hg w6 hbox hb; have BK576 := am (hbox); have GW576 := uG hg HB; have GE576 := uG hg HB; replace HB := uB HB hb; clear hb hbox hg) | ((with_reducible refine gt 7 ?_); refine bx 7 #[.slice A0 l0.length c0, .int .i64 0, .int .u64 0] 82 ?_; intro gb577 hg w7 hbox hb; have BK577 := am (hbox); have GW577 := uH hg HB; have GE577 := uH hg HB; obtain ⟨NB576_577, NB577_576, BK576⟩ := uA hg hb BK576; have HI577 := am ((⟨_, _, hbox, ax36, HR0.out⟩ : IsS82 w w7 gb577 l0 0 0)); replace HB := uS HB hb; clear hb hbox hg) | ((with_reducible refine gd 9 122 ?_); refine gc 9 Tryz.func122 #[.pointer (some ⟨gb577, 0, none⟩), .int .i64 24] (spec_l1Cur_one.calls gb577 l0 0 0 24 true t579 t580 w _ ax128 ax129 A2.out) ?_; rintro e w8 ⟨rfl, hi, hb, hk⟩; refine ⟨_, rfl, ?_⟩; replace BK576 := kB hk BK576 NB576_577; replace HB := am (hb); replace HI577 := am (hi); (try clear hb hk hi)) | ((with_reducible refine gd 11 146 ?_); refine gc 11 Tryz.func146 #[.pointer (some ⟨gb577, 0, none⟩)] (spec_l1Cur_full.calls k gb577 l0 t579 t580 t581 t584 t585 w _ ax128 ax129 A4.out) ?_; rintro e w9 ⟨v582, rfl, ho0, hi, hb, hk⟩; refine ⟨_, rfl, ?_⟩; replace BK576 := kB hk BK576 NB576_577; have HO583 := am (Kd.R_lower ho0 (below_size ax129)); replace HB := am (hb); replace HI577 := am (hi); (try clear hb hk hi ho0)) | ((with_reducible refine gd 13 147 ?_); refine gc 13 Tryz.func147 #[.pointer (some ⟨gb577, 0, none⟩)] (spec_l1Cur_word.calls k gb577 l0 t584 t585 t586 t587 t588 w _ ax128 ax129 A5.out) ?_; rintro e w10 ⟨rfl, hi, hb, hk⟩; refine ⟨_, rfl, ?_⟩; replace BK576 := kB hk BK576 NB576_577; replace HO583 := rK (IsS82.apart (show IsS82 w _ gb577 l0 t584 t585 from ax128) (rX HO583) (by decide)) hk; replace HB := am (hb); replace HI577 := am (hi); (try clear hb hk hi); obtain ⟨Ao11, co11, rfl⟩ := Kd.R_slice HO583.out; obtain ⟨hnb12, hnc12⟩ := nk NB576_577; obtain ⟨hcz13_0, hfz13_0⟩ := bz (.slice none 0 0) BK576))
  refine bodyPost_ret (results_ct rfl _ _ gb576 26 #[.slice Ao11 t581.length co11] (0, 0) _ rfl ax130 Tryz.underlying26 rfl (by kernel_rfl)) rfl ?_
  exact ⟨_, ax21, aU, ax131⟩
 ·replace c3 := Bool.eq_false_iff.mpr c3
  subst c3; rw [if_neg (show ¬ (false = true) by decide)] at H; obtain ⟨⟨t589, t592⟩, A14, H⟩ := bs H; simp only [Option.some.injEq, Prod.mk.injEq] at H; obtain ⟨rfl, rfl⟩ := H
  go_enter Tryz.func55, Tryz.ntmps55
  go_wp2_with (first | ((with_reducible refine gt 2 ?_); refine bx 2 #[.slice none 0 0] 26 ?_; intro gb576 hg w15 hbox hb; have BK576 := am (hbox); have GW576 := uG hg HB; have GE576 := uG hg HB; replace HB := uB HB hb; clear hb hbox hg) | ((with_reducible refine gt 7 ?_); refine bx 7 #[.slice A0 l0.length c0, .int .i64 0, .int .u64 0] 82 ?_; intro gb577 hg w16 hbox hb; have BK577 := am (hbox); have GW577 := uH hg HB; have GE577 := uH hg HB; obtain ⟨NB576_577, NB577_576, BK576⟩ := uA hg hb BK576; have HI577 := am ((⟨_, _, hbox, ax36, HR0.out⟩ : IsS82 w w16 gb577 l0 0 0)); replace HB := uS HB hb; clear hb hbox hg) | ((with_reducible refine gd 9 122 ?_); refine gc 9 Tryz.func122 #[.pointer (some ⟨gb577, 0, none⟩), .int .i64 24] (spec_l1Cur_one.calls gb577 l0 0 0 24 false t579 t580 w _ ax128 ax129 A2.out) ?_; rintro e w17 ⟨rfl, hi, hb, hk⟩; refine ⟨_, rfl, ?_⟩; replace BK576 := kB hk BK576 NB576_577; replace HB := am (hb); replace HI577 := am (hi); (try clear hb hk hi)) | ((with_reducible refine gd 15 148 ?_); refine gc 15 Tryz.func148 #[.slice A0 l0.length c0] (spec_DrawHasWord.calls k _ _ l0 t589 t592 _ ax42 (HC0.out) A14.out) ?_; rintro e w18 ⟨v590, rfl, ho0, hb⟩; refine ⟨_, rfl, ?_⟩; have HO591 := am (Kd.R_lower ho0 (below_size ax129)); replace BK576 := ub BK576 hb; replace HB := am (below_step ax129 hb); replace HI577 := am (IsS82.below ax128 hb); (try clear hb ho0); obtain ⟨Ao19, co19, rfl⟩ := Kd.R_slice HO591.out; obtain ⟨hnb20, hnc20⟩ := nk NB576_577; obtain ⟨hcz21_0, hfz21_0⟩ := bz (.slice none 0 0) BK576))
  refine bodyPost_ret (results_ct rfl _ _ gb576 26 #[.slice Ao19 t589.length co19] (0, 0) _ rfl ax130 Tryz.underlying26 rfl (by kernel_rfl)) rfl ?_
  exact ⟨_, ax21, aU, ax131⟩

/-! ### impl_AddWord: function 56 -/
def impl_AddWord.f (k : Nat) (l0_0 : List (S74)) (a1 : ByteArray) : Option ((List (S74)) × Bool) := (impl_areKept.f k l0_0 a1).bind fun t595 => (if t595 = true then ((impl_Trie_words.f k l0_0).bind fun t596 => (if t596.length < 8796093022208 then ((impl_ofWords.f k (t596 ++ [a1])).bind fun bt602 => (some (bt602.1, bt602.2))) else (none))) else (some (([] : List (S74)), false)))
theorem impl_AddWord.calls (k : Nat) (A0_0 : Option Addr) (c0_0 : Nat) (l0_0 : List (S74)) (a1 : ByteArray) (r1 : List (S74)) (r2 : Bool) (w : World) (hr0_0 : Kd.C k74 w A0_0 l0_0.length l0_0) (hc0_0 : l0_0.length ≤ c0_0) (h : impl_AddWord.f k l0_0 a1 = some (r1, r2)) :
  Calls Tryz.prog 56 #[.agg #[.slice A0_0 l0_0.length c0_0], .string a1] w fun e w' => ∃ v0_ : Value, e = .returned (.tuple #[.agg #[v0_], .bool r2]) ∧ Kd.R k74 74 w' w.heap.size (fun _ => True) v0_ r1 ∧ Below w.heap.size w w' := by
 have hu26 := Tryz.underlying26; have HR0_0 := am hr0_0; have HC0_0 := am hc0_0; clear hr0_0 hc0_0; have HB := am (Below.refl w.heap.size w)
 unfold impl_AddWord.f at h
 have H := h; clear h; obtain ⟨t595, A3, H⟩ := bs H
 by_cases c4 : t595 = true
 ·subst c4
  rw [if_pos rfl] at H; obtain ⟨t596, A5, H⟩ := bs H
  by_cases c6 : t596.length < 8796093022208
  ·rw [if_pos c6] at H
   have LMc6 := am c6; clear c6; obtain ⟨y599, hy599⟩ : ∃ y_ : List ByteArray, y_ = (t596 ++ [a1]) := ⟨_, rfl⟩
   replace H : ((impl_ofWords.f k y599).bind fun bt602 => (some (bt602.1, bt602.2))) = some (r1, r2) := by first | (rw [hy599]; with_reducible exact H) | (have H2_ := (Option.bind_some _ _).symm.trans H; rw [hy599]; with_reducible exact H2_) | (have H2_ := (Option.bind_some _ _).symm.trans H; with_reducible exact H2_) | with_reducible exact H | (rw [hy599]; exact H) | exact H
   have Ny599 := am hy599; clear hy599; obtain ⟨⟨t602, t605⟩, A7, H⟩ := bs H; simp only [Option.some.injEq, Prod.mk.injEq] at H; obtain ⟨rfl, rfl⟩ := H
   go_enter Tryz.func56, Tryz.ntmps56
   go_wp2_with (first | ((with_reducible refine gt 2 ?_); refine bx 2 #[.slice A0_0 l0_0.length c0_0] 26 ?_; intro gb593 hg w8 hbox hb; have BK593 := am (hbox); have GW593 := uG hg HB; have GE593 := uG hg HB; replace HB := uB HB hb; clear hb hbox hg) | ((with_reducible refine gt 4 ?_); refine bx 4 #[.slice none 0 0] 26 ?_; intro gb594 hg w9 hbox hb; have BK594 := am (hbox); have GW594 := uH hg HB; have GE594 := uH hg HB; replace HB := uS HB hb; obtain ⟨NB593_594, NB594_593, BK593⟩ := uA hg hb BK593; clear hb hbox hg; obtain ⟨hnb10, hnc10⟩ := nk NB593_594; obtain ⟨hcz11_0, hfz11_0⟩ := bz (.slice A0_0 l0_0.length c0_0) BK593) | ((with_reducible refine gd 8 110 ?_); refine gc 8 Tryz.func110 #[.agg #[.slice A0_0 l0_0.length c0_0], .string a1] (impl_areKept.calls k _ _ l0_0 a1 true _ ax30 (HC0_0.out) A3.out) ?_; rintro e w12 ⟨rfl, hb⟩; refine ⟨_, rfl, ?_⟩; replace BK593 := ub BK593 hb; replace BK594 := ub BK594 hb; replace HB := uS HB hb; (try clear hb); obtain ⟨hcz13_0, hfz13_0⟩ := bz (.slice A0_0 l0_0.length c0_0) BK593) | ((with_reducible refine gd 12 125 ?_); refine gc 12 Tryz.func125 #[.agg #[.slice A0_0 l0_0.length c0_0]] (impl_Trie_words.calls k _ _ l0_0 t596 _ ax30 (HC0_0.out) A5.out) ?_; rintro e w14 ⟨v597, rfl, ho0, hb⟩; refine ⟨_, rfl, ?_⟩; have HO598 := am (Kd.R_lower ho0 (bS HB)); replace BK594 := ub BK594 hb; replace HB := uS HB hb; (try clear hb ho0)) | ((with_reducible refine gate_builtin (b := .append) (xs := #[.tmp 12, .tmp 14]) rfl ?_); at_builtin; refine Kd.R_append Kd.string (w0 := w) w.heap.size rfl (.tmp 12) (.tmp 14) 31 9 (.string ⟨#[]⟩) 16 rfl Tryz.underlying31 info9 rfl (by decide) (by omega) v597 t596 a1 [.string a1] (fun _ => True) (fun _ => False) rfl rfl ?aP (fun _ hk => hk.elim) ?aF ?aO ?aB ?aS ?aL ?_; (case aP => exact rfl); (case aB => exact aL); (case aF => exact ax27); (case aO => exact (rX HO598)); (case aS => exact ax28); (case aL => have := LMc6.out; omega); intro v600 w15 ho hb hg hat; rw [← Ny599.out] at ho; have n0_ := am (blk_grown (g := gb594) (o := .cells #[.slice none 0 0] 26 (0, 0)) aU hg (Kd.R_ne HO598.out BK594.out (by decide))); have n1_ := am (hb); have n2_ := am (ho); clear BK594; clear HB; clear HO598; have BK594 := n0_; have HB := n1_; have HO601 := n2_; clear n0_ n1_ n2_; clear ho hb hg hat; obtain ⟨Ao16, co16, rfl⟩ := Kd.R_slice HO601.out) | ((with_reducible refine gd 16 143 ?_); refine gc 16 Tryz.func143 #[.slice Ao16 y599.length co16] (impl_ofWords.calls k _ _ y599 t602 t605 _ (rd2 HO601) (rl HO601) A7.out) ?_; rintro e w17 ⟨v603, rfl, ho0, hb⟩; refine ⟨_, rfl, ?_⟩; replace HO601 := uR HO601 hb; have HO604 := am (Kd.R_lower ho0 (bS HB)); replace BK594 := ub BK594 hb; replace HB := uS HB hb; (try clear hb ho0); obtain ⟨Ao18, co18, rfl⟩ := Kd.R_slice HO604.out; obtain ⟨hcz19_0, hfz19_0⟩ := bz (.slice none 0 0) BK594))
   refine bodyPost_ret (results_ct rfl _ _ gb594 26 #[.slice Ao18 t602.length co18] (0, 0) _ rfl ax132 Tryz.underlying26 rfl (by kernel_rfl)) rfl ?_
   exact ⟨_, ax21, aU, aL⟩
  ·exact ax5
 ·replace c4 := Bool.eq_false_iff.mpr c4
  subst c4; rw [if_neg (show ¬ (false = true) by decide)] at H; simp only [Option.some.injEq, Prod.mk.injEq] at H; obtain ⟨rfl, rfl⟩ := H
  go_enter Tryz.func56, Tryz.ntmps56
  go_wp2_with (first | ((with_reducible refine gt 2 ?_); refine bx 2 #[.slice A0_0 l0_0.length c0_0] 26 ?_; intro gb593 hg w20 hbox hb; have BK593 := am (hbox); have GW593 := uG hg HB; have GE593 := uG hg HB; replace HB := uB HB hb; clear hb hbox hg) | ((with_reducible refine gt 4 ?_); refine bx 4 #[.slice none 0 0] 26 ?_; intro gb594 hg w21 hbox hb; have BK594 := am (hbox); have GW594 := uH hg HB; have GE594 := uH hg HB; replace HB := uS HB hb; obtain ⟨NB593_594, NB594_593, BK593⟩ := uA hg hb BK593; clear hb hbox hg; obtain ⟨hnb22, hnc22⟩ := nk NB593_594; obtain ⟨hcz23_0, hfz23_0⟩ := bz (.slice A0_0 l0_0.length c0_0) BK593) | ((with_reducible refine gd 8 110 ?_); refine gc 8 Tryz.func110 #[.agg #[.slice A0_0 l0_0.length c0_0], .string a1] (impl_areKept.calls k _ _ l0_0 a1 false _ ax30 (HC0_0.out) A3.out) ?_; rintro e w24 ⟨rfl, hb⟩; refine ⟨_, rfl, ?_⟩; replace BK594 := ub BK594 hb; replace HB := uS HB hb; (try clear hb); obtain ⟨hcz25_0, hfz25_0⟩ := bz (.slice none 0 0) BK594))
  refine bodyPost_ret (results_ct rfl _ _ gb594 26 #[.slice none 0 0] (0, 0) _ rfl ax132 Tryz.underlying26 rfl (by kernel_rfl)) rfl ?_
  exact ⟨_, ax21, ax29, aL⟩

/-! ### spec_AddWord: function 57 -/
def spec_AddWord.j0 : Nat → ByteArray → Bool → List (S74) → Option ((List (S74)) × Bool)
 | 0, _, _, _ => none
 | k + 1, x1, x14, x607000 => if x14 = true then (some (([] : List (S74)), false)) else ((spec_l2Words.f k x607000).bind fun t610 => ((spec_l2Put.f k t610 x1).bind fun t613 => (if (t613.length : Int) > 40 then (some (([] : List (S74)), false)) else ((spec_l2Of.f k t613).bind fun t616 => (some (t616, true))))))
def spec_AddWord.f (k : Nat) (l0_0 : List (S74)) (a1 : ByteArray) : Option ((List (S74)) × Bool) := (spec_l2Trie.f k l0_0).bind fun t608 => (if t608 = true then ((spec_l2Word.f k a1).bind fun t609 => (spec_AddWord.j0 k a1 (!t609) l0_0)) else (spec_AddWord.j0 k a1 true l0_0))
theorem spec_AddWord.calls (k : Nat) (A0_0 : Option Addr) (c0_0 : Nat) (l0_0 : List (S74)) (a1 : ByteArray) (r1 : List (S74)) (r2 : Bool) (w : World) (hr0_0 : Kd.C k74 w A0_0 l0_0.length l0_0) (hc0_0 : l0_0.length ≤ c0_0) (h : spec_AddWord.f k l0_0 a1 = some (r1, r2)) :
  Calls Tryz.prog 57 #[.agg #[.slice A0_0 l0_0.length c0_0], .string a1] w fun e w' => ∃ v0_ : Value, e = .returned (.tuple #[.agg #[v0_], .bool r2]) ∧ Kd.R k74 74 w' w.heap.size (fun _ => True) v0_ r1 ∧ Below w.heap.size w w' := by
 have hu26 := Tryz.underlying26; have HR0_0 := am hr0_0; have HC0_0 := am hc0_0; clear hr0_0 hc0_0; have HB := am (Below.refl w.heap.size w)
 unfold spec_AddWord.f at h
 have H := h; clear h; have HC3 := am H; clear H
 go_enter Tryz.func57, Tryz.ntmps57
 go_upto_region 1 with (first | ((with_reducible refine gt 2 ?_); refine bx 2 #[.slice A0_0 l0_0.length c0_0] 26 ?_; intro gb606 hg w4 hbox hb; have BK606 := am (hbox); have GW606 := uG hg HB; have GE606 := uG hg HB; replace HB := uB HB hb; clear hb hbox hg) | ((with_reducible refine gt 4 ?_); refine bx 4 #[.slice none 0 0] 26 ?_; intro gb607 hg w5 hbox hb; have BK607 := am (hbox); have GW607 := uH hg HB; have GE607 := uH hg HB; replace HB := uS HB hb; obtain ⟨NB606_607, NB607_606, BK606⟩ := uA hg hb BK606; clear hb hbox hg))
 (try simp only [Act.put, List.setIfInBounds_toArray, List.set_cons_zero, List.set_cons_succ])
 go_cut [14] (fun v14 wc => ∃ (kq : Nat) (x14_2 : Bool), v14 = .bool x14_2 ∧ Aside0 (spec_AddWord.j0 kq a1 x14_2 l0_0 = some (r1, r2)) ∧ Aside0 (kq ≤ k) ∧ Aside0 (wc.heap[gb606]? = some (.cells #[(.slice A0_0 l0_0.length c0_0)] 26 (0, 0))) ∧ Aside0 (wc.heap[gb607]? = some (.cells #[(.slice none 0 0)] 26 (0, 0))) ∧ Aside0 (Below w.heap.size w wc))
 case first =>
  have H := HC3.out; clear HC3; obtain ⟨t608, A6, H⟩ := bs H
  by_cases c7 : t608 = true
  ·subst c7
   rw [if_pos rfl] at H; obtain ⟨t609, A8, H⟩ := bs H; have H' := am H; clear H; obtain ⟨hnb9, hnc9⟩ := nk NB606_607; obtain ⟨hcz10_0, hfz10_0⟩ := bz (.slice A0_0 l0_0.length c0_0) BK606
   go_wp2_with (first | ((with_reducible refine gd 8 113 ?_); refine gc 8 Tryz.func113 #[.agg #[.slice A0_0 l0_0.length c0_0]] (spec_l2Trie.calls k _ _ l0_0 true _ ax30 (HC0_0.out) A6.out) ?_; rintro e w11 ⟨rfl, hb⟩; refine ⟨_, rfl, ?_⟩; replace BK606 := ub BK606 hb; replace BK607 := ub BK607 hb; replace HB := uS HB hb; (try clear hb)) | (go_at_call 117; (with_reducible refine (spec_l2Word.calls k a1 t609 _ A8.out).mono ?_); rintro e w' ⟨rfl, ⟨nd, rfl⟩⟩))
   go_meet
   case rel => exact ⟨_, (!t609), ax18, H', ⟨by first | omega | exact Nat.le_refl _⟩, ⟨aU⟩, ⟨aU⟩, ⟨aL⟩⟩
  ·replace c7 := Bool.eq_false_iff.mpr c7
   subst c7; rw [if_neg (show ¬ (false = true) by decide)] at H; have H' := am H; clear H; obtain ⟨hnb12, hnc12⟩ := nk NB606_607; obtain ⟨hcz13_0, hfz13_0⟩ := bz (.slice A0_0 l0_0.length c0_0) BK606
   go_wp2_with (first | ((with_reducible refine gd 8 113 ?_); refine gc 8 Tryz.func113 #[.agg #[.slice A0_0 l0_0.length c0_0]] (spec_l2Trie.calls k _ _ l0_0 false _ ax30 (HC0_0.out) A6.out) ?_; rintro e w14 ⟨rfl, hb⟩; refine ⟨_, rfl, ?_⟩; replace BK606 := ub BK606 hb; replace BK607 := ub BK607 hb; replace HB := uS HB hb; (try clear hb)))
   go_meet
   case rel => exact ⟨_, (true), ax18, H', ⟨by first | omega | exact Nat.le_refl _⟩, ⟨aU⟩, ⟨aU⟩, ⟨aL⟩⟩
 case rest =>
  clear HC3; obtain ⟨kq, x14_2, rfl, HA, HJ2, BK606, BK607, HB⟩ := hcut
  cases kq with
  | zero => exact absurd HA.out (by simp [spec_AddWord.j0])
  | succ kj2 =>
   have H := HA.out; clear HA; simp only [spec_AddWord.j0] at H
   by_cases c15 : x14_2 = true
   ·subst c15
    rw [if_pos rfl] at H; simp only [Option.some.injEq, Prod.mk.injEq] at H; obtain ⟨rfl, rfl⟩ := H; obtain ⟨hcz16_0, hfz16_0⟩ := bz (.slice none 0 0) BK607
    go_wp2
    refine bodyPost_ret (results_ct rfl _ _ gb607 26 #[.slice none 0 0] (0, 0) _ rfl ax133 Tryz.underlying26 rfl (by kernel_rfl)) rfl ?_
    exact ⟨_, ax21, ax29, aL⟩
   ·replace c15 := Bool.eq_false_iff.mpr c15
    subst c15; rw [if_neg (show ¬ (false = true) by decide)] at H; obtain ⟨t610, A17, H⟩ := bs H; obtain ⟨t613, A18, H⟩ := bs H
    by_cases c19 : (t613.length : Int) > 40
    ·rw [if_pos c19] at H
     have c19b0 := decide_eq_true c19; have c19b1 : decide (40 < t613.length) = true := decide_eq_true (by omega); clear c19; simp only [Option.some.injEq, Prod.mk.injEq] at H; obtain ⟨rfl, rfl⟩ := H; obtain ⟨hnb20, hnc20⟩ := nk NB606_607; obtain ⟨hcz21_0, hfz21_0⟩ := bz (.slice A0_0 l0_0.length c0_0) BK606
     go_wp2_with (first | ((with_reducible refine gd 17 115 ?_); refine gc 17 Tryz.func115 #[.agg #[.slice A0_0 l0_0.length c0_0]] (spec_l2Words.calls kj2 _ _ l0_0 t610 _ ax30 (HC0_0.out) A17.out) ?_; rintro e w22 ⟨v611, rfl, ho0, hb⟩; refine ⟨_, rfl, ?_⟩; have HO612 := am (Kd.R_lower ho0 (bS HB)); replace BK607 := ub BK607 hb; replace HB := uS HB hb; (try clear hb ho0); obtain ⟨Ao23, co23, rfl⟩ := Kd.R_slice HO612.out) | ((with_reducible refine gd 19 149 ?_); refine gc 19 Tryz.func149 #[.slice Ao23 t610.length co23, .string a1] (spec_l2Put.calls kj2 (fun k_ => some k_ = (.slice Ao23 t610.length co23 : Value).ownBlock) _ _ t610 a1 t613 _ (Kd.R_V (Kd.R_tight rfl (Kd.R_types (HO612.out) BK607.out (by decide)))) A18.out) ?_; rintro e w24 ⟨v614, rfl, ho0, hb⟩; refine ⟨_, rfl, ?_⟩; have HO615 := am (Kd.V_lower (Kd.V_mono (ok' := fun k_ => k_ ≠ gb607) ho0 (fun k_ hk_ => Or.elim hk_ (fun hs_ => ((Kd.R_types (HO612.out) BK607.out (by decide)).1 k_ hs_.symm).2) (fun hn_ => (Kd.freshB (g := gb607) (o := .cells #[.slice none 0 0] 26 (0, 0)) aU k_ hn_)))) (bS HB)); replace HO612 := uR HO612 hb; replace BK607 := ub BK607 hb; replace HB := uS HB hb; (try clear hb ho0); obtain ⟨Ao25, co25, eo25⟩ := Kd.V_slice HO615.out; subst eo25; obtain ⟨hcz26_0, hfz26_0⟩ := bz (.slice none 0 0) BK607))
     refine bodyPost_ret (results_ct rfl _ _ gb607 26 #[.slice none 0 0] (0, 0) _ rfl ax133 Tryz.underlying26 rfl (by kernel_rfl)) rfl ?_
     exact ⟨_, ax21, ax29, aL⟩
    ·rw [if_neg c19] at H
     have c19b0 := decide_eq_false c19; have c19b1 : decide (40 < t613.length) = false := decide_eq_false (by omega); clear c19; obtain ⟨t616, A27, H⟩ := bs H; simp only [Option.some.injEq, Prod.mk.injEq] at H; obtain ⟨rfl, rfl⟩ := H; obtain ⟨hnb28, hnc28⟩ := nk NB606_607; obtain ⟨hcz29_0, hfz29_0⟩ := bz (.slice A0_0 l0_0.length c0_0) BK606
     go_wp2_with (first | ((with_reducible refine gd 17 115 ?_); refine gc 17 Tryz.func115 #[.agg #[.slice A0_0 l0_0.length c0_0]] (spec_l2Words.calls kj2 _ _ l0_0 t610 _ ax30 (HC0_0.out) A17.out) ?_; rintro e w30 ⟨v611, rfl, ho0, hb⟩; refine ⟨_, rfl, ?_⟩; have HO612 := am (Kd.R_lower ho0 (bS HB)); replace BK607 := ub BK607 hb; replace HB := uS HB hb; (try clear hb ho0); obtain ⟨Ao31, co31, rfl⟩ := Kd.R_slice HO612.out) | ((with_reducible refine gd 19 149 ?_); refine gc 19 Tryz.func149 #[.slice Ao31 t610.length co31, .string a1] (spec_l2Put.calls kj2 (fun k_ => some k_ = (.slice Ao31 t610.length co31 : Value).ownBlock) _ _ t610 a1 t613 _ (Kd.R_V (Kd.R_tight rfl (Kd.R_types (HO612.out) BK607.out (by decide)))) A18.out) ?_; rintro e w32 ⟨v614, rfl, ho0, hb⟩; refine ⟨_, rfl, ?_⟩; have HO615 := am (Kd.V_lower (Kd.V_mono (ok' := fun k_ => k_ ≠ gb607) ho0 (fun k_ hk_ => Or.elim hk_ (fun hs_ => ((Kd.R_types (HO612.out) BK607.out (by decide)).1 k_ hs_.symm).2) (fun hn_ => (Kd.freshB (g := gb607) (o := .cells #[.slice none 0 0] 26 (0, 0)) aU k_ hn_)))) (bS HB)); replace HO612 := uR HO612 hb; replace BK607 := ub BK607 hb; replace HB := uS HB hb; (try clear hb ho0); obtain ⟨Ao33, co33, eo33⟩ := Kd.V_slice HO615.out; subst eo33) | ((with_reducible refine gd 25 123 ?_); refine gc 25 Tryz.func123 #[.slice Ao33 t613.length co33] (spec_l2Of.calls kj2 _ _ t613 t616 _ (by repeat (first | exact (Kd.V_reads' HO615.out).2.2 | (with_reducible refine Kd.C_alloc ?_ _) | (with_reducible refine Kd.C_drewN ?_ _) | (with_reducible refine Kd.C_drew ?_))) ((Kd.V_reads' HO615.out).2.1) A27.out) ?_; rintro e w34 ⟨v617, rfl, ho0, hb⟩; refine ⟨_, rfl, ?_⟩; replace HO615 := am (Kd.V_elder' (by (with_reducible repeat (first | apply Kd.V_alloc | apply Kd.V_drewN | apply Kd.V_drew)); exact HO615.out) (Kd.R_base ho0) hb); have HO618 := am (Kd.R_lower ho0 (bS HB)); replace BK607 := ub BK607 hb; replace HB := uS HB hb; (try clear hb ho0); obtain ⟨Ao35, co35, rfl⟩ := Kd.R_slice HO618.out; obtain ⟨hcz36_0, hfz36_0⟩ := bz (.slice none 0 0) BK607))
     refine bodyPost_ret (results_ct rfl _ _ gb607 26 #[.slice Ao35 t616.length co35] (0, 0) _ rfl ax133 Tryz.underlying26 rfl (by kernel_rfl)) rfl ?_
     exact ⟨_, ax21, aU, aL⟩

/-! ### spec_DrawDropWord: function 58 -/
def spec_DrawDropWord.f (k : Nat) (l0 : List Int) : Option ((List (S74)) × ByteArray) := (spec_DrawHasWord.f k l0).bind fun bt620 => (some (bt620.1, bt620.2))
theorem spec_DrawDropWord.calls (k : Nat) (A0 : Option Addr) (c0 : Nat) (l0 : List Int) (r1 : List (S74)) (r2 : ByteArray) (w : World) (hr0 : Kd.C (Kd.int .u8) w A0 l0.length l0) (hc0 : l0.length ≤ c0) (h : spec_DrawDropWord.f k l0 = some (r1, r2)) :
  Calls Tryz.prog 58 #[.slice A0 l0.length c0] w fun e w' => ∃ v0_ : Value, e = .returned (.tuple #[.agg #[v0_], .string r2]) ∧ Kd.R k74 74 w' w.heap.size (fun _ => True) v0_ r1 ∧ Below w.heap.size w w' := by
 have hu26 := Tryz.underlying26; have HR0 := am hr0; have HC0 := am hc0; clear hr0 hc0; have HB := am (Below.refl w.heap.size w)
 unfold spec_DrawDropWord.f at h
 have H := h; clear h; obtain ⟨⟨t620, t623⟩, A2, H⟩ := bs H; simp only [Option.some.injEq, Prod.mk.injEq] at H; obtain ⟨rfl, rfl⟩ := H
 go_enter Tryz.func58, Tryz.ntmps58
 go_wp2_with (first | ((with_reducible refine gt 2 ?_); refine bx 2 #[.slice none 0 0] 26 ?_; intro gb619 hg w3 hbox hb; have BK619 := am (hbox); have GW619 := uG hg HB; have GE619 := uG hg HB; replace HB := uB HB hb; clear hb hbox hg) | ((with_reducible refine gd 5 148 ?_); refine gc 5 Tryz.func148 #[.slice A0 l0.length c0] (spec_DrawHasWord.calls k _ _ l0 t620 t623 _ ax42 (HC0.out) A2.out) ?_; rintro e w4 ⟨v621, rfl, ho0, hb⟩; refine ⟨_, rfl, ?_⟩; have HO622 := am (Kd.R_lower ho0 (bS HB)); replace BK619 := ub BK619 hb; replace HB := uS HB hb; (try clear hb ho0); obtain ⟨Ao5, co5, rfl⟩ := Kd.R_slice HO622.out; obtain ⟨hcz6_0, hfz6_0⟩ := bz (.slice none 0 0) BK619))
 refine bodyPost_ret (results_ct rfl _ _ gb619 26 #[.slice Ao5 t620.length co5] (0, 0) _ rfl (by (with_reducible repeat (first | refine blk_drewN ?_ _ | refine blk_drew ?_ | refine blk_alloc ?_ _)); refine blk_put (cs := #[.slice none 0 0]) ?_ 0 _ rfl; (with_reducible repeat (first | refine blk_drewN ?_ _ | refine blk_drew ?_ | refine blk_alloc ?_ _)); exact BK619.out) Tryz.underlying26 rfl (by kernel_rfl)) rfl ?_
 exact ⟨_, ax21, aU, aL⟩

end Go.Proofs.YtcplbbflfgckbaaGreatDoor.X
namespace Go.Proofs.YtcplbbflfgckbaaGreatDoor.X
open Go.RowKit Go.Proofs.YtcplbbflfgckbaaGreatDoorW.PrintWords Go.Proofs.YtcplbbflfgckbaaGreatDoorW.PrintLast Go.Proofs.YtcplbbflfgckbaaGreatDoorW.PrintMore
attribute [local go_sem] max2_int min2_int max_two min_two max_three min_three max_four min_four   -- for this text's walks alone
set_option linter.unusedVariables false
set_option linter.unusedSimpArgs false
set_option maxHeartbeats 8000000
set_option maxRecDepth 100000

/-! ### slices_DeleteFunc_string_string: function 151: a contract of our own -/
section
open Go.Shelf Go.Sort Go.Lib
attribute [local go_sem] Oper.semAt_some
abbrev slices_DeleteFunc_string_string.f (l0 : List ByteArray) (F : ByteArray → Option Bool) : Option (List ByteArray) := if 1000000000 < l0.length then none else G.dropM F l0
theorem slices_DeleteFunc_string_string.dropM_all {F : ByteArray → Option Bool} : ∀ {l r : List ByteArray}, G.dropM F l = some r → (∀ x ∈ l, ∃ b, F x = some b) ∧ r = l.filter (fun x => !((F x).getD false))
 | [], r, h => by cases h; exact ⟨by simp, rfl⟩
 | x :: l, r, h => by
  unfold G.dropM at h
  obtain ⟨b, hb, h⟩ := Option.bind_eq_some_iff.1 h; obtain ⟨q, hq, h⟩ := Option.bind_eq_some_iff.1 h; obtain ⟨h1, h2⟩ := slices_DeleteFunc_string_string.dropM_all hq; refine ⟨fun y hy => ?_, ?_⟩
  ·rcases List.mem_cons.1 hy with rfl | hy
   ·exact ⟨b, hb⟩
   ·exact h1 y hy
  ·rw [List.filter_cons, hb]
   cases b with
   | true => rw [if_pos rfl] at h; cases h; simpa using h2
   | false => rw [if_neg (by decide)] at h; cases h; simpa using h2
/-- What the row holds ahead of round j, i elements kept. -/
structure slices_DeleteFunc_string_string.Inv (kp : ByteArray → Bool) (l dk : List ByteArray) (i j : Nat) : Prop where
 len : dk.length = l.length
 lt : i < j
 le : j ≤ l.length
 head : dk.take i = (l.take j).filter kp
 tail : dk.drop j = l.drop j
theorem slices_DeleteFunc_string_string.Inv.at_ {kp : ByteArray → Bool} {l dk : List ByteArray} {i j : Nat} (h : slices_DeleteFunc_string_string.Inv kp l dk i j) (hj : j < l.length) : dk[j]? = some l[j] := by
 have := congrArg (fun z => z[0]?) h.tail
 simpa [List.getElem?_drop, hj] using this
theorem slices_DeleteFunc_string_string.take_succ' {l : List ByteArray} {j : Nat} (hj : j < l.length) : l.take (j + 1) = l.take j ++ [l[j]] := by rw [List.take_succ_eq_append_getElem hj]
theorem slices_DeleteFunc_string_string.Inv.keep {kp : ByteArray → Bool} {l dk : List ByteArray} {i j : Nat} (h : slices_DeleteFunc_string_string.Inv kp l dk i j) (hj : j < l.length) (hk : kp l[j] = true) : slices_DeleteFunc_string_string.Inv kp l (dk.set i l[j]) (i + 1) (j + 1) := by
 have hlt := h.lt; have hl := h.len; refine ⟨by rw [List.length_set, hl], by omega, by omega, ?_, ?_⟩
 ·rw [slices_DeleteFunc_string_string.take_succ' hj, List.filter_append, ← h.head, List.filter_cons, if_pos hk, List.filter_nil]
  rw [slices_DeleteFunc_string_string.take_succ' (l := dk.set i l[j]) (by rw [List.length_set]; omega), List.take_set_of_le (Nat.le_refl i), List.getElem_set_self]
 ·rw [List.drop_set_of_lt (by omega), show j + 1 = j + 1 from rfl, ← List.drop_drop, h.tail, List.drop_drop]
theorem slices_DeleteFunc_string_string.Inv.skip {kp : ByteArray → Bool} {l dk : List ByteArray} {i j : Nat} (h : slices_DeleteFunc_string_string.Inv kp l dk i j) (hj : j < l.length) (hk : kp l[j] = false) : slices_DeleteFunc_string_string.Inv kp l dk i (j + 1) := by
 have hlt := h.lt; refine ⟨h.len, by omega, by omega, ?_, ?_⟩
 ·rw [slices_DeleteFunc_string_string.take_succ' hj, List.filter_append, ← h.head, List.filter_cons, hk, if_neg (by decide), List.filter_nil, List.append_nil]
 ·rw [← List.drop_drop, h.tail, List.drop_drop]
theorem slices_DeleteFunc_string_string.Inv.start {kp : ByteArray → Bool} {l : List ByteArray} {i : Nat} (hi : i < l.length) (h0 : ∀ j (hj : j < l.length), j < i → kp l[j] = true) (hk : kp l[i] = false) : slices_DeleteFunc_string_string.Inv kp l l i (i + 1) := by
 refine ⟨rfl, by omega, by omega, ?_, rfl⟩; rw [slices_DeleteFunc_string_string.take_succ' hi, List.filter_append, List.filter_cons, hk, if_neg (by decide), List.filter_nil, List.append_nil]
 symm
 rw [List.filter_eq_self]; intro x hx; obtain ⟨j, hj, rfl⟩ := List.mem_iff_getElem.1 hx; rw [List.length_take] at hj; rw [List.getElem_take]
 exact h0 j (by omega) (by omega)
theorem slices_DeleteFunc_string_string.first_hit {F : ByteArray → Option Bool} : ∀ {l : List ByteArray}, (∀ x ∈ l, ∃ b, F x = some b) → (G.idxM F l = some (-1) ∧ ∀ x ∈ l, F x = some false) ∨ ∃ (i : Nat) (hi : i < l.length), G.idxM F l = some (i : Int) ∧ F l[i] = some true ∧ ∀ (j : Nat) (hj : j < l.length), j < i → F l[j] = some false
 | [], _ => .inl ⟨rfl, by simp⟩
 | x :: l, h => by
  obtain ⟨b, hb⟩ := h x List.mem_cons_self
  cases b with
  | true => exact .inr ⟨0, by simp, by unfold G.idxM; rw [hb]; rfl, hb, fun j hj h => absurd h (Nat.not_lt_zero _)⟩
  | false =>
   rcases slices_DeleteFunc_string_string.first_hit (fun y hy => h y (List.mem_cons_of_mem _ hy)) with ⟨h1, h2⟩ | ⟨i, hi, h1, h2, h3⟩
   ·refine .inl ⟨by unfold G.idxM; rw [hb, h1]; rfl, fun y hy => ?_⟩
    rcases List.mem_cons.1 hy with rfl | hy
    ·exact hb
    ·exact h2 y hy
   ·refine .inr ⟨i + 1, by simp; omega, ?_, by simpa using h2, fun j hj hlt => ?_⟩
    ·unfold G.idxM
     rw [hb, h1, Option.bind_some, if_neg (by decide), Option.bind_some, if_neg (by omega)]
     rfl
    ·cases j with
     | zero => exact hb
     | succ j => simpa using h3 j (by simpa using hj) (by omega)
theorem slices_DeleteFunc_string_string.kept2 {w : World} {g n : Nat} {d : Array ByteArray} {S : Nat → Prop} (hS : S g) : Kept w (putRow Value.string (Sort.ahead w n) g 0 d) S := by
 refine ⟨?_, fun i hi hn => ?_⟩
 ·have : (putRow Value.string (Sort.ahead w n) g 0 d).heap.size = w.heap.size := by simp [putRow, mapBlock, Sort.ahead]
  omega
 ·have hne : g ≠ i := fun e => hn (e ▸ hS)
  simp [putRow, mapBlock, Sort.ahead, Array.getElem?_modify, hne]
theorem slices_DeleteFunc_string_string.calls (P0_ : Nat → Prop) (u9000_ : Value) (l0 : List ByteArray) (F : ByteArray → Option Bool) (r : List ByteArray) (w0 w : World) (hB : Below w0.heap.size w0 w) (ho0 : Kd.R Kd.string 9 w w0.heap.size P0_ u9000_ l0)
  {g : Nat} {fs lb : Array Value} (eg : ∀ args w, (callFunc g args).run Tryz.prog w = .ok (.enter g args) w) (hp : ∀ (x : ByteArray), x ∈ l0 → ∀ (W : World), Kept w W (fun k_ => P0_ k_ ∧ w0.heap.size ≤ k_) → Below w0.heap.size w0 W → ∀ b, F x = some b → Calls Tryz.prog g (fs ++ #[.string x] ++ lb) W fun e W' => e = .returned (.bool b) ∧ Below W.heap.size W W') (h : slices_DeleteFunc_string_string.f l0 F = some r) :
  Calls Tryz.prog 151 #[u9000_, .func (.func g) fs lb] w fun e w' => ∃ v0_ : Value, e = .returned (v0_) ∧ Kd.R Kd.string 9 w' w0.heap.size (fun k_ => (P0_ k_ ∨ w.heap.size ≤ k_)) v0_ r ∧ Below w0.heap.size w0 w' ∧ Kept w w' (fun k_ => P0_ k_) := by
 unfold slices_DeleteFunc_string_string.f at h
 by_cases hc : 1000000000 < l0.length
 ·rw [if_pos hc] at h; cases h
 rw [if_neg hc] at h; obtain ⟨hall, hr⟩ := slices_DeleteFunc_string_string.dropM_all h; subst hr; clear h
 have hbase : ∀ k, some k = u9000_.ownBlock → P0_ k ∧ w0.heap.size ≤ k := fun k hk => ⟨ho0.1 k hk.symm, Kd.R_base ho0 k hk.symm⟩
 obtain ⟨A, cap, rfl⟩ := Kd.R_slice ho0; have hRD := Kd.R_reads' ho0; have hidx := slices_DeleteFunc_string_string.first_hit hall; have HO := am ho0; have HBB := am hB; have HP := am hp; have HALL := am hall; have HBS := am hbase; have HC := am hc; have HRD := am hRD; clear ho0 hB hp hall hbase hc hRD
 rcases hidx with ⟨hi, hno⟩ | ⟨i0, hi0, hi, hyes, hbef⟩
 ·have HI := am hi
  have HN := am hno; clear hi hno
  go_enter Tryz.func151, Tryz.ntmps151
  go_wp2_with (go_at_call 205; refine (slices_IndexFunc_string_string.calls A cap l0 F (-1) _ HRD.out.2.2 HRD.out.2.1 eg (fun x hx W hW b hb => HP.out x hx W (Kept.of_below hW _) (HBB.out.trans (hW.mono HBB.out.size)) b hb) HI.out).mono ?_; rintro e w' ⟨rfl, hb⟩)
  go_ret
  refine ⟨_, rfl, ?_, HBB.out.trans (hb.mono HBB.out.size), Kept.of_below hb _⟩
  have e : (l0.filter fun x => !((F x).getD false)) = l0 := by
   rw [List.filter_eq_self]; intro x hx; rw [HN.out x hx]; rfl
  rw [e]
  exact Kd.R_mono (Kd.R_below HO.out hb) (fun k hk => .inl hk)
 ·have hlen0 : 0 < l0.length := by omega
  obtain ⟨go, co, eo, gb, gl, HG⟩ := Kd.R_form HO.out hlen0
  obtain ⟨rfl, rfl⟩ : A = some ⟨go, 0, none⟩ ∧ cap = co := by injection eo with e1 e2 e3; exact ⟨e1, e3⟩
  have HS := am (HBS.out go rfl); have HI := am hi; have hst : slices_DeleteFunc_string_string.Inv (fun x => !((F x).getD false)) l0 l0 i0 (i0 + 1) := slices_DeleteFunc_string_string.Inv.start hi0 (fun j hj hlt => by rw [hbef j hj hlt]; rfl) (by rw [hyes]; rfl); have HST := am hst; clear eo gb gl HG hi hyes hbef hst; have hne1 : ((i0 : Int) == -1) = false := beq_eq_false_iff_ne.2 (by omega)
  have hbig : l0.length ≤ 1000000000 := by have := HC.out; omega
  go_enter Tryz.func151, Tryz.ntmps151
  go_wp2_with (go_at_call 205; refine (slices_IndexFunc_string_string.calls (some ⟨go, 0, none⟩) cap l0 F i0 _ HRD.out.2.2 HRD.out.2.1 eg (fun x hx W hW b hb => HP.out x hx W (Kept.of_below hW _) (HBB.out.trans (hW.mono HBB.out.size)) b hb) HI.out).mono ?_; rintro e w1 ⟨rfl, hb1⟩; have HB1 := am hb1; clear hb1)
  go_loopg [5, 6, 7] l0.length (fun gg s5 s6 _ wr => ∃ (i j : Nat) (dk : List ByteArray), s5 = .int .i64 i ∧ s6 = .int .i64 j ∧ l0.length - j ≤ gg ∧ Aside0 (slices_DeleteFunc_string_string.Inv (fun x => !((F x).getD false)) l0 dk i j) ∧ Aside0 (Kd.R Kd.string 9 wr w0.heap.size P0_ (.slice (some ⟨go, 0, none⟩) l0.length cap) dk) ∧ Aside0 (Below w0.heap.size w0 wr) ∧ Aside0 (Kept w wr (fun k_ => k_ = go)))
  case atStart => exact ⟨i0, i0 + 1, l0, rfl, by go_num, by omega, HST, ⟨Kd.R_below HO.out HB1.out⟩, ⟨HBB.out.trans (HB1.out.mono HBB.out.size)⟩, ⟨Kept.of_below HB1.out _⟩⟩
  case round =>
   obtain ⟨i, j, dk, rfl, rfl, hgg, HINV, HR, HBW, HKW⟩ := hrel; have hij := HINV.out.lt; have hjl := HINV.out.le; have hdl := HINV.out.len; have hsz := HC.out
   by_cases hlt : j < l0.length
   ·have hltz : (j : Int) < (l0.length : Int) := by omega
    obtain ⟨b, hb⟩ := HALL.out l0[j] (List.getElem_mem hlt); obtain ⟨cj, _⟩ := Kd.R_celln ByteArray.empty HR.out (j : Int) (by omega) (by omega)
    have hv : rdOf ByteArray.empty dk (j : Int) = l0[j] := by simp [rdOf, List.getD, HINV.out.at_ hlt]
    rw [hv] at cj; simp only [Int.toNat_natCast] at cj; have hcall := HP.out l0[j] (List.getElem_mem hlt) wr (HKW.out.mono (fun k hk => by subst hk; exact HS.out)) HBW.out b hb; have HBJ := am hb; obtain ⟨u, hu⟩ : ∃ u, u = l0[j] := ⟨_, rfl⟩; rw [← hu] at cj hcall; have HU := am hu; clear hu hb hv
    cases b with
    | true =>
     go_wp2_with (go_at_fn g; refine hcall.mono ?_; rintro e w2 ⟨rfl, hb2⟩; have HB2 := am hb2; clear hb2)
     go_roundg (l0.length - (j + 1))
     case measure => omega
     case rel => exact ⟨i, j + 1, dk, rfl, by go_num, Nat.le_refl _, ⟨HINV.out.skip hlt (by rw [HBJ.out]; rfl)⟩, ⟨Kd.R_below HR.out HB2.out⟩, ⟨HBW.out.trans (HB2.out.mono HBW.out.size)⟩, ⟨HKW.out.below HB2.out⟩⟩
    | false =>
     go_wp2_with (go_at_fn g; refine hcall.mono ?_; rintro e w2 ⟨rfl, hb2⟩; have HB2 := am hb2; clear hb2; have HR2 := am (Kd.R_below HR.out HB2.out); obtain ⟨ci, fi⟩ := Kd.R_celln ByteArray.empty HR2.out (i : Int) (by omega) (by omega); simp only [Int.toNat_natCast] at ci fi; generalize rdOf ByteArray.empty dk (i : Int) = old at ci)
     go_roundg (l0.length - (j + 1))
     case measure => omega
     case rel =>
      have hput := Kd.R_putg HR2.out (i : Int) u; simp only [Int.toNat_natCast] at hput; refine ⟨i + 1, j + 1, dk.set i u, by go_num, by go_num, Nat.le_refl _, ⟨?_⟩, ⟨hput.1⟩, ⟨below_set (HBW.out.trans (HB2.out.mono HBW.out.size)) HS.out.2⟩, ⟨Kept.setCell (HKW.out.below HB2.out) (.inl rfl) _⟩⟩; rw [HU.out]
      exact HINV.out.keep hlt (by rw [HBJ.out]; rfl)
   ·obtain rfl : j = l0.length := by omega
    have hltz : ¬ (l0.length : Int) < (l0.length : Int) := by omega
    have hcl : ∀ ty, (Builtin.clear_ #[31] ty #[.slice (some ⟨go, i, none⟩) (l0.length - i) (cap - i)]).run Tryz.prog wr = .ok (.tuple #[]) (wr.setCells go i (List.replicate (l0.length - i) (.string ByteArray.empty))) :=
     fun ty => Lib.run_clear_slice wr _ _ ty _ Tryz.underlying31 (fun W => by kernel_rfl) rfl rfl go i _ _ (by omega) (fun t ht => by
      obtain ⟨c1, _⟩ := Kd.R_celln ByteArray.empty HR.out ((i + t : Nat) : Int) (by omega) (by omega); rw [Int.toNat_natCast] at c1
      rw [c1]; rfl) (fun t ht => by
      obtain ⟨_, c1⟩ := Kd.R_celln ByteArray.empty HR.out ((i + t : Nat) : Int) (by omega) (by omega); rw [Int.toNat_natCast] at c1
      exact c1)
    have hcap : l0.length ≤ cap := HRD.out.2.1
    have hicap : i ≤ cap := by omega
    have hicapz : ((i : Int) ≤ (cap : Int)) := by omega
    go_wp2
    go_ret
    have hown : wr.ownsRow w0.heap.size 9 1 (.slice (some ⟨go, 0, none⟩) l0.length cap) l0.length (dk.map Value.string) := by have := Kd.own_of_R HR.out; rw [hdl] at this; exact this
    obtain ⟨g2, c2, e2, _, _, _, _, _, hH⟩ := Lib.holds_of_ownsRow hown (by intro e; cases e)
    obtain ⟨rfl, rfl⟩ : go = g2 ∧ cap = c2 := by injection e2 with e1 _ e3; injection e1 with e1; injection e1 with e1; exact ⟨e1, e3⟩
    have hself := putRow_self Value.string wr go 0 dk.toArray hH; have hset := putRow_setCells Value.string wr go 0 (List.replicate (l0.length - i) ByteArray.empty) dk.toArray i (by simp; omega); rw [hself, Nat.zero_add, List.map_replicate] at hset; have HSET := am hset
    have hget := fun z => lay_get? (List.replicate (l0.length - i) ByteArray.empty) dk.toArray i z (by simp; omega)
    obtain ⟨ys, hys⟩ : ∃ ys : List ByteArray, (lay dk.toArray i (List.replicate (l0.length - i) ByteArray.empty)) = ys.toArray := ⟨_, (Array.toArray_toList).symm⟩; rw [hys] at hset
    have hyl : ys.length = l0.length := by
     have h1 : ys[l0.length]? = none := by
      have := hget l0.length; rw [hys, if_neg (by simp; omega)] at this
      simpa [hdl] using this
     have h2 : ∀ z, z < l0.length → (ys[z]?).isSome = true := fun z hz => by
      have := hget z; rw [hys] at this; simp only [List.getElem?_toArray] at this; rw [this]
      split
      ·next h => simp; omega
      ·simp; omega
     have h3 := List.getElem?_eq_none_iff.1 h1
     rcases Nat.lt_or_ge ys.length l0.length with h4 | h4
     ·have := h2 _ h4; simp at this
     ·omega
    have hyt : ys.take i = dk.take i := by
     apply List.ext_getElem?
     intro z; rw [List.getElem?_take, List.getElem?_take]
     by_cases hz : z < i
     ·rw [if_pos hz, if_pos hz]
      have := hget z; rw [hys, if_neg (by omega)] at this
      simpa using this
     ·rw [if_neg hz, if_neg hz]
    have hrow := Lib.ownsRow_putRow (q := 0) (k := i) (ys := ys) hown hyl (by omega); rw [hyt, HINV.out.head, List.take_length, show Sort.ahead wr 0 = wr from rfl] at hrow
    have hil : ((l0.filter fun x => !((F x).getD false))).length = i := by rw [← List.take_length (l := l0), ← HINV.out.head, List.length_take]; omega
    rw [hset]; rw [← hil] at hrow; refine ⟨_, by rw [← hil]; rfl, Kd.R_of_own (enc := Value.string) (h1 := fun _ => rfl) hrow (fun k hk => .inl (by cases hk; exact HS.out.1)), Lib.below_putRow (q := 0) HBW.out HS.out.2, (HKW.out.then_ (slices_DeleteFunc_string_string.kept2 (n := 0) (S := fun k => k = go) rfl) (fun k hk => .inl hk)).mono (fun k hk => by subst hk; exact HS.out.1)⟩
end

/-! ### impl_DropWord_1: function 152 -/
def impl_DropWord_1.f (a0 : ByteArray) (a1_0 : ByteArray) : Option (Bool) := some (a0.toList == a1_0.toList)
theorem impl_DropWord_1.calls (a0 : ByteArray) (G1 : Nat) (a1_0 : ByteArray) (r : Bool) (w : World) (hb1 : w.heap[G1]? = some (.cells #[.string a1_0] 9 (0, 0))) (h : impl_DropWord_1.f a0 a1_0 = some r) :
  Calls Tryz.prog 152 #[.string a0, .pointer (some ⟨G1, 0, none⟩)] w fun e w' => e = .returned (.bool r) ∧ Below w.heap.size w w' := by
 have BK624 := am hb1; clear hb1; have HB := am (Below.refl w.heap.size w)
 unfold impl_DropWord_1.f at h
 have H := h; clear h; obtain rfl := Option.some.inj H; obtain ⟨hcz3_0, hfz3_0⟩ := bz (.string a1_0) BK624
 go_enter Tryz.func152, Tryz.ntmps152
 go_wp2
 go_ret
 exact ⟨ax21, aL⟩

/-! ### impl_DropWord: function 59 -/
def impl_DropWord.j0 : Nat → Bool → List (S74) → ByteArray → Option ((List (S74)) × Bool)
 | 0, _, _, _ => none
 | k + 1, x15, x626000, x627000 => if x15 = true then (some (([] : List (S74)), false)) else ((impl_Trie_words.f k x626000).bind fun t630 => ((slices_DeleteFunc_string_string.f t630 (fun z_ => impl_DropWord_1.f z_ x627000)).bind fun t633 => ((impl_trieOf.f k t633).bind fun t636 => (some (t636, true)))))
def impl_DropWord.f (k : Nat) (l0_0 : List (S74)) (a1 : ByteArray) : Option ((List (S74)) × Bool) := (impl_areKept.f k l0_0 a1).bind fun t628 => (if t628 = true then ((impl_Trie_has.f k l0_0 a1).bind fun t629 => (impl_DropWord.j0 k (!t629) l0_0 a1)) else (impl_DropWord.j0 k true l0_0 a1))
theorem impl_DropWord.calls (k : Nat) (A0_0 : Option Addr) (c0_0 : Nat) (l0_0 : List (S74)) (a1 : ByteArray) (r1 : List (S74)) (r2 : Bool) (w : World) (hr0_0 : Kd.C k74 w A0_0 l0_0.length l0_0) (hc0_0 : l0_0.length ≤ c0_0) (h : impl_DropWord.f k l0_0 a1 = some (r1, r2)) :
  Calls Tryz.prog 59 #[.agg #[.slice A0_0 l0_0.length c0_0], .string a1] w fun e w' => ∃ v0_ : Value, e = .returned (.tuple #[.agg #[v0_], .bool r2]) ∧ Kd.R k74 74 w' w.heap.size (fun _ => True) v0_ r1 ∧ Below w.heap.size w w' := by
 have hu26 := Tryz.underlying26; have HR0_0 := am hr0_0; have HC0_0 := am hc0_0; clear hr0_0 hc0_0; have HB := am (Below.refl w.heap.size w)
 unfold impl_DropWord.f at h
 have H := h; clear h; have HC3 := am H; clear H
 go_enter Tryz.func59, Tryz.ntmps59
 go_upto_region 1 with (first | ((with_reducible refine gt 2 ?_); refine bx 2 #[.slice A0_0 l0_0.length c0_0] 26 ?_; intro gb625 hg w4 hbox hb; have BK625 := am (hbox); have GW625 := uG hg HB; have GE625 := uG hg HB; replace HB := uB HB hb; clear hb hbox hg) | ((with_reducible refine gt 3 ?_); refine bx 3 #[.string a1] 9 ?_; intro gb626 hg w5 hbox hb; have BK626 := am (hbox); have GW626 := uH hg HB; have GE626 := uH hg HB; replace HB := uS HB hb; obtain ⟨NB625_626, NB626_625, BK625⟩ := uA hg hb BK625; clear hb hbox hg) | ((with_reducible refine gt 4 ?_); refine bx 4 #[.slice none 0 0] 26 ?_; intro gb627 hg w6 hbox hb; have BK627 := am (hbox); have GW627 := uH hg HB; have GE627 := uH hg HB; replace HB := uS HB hb; obtain ⟨NB625_627, NB627_625, BK625⟩ := uA hg hb BK625; obtain ⟨NB626_627, NB627_626, BK626⟩ := uA hg hb BK626; clear hb hbox hg))
 (try simp only [Act.put, List.setIfInBounds_toArray, List.set_cons_zero, List.set_cons_succ])
 go_cut [15] (fun v15 wc => ∃ (kq : Nat) (x15_2 : Bool), v15 = .bool x15_2 ∧ Aside0 (impl_DropWord.j0 kq x15_2 l0_0 a1 = some (r1, r2)) ∧ Aside0 (kq ≤ k) ∧ Aside0 (wc.heap[gb625]? = some (.cells #[(.slice A0_0 l0_0.length c0_0)] 26 (0, 0))) ∧ Aside0 (wc.heap[gb626]? = some (.cells #[.string a1] 9 (0, 0))) ∧ Aside0 (wc.heap[gb627]? = some (.cells #[(.slice none 0 0)] 26 (0, 0))) ∧ Aside0 (Below w.heap.size w wc))
 case first =>
  have H := HC3.out; clear HC3; obtain ⟨t628, A7, H⟩ := bs H
  by_cases c8 : t628 = true
  ·subst c8
   rw [if_pos rfl] at H; obtain ⟨t629, A9, H⟩ := bs H; have H' := am H; clear H; obtain ⟨hnb10, hnc10⟩ := nk NB625_626; obtain ⟨hnb11, hnc11⟩ := nk NB625_627; obtain ⟨hcz12_0, hfz12_0⟩ := bz (.slice A0_0 l0_0.length c0_0) BK625; obtain ⟨hnb13, hnc13⟩ := nk NB626_627; obtain ⟨hcz14_0, hfz14_0⟩ := bz (.string a1) BK626
   go_wp2_with (first | ((with_reducible refine gd 8 110 ?_); refine gc 8 Tryz.func110 #[.agg #[.slice A0_0 l0_0.length c0_0], .string a1] (impl_areKept.calls k _ _ l0_0 a1 true _ ax30 (HC0_0.out) A7.out) ?_; rintro e w15 ⟨rfl, hb⟩; refine ⟨_, rfl, ?_⟩; replace BK625 := ub BK625 hb; replace BK626 := ub BK626 hb; replace BK627 := ub BK627 hb; replace HB := uS HB hb; (try clear hb); obtain ⟨hcz16_0, hfz16_0⟩ := bz (.slice A0_0 l0_0.length c0_0) BK625; obtain ⟨hcz17_0, hfz17_0⟩ := bz (.string a1) BK626) | (go_at_call 111; (with_reducible refine (impl_Trie_has.calls k _ _ l0_0 a1 t629 _ ?side1 ?side2 A9.out).mono ?_); (case side1 => exact ax30); (case side2 => exact HC0_0.out); rintro e w18 ⟨rfl, hb⟩; replace BK625 := ub BK625 hb; replace BK626 := ub BK626 hb; replace BK627 := ub BK627 hb; replace HB := uS HB hb; (try clear hb)))
   go_meet
   case rel => exact ⟨_, (!t629), ax18, H', ⟨by first | omega | exact Nat.le_refl _⟩, ⟨aU⟩, ⟨aU⟩, ⟨aU⟩, ⟨aL⟩⟩
  ·replace c8 := Bool.eq_false_iff.mpr c8
   subst c8; rw [if_neg (show ¬ (false = true) by decide)] at H; have H' := am H; clear H; obtain ⟨hnb19, hnc19⟩ := nk NB625_626; obtain ⟨hnb20, hnc20⟩ := nk NB625_627; obtain ⟨hcz21_0, hfz21_0⟩ := bz (.slice A0_0 l0_0.length c0_0) BK625; obtain ⟨hnb22, hnc22⟩ := nk NB626_627; obtain ⟨hcz23_0, hfz23_0⟩ := bz (.string a1) BK626
   go_wp2_with (first | ((with_reducible refine gd 8 110 ?_); refine gc 8 Tryz.func110 #[.agg #[.slice A0_0 l0_0.length c0_0], .string a1] (impl_areKept.calls k _ _ l0_0 a1 false _ ax30 (HC0_0.out) A7.out) ?_; rintro e w24 ⟨rfl, hb⟩; refine ⟨_, rfl, ?_⟩; replace BK625 := ub BK625 hb; replace BK626 := ub BK626 hb; replace BK627 := ub BK627 hb; replace HB := uS HB hb; (try clear hb)))
   go_meet
   case rel => exact ⟨_, (true), ax18, H', ⟨by first | omega | exact Nat.le_refl _⟩, ⟨aU⟩, ⟨aU⟩, ⟨aU⟩, ⟨aL⟩⟩
 case rest =>
  clear HC3; obtain ⟨kq, x15_2, rfl, HA, HJ2, BK625, BK626, BK627, HB⟩ := hcut
  cases kq with
  | zero => exact absurd HA.out (by simp [impl_DropWord.j0])
  | succ kj2 =>
   have H := HA.out; clear HA; simp only [impl_DropWord.j0] at H
   by_cases c25 : x15_2 = true
   ·subst c25
    rw [if_pos rfl] at H; simp only [Option.some.injEq, Prod.mk.injEq] at H; obtain ⟨rfl, rfl⟩ := H; obtain ⟨hcz26_0, hfz26_0⟩ := bz (.slice none 0 0) BK627
    go_wp2
    refine bodyPost_ret (results_ct rfl _ _ gb627 26 #[.slice none 0 0] (0, 0) _ rfl ax134 Tryz.underlying26 rfl (by kernel_rfl)) rfl ?_
    exact ⟨_, ax21, ax29, aL⟩
   ·replace c25 := Bool.eq_false_iff.mpr c25
    subst c25; rw [if_neg (show ¬ (false = true) by decide)] at H; obtain ⟨t630, A27, H⟩ := bs H; obtain ⟨t633, A28, H⟩ := bs H; obtain ⟨t636, A29, H⟩ := bs H; simp only [Option.some.injEq, Prod.mk.injEq] at H; obtain ⟨rfl, rfl⟩ := H; obtain ⟨hnb30, hnc30⟩ := nk NB625_626; obtain ⟨hnb31, hnc31⟩ := nk NB625_627; obtain ⟨hcz32_0, hfz32_0⟩ := bz (.slice A0_0 l0_0.length c0_0) BK625
    go_wp2_with (first | ((with_reducible refine gd 18 125 ?_); refine gc 18 Tryz.func125 #[.agg #[.slice A0_0 l0_0.length c0_0]] (impl_Trie_words.calls kj2 _ _ l0_0 t630 _ ax30 (HC0_0.out) A27.out) ?_; rintro e w33 ⟨v631, rfl, ho0, hb⟩; refine ⟨_, rfl, ?_⟩; have HO632 := am (Kd.R_lower (Kd.R_newB ho0 (g := gb626) (o := .cells #[.string a1] 9 (0, 0)) aU) (bS HB)); replace BK626 := ub BK626 hb; replace BK627 := ub BK627 hb; replace HB := uS HB hb; (try clear hb ho0); obtain ⟨Ao34, co34, rfl⟩ := Kd.R_slice HO632.out) | ((with_reducible refine gd 20 151 ?_); refine gc 20 Tryz.func151 #[.slice Ao34 t630.length co34, .func (.func 152) #[] #[.pointer (some ⟨gb626, 0, none⟩)]] (slices_DeleteFunc_string_string.calls (fun k_ => some k_ = (.slice Ao34 t630.length co34 : Value).ownBlock) (.slice Ao34 t630.length co34) t630 (fun z_ => impl_DropWord_1.f z_ a1) t633 w _ (by repeat (first | (with_reducible first | exact HB.out | apply below_alloc | apply pw_below_drewN | apply below_drew1 | refine below_set ?_ GE626.out | refine below_set ?_ GE627.out) | exact HB.out)) (Kd.R_tight rfl HO632.out) (enters_of Tryz.func152 (by kernel_rfl) rfl) (by intro x_ hx_ W_ hW_ hB_ r_ h_; have b0_ := blk_kept (g := gb626) (o := .cells #[.string a1] 9 (0, 0)) aU hW_ (fun hs_ => (Kd.R_away HO632.out (fun _ hk => hk.2)) hs_.1); exact impl_DropWord_1.calls x_ gb626 a1 r_ W_ b0_ h_) A28.out) ?_; rintro e w35 ⟨v634, rfl, ho0, hb, hkp⟩; refine ⟨_, rfl, ?_⟩; have n0_ := am (blk_kept (by (with_reducible repeat (first | refine blk_drewN ?_ _ | refine blk_drew ?_ | refine blk_alloc ?_ _)); exact BK626.out) hkp (fun hs_ => (fun e_ => (Kd.R_away HO632.out (fun _ hk => hk.2)) e_) hs_)); have n1_ := am (blk_kept (by (with_reducible repeat (first | refine blk_drewN ?_ _ | refine blk_drew ?_ | refine blk_alloc ?_ _)); exact BK627.out) hkp (fun hs_ => (fun e_ => (Kd.R_ne HO632.out BK627.out (by decide)) e_) hs_)); have n2_ := am (Kd.R_mono (ok' := fun k_ => k_ ≠ gb626) ho0 (fun k_ hk_ => Or.elim hk_ (fun hs_ => fun e_ => (Kd.R_away HO632.out (fun _ hk => hk.2)) (by rw [← e_]; exact hs_)) (fun hn_ => (Kd.freshB (g := gb626) (o := .cells #[.string a1] 9 (0, 0)) aU k_ hn_)))); have n3_ := am (hb); clear BK626; clear BK627; clear HB; clear HO632; have BK626 := n0_; have BK627 := n1_; have HO635 := n2_; have HB := n3_; clear n0_ n1_ n2_ n3_; (try clear hb hkp ho0); obtain ⟨Ao36, co36, rfl⟩ := Kd.R_slice HO635.out) | ((with_reducible refine gd 21 150 ?_); refine gc 21 Tryz.func150 #[.slice Ao36 t633.length co36] (impl_trieOf.calls kj2 _ _ t633 t636 _ (rd2 HO635) (rl HO635) A29.out) ?_; rintro e w37 ⟨v637, rfl, ho0, hb⟩; refine ⟨_, rfl, ?_⟩; replace HO635 := uR HO635 hb; have HO638 := am (Kd.R_lower ho0 (bS HB)); replace BK626 := ub BK626 hb; replace BK627 := ub BK627 hb; replace HB := uS HB hb; (try clear hb ho0); obtain ⟨Ao38, co38, rfl⟩ := Kd.R_slice HO638.out; obtain ⟨hcz39_0, hfz39_0⟩ := bz (.slice none 0 0) BK627))
    refine bodyPost_ret (results_ct rfl _ _ gb627 26 #[.slice Ao38 t636.length co38] (0, 0) _ rfl ax134 Tryz.underlying26 rfl (by kernel_rfl)) rfl ?_
    exact ⟨_, ax21, aU, aL⟩

end Go.Proofs.YtcplbbflfgckbaaGreatDoor.X
namespace Go.Proofs.YtcplbbflfgckbaaGreatDoor.X
open Go.RowKit Go.Proofs.YtcplbbflfgckbaaGreatDoorW.PrintWords Go.Proofs.YtcplbbflfgckbaaGreatDoorW.PrintLast Go.Proofs.YtcplbbflfgckbaaGreatDoorW.PrintMore
attribute [local go_sem] max2_int min2_int max_two min_two max_three min_three max_four min_four   -- for this text's walks alone
set_option linter.unusedVariables false
set_option linter.unusedSimpArgs false
set_option maxHeartbeats 8000000
set_option maxRecDepth 100000

/-! ### spec_DropWord: function 60 -/
def spec_DropWord.j0 : Nat → ByteArray → Bool → List (S74) → Option ((List (S74)) × Bool)
 | 0, _, _, _ => none
 | k + 1, x1, x15, x640000 => if x15 = true then (some (([] : List (S74)), false)) else ((spec_l2Words.f k x640000).bind fun t643 => ((spec_l2Place.f k t643 x1).bind fun t646 => (if t646 < 0 then (some (([] : List (S74)), false)) else (if 0 ≤ t646 then (if t646 ≤ (t643.length : Int) then ((spec_l2Own.f (t643.take (t646 : Int).toNat)).bind fun t651 => (if 0 ≤ (wrap64 (t646 + 1)) then (if (wrap64 (t646 + 1)) ≤ (t643.length : Int) then ((some (t643.drop ((wrap64 (t646 + 1)) : Int).toNat : List ByteArray)).bind fun y654 => (if t651.length + y654.length < 8796093022208 then ((spec_l2Of.f k (t651 ++ y654)).bind fun t661 => (some (t661, true))) else (none))) else (none)) else (none))) else (none)) else (none)))))
def spec_DropWord.f (k : Nat) (l0_0 : List (S74)) (a1 : ByteArray) : Option ((List (S74)) × Bool) := (spec_l2Trie.f k l0_0).bind fun t641 => (if t641 = true then ((spec_l2Word.f k a1).bind fun t642 => (spec_DropWord.j0 k a1 (!t642) l0_0)) else (spec_DropWord.j0 k a1 true l0_0))
def spec_DropWord.T7 : Bool × List (List Nat × List Nat) := (true, [([], []), ([], []), ([0, 1], [0, 1]), ([2], [2]), ([], []), ([], []), ([5], [5]), ([4, 6], [4, 6]), ([3, 7, 3], [3, 7]), ([8, 8], [8]), ([9, 9, 0, 1, 2, 3, 4, 5, 6, 7, 8, 9], [9]), ([10, 0, 1, 2, 3, 4, 5, 6, 7, 8, 9, 10], [])])
def spec_DropWord.B7 : List Nat := [0, 0, 3, 7, 0, 0, 32, 112, 255, 511, 1023, 2047]
theorem spec_DropWord.tab7 : rtab .any (opsOf Tryz.f60 7) = spec_DropWord.T7 := by kernel_rfl
theorem spec_DropWord.bits7 : waitsOk spec_DropWord.T7.2 spec_DropWord.B7 = true := by kernel_rfl
theorem spec_DropWord.calls (k : Nat) (A0_0 : Option Addr) (c0_0 : Nat) (l0_0 : List (S74)) (a1 : ByteArray) (r1 : List (S74)) (r2 : Bool) (w : World) (hr0_0 : Kd.C k74 w A0_0 l0_0.length l0_0) (hc0_0 : l0_0.length ≤ c0_0) (h : spec_DropWord.f k l0_0 a1 = some (r1, r2)) :
  Calls Tryz.prog 60 #[.agg #[.slice A0_0 l0_0.length c0_0], .string a1] w fun e w' => ∃ v0_ : Value, e = .returned (.tuple #[.agg #[v0_], .bool r2]) ∧ Kd.R k74 74 w' w.heap.size (fun _ => True) v0_ r1 ∧ Below w.heap.size w w' := by
 have hu26 := Tryz.underlying26; have HR0_0 := am hr0_0; have HC0_0 := am hc0_0; clear hr0_0 hc0_0; have HB := am (Below.refl w.heap.size w)
 unfold spec_DropWord.f at h
 have H := h; clear h; have HC3 := am H; clear H
 go_enter Tryz.func60, Tryz.ntmps60
 go_upto_region 1 with (first | ((with_reducible refine gt 2 ?_); refine bx 2 #[.slice A0_0 l0_0.length c0_0] 26 ?_; intro gb639 hg w4 hbox hb; have BK639 := am (hbox); have GW639 := uG hg HB; have GE639 := uG hg HB; replace HB := uB HB hb; clear hb hbox hg) | ((with_reducible refine gt 4 ?_); refine bx 4 #[.slice none 0 0] 26 ?_; intro gb640 hg w5 hbox hb; have BK640 := am (hbox); have GW640 := uH hg HB; have GE640 := uH hg HB; replace HB := uS HB hb; obtain ⟨NB639_640, NB640_639, BK639⟩ := uA hg hb BK639; clear hb hbox hg))
 (try simp only [Act.put, List.setIfInBounds_toArray, List.set_cons_zero, List.set_cons_succ])
 go_cut [15] (fun v15 wc => ∃ (kq : Nat) (x15_2 : Bool), v15 = .bool x15_2 ∧ Aside0 (spec_DropWord.j0 kq a1 x15_2 l0_0 = some (r1, r2)) ∧ Aside0 (kq ≤ k) ∧ Aside0 (wc.heap[gb639]? = some (.cells #[(.slice A0_0 l0_0.length c0_0)] 26 (0, 0))) ∧ Aside0 (wc.heap[gb640]? = some (.cells #[(.slice none 0 0)] 26 (0, 0))) ∧ Aside0 (Below w.heap.size w wc))
 case first =>
  have H := HC3.out; clear HC3; obtain ⟨t641, A6, H⟩ := bs H
  by_cases c7 : t641 = true
  ·subst c7
   rw [if_pos rfl] at H; obtain ⟨t642, A8, H⟩ := bs H; have H' := am H; clear H; obtain ⟨hnb9, hnc9⟩ := nk NB639_640; obtain ⟨hcz10_0, hfz10_0⟩ := bz (.slice A0_0 l0_0.length c0_0) BK639
   go_wp2_with (first | ((with_reducible refine gd 9 113 ?_); refine gc 9 Tryz.func113 #[.agg #[.slice A0_0 l0_0.length c0_0]] (spec_l2Trie.calls k _ _ l0_0 true _ ax30 (HC0_0.out) A6.out) ?_; rintro e w11 ⟨rfl, hb⟩; refine ⟨_, rfl, ?_⟩; replace BK639 := ub BK639 hb; replace BK640 := ub BK640 hb; replace HB := uS HB hb; (try clear hb)) | (go_at_call 117; (with_reducible refine (spec_l2Word.calls k a1 t642 _ A8.out).mono ?_); rintro e w' ⟨rfl, ⟨nd, rfl⟩⟩))
   go_meet
   case rel => exact ⟨_, (!t642), ax18, H', ⟨by first | omega | exact Nat.le_refl _⟩, ⟨aU⟩, ⟨aU⟩, ⟨aL⟩⟩
  ·replace c7 := Bool.eq_false_iff.mpr c7
   subst c7; rw [if_neg (show ¬ (false = true) by decide)] at H; have H' := am H; clear H; obtain ⟨hnb12, hnc12⟩ := nk NB639_640; obtain ⟨hcz13_0, hfz13_0⟩ := bz (.slice A0_0 l0_0.length c0_0) BK639
   go_wp2_with (first | ((with_reducible refine gd 9 113 ?_); refine gc 9 Tryz.func113 #[.agg #[.slice A0_0 l0_0.length c0_0]] (spec_l2Trie.calls k _ _ l0_0 false _ ax30 (HC0_0.out) A6.out) ?_; rintro e w14 ⟨rfl, hb⟩; refine ⟨_, rfl, ?_⟩; replace BK639 := ub BK639 hb; replace BK640 := ub BK640 hb; replace HB := uS HB hb; (try clear hb)))
   go_meet
   case rel => exact ⟨_, (true), ax18, H', ⟨by first | omega | exact Nat.le_refl _⟩, ⟨aU⟩, ⟨aU⟩, ⟨aL⟩⟩
 case rest =>
  clear HC3; obtain ⟨kq, x15_2, rfl, HA, HJ2, BK639, BK640, HB⟩ := hcut
  cases kq with
  | zero => exact absurd HA.out (by simp [spec_DropWord.j0])
  | succ kj2 =>
   have H := HA.out; clear HA; simp only [spec_DropWord.j0] at H
   by_cases c15 : x15_2 = true
   ·subst c15
    rw [if_pos rfl] at H; simp only [Option.some.injEq, Prod.mk.injEq] at H; obtain ⟨rfl, rfl⟩ := H; obtain ⟨hcz16_0, hfz16_0⟩ := bz (.slice none 0 0) BK640
    go_wp2
    refine bodyPost_ret (results_ct rfl _ _ gb640 26 #[.slice none 0 0] (0, 0) _ rfl ax135 Tryz.underlying26 rfl (by kernel_rfl)) rfl ?_
    exact ⟨_, ax21, ax29, aL⟩
   ·replace c15 := Bool.eq_false_iff.mpr c15
    subst c15; rw [if_neg (show ¬ (false = true) by decide)] at H; obtain ⟨t643, A17, H⟩ := bs H; obtain ⟨t646, A18, H⟩ := bs H
    by_cases c19 : t646 < 0
    ·rw [if_pos c19] at H
     have c19b0 := decide_eq_true c19; clear c19; simp only [Option.some.injEq, Prod.mk.injEq] at H; obtain ⟨rfl, rfl⟩ := H; obtain ⟨hnb20, hnc20⟩ := nk NB639_640; obtain ⟨hcz21_0, hfz21_0⟩ := bz (.slice A0_0 l0_0.length c0_0) BK639
     go_wp2_with (first | ((with_reducible refine gd 18 115 ?_); refine gc 18 Tryz.func115 #[.agg #[.slice A0_0 l0_0.length c0_0]] (spec_l2Words.calls kj2 _ _ l0_0 t643 _ ax30 (HC0_0.out) A17.out) ?_; rintro e w22 ⟨v644, rfl, ho0, hb⟩; refine ⟨_, rfl, ?_⟩; have HO645 := am (Kd.R_lower ho0 (bS HB)); replace BK640 := ub BK640 hb; replace HB := uS HB hb; (try clear hb ho0); obtain ⟨Ao23, co23, rfl⟩ := Kd.R_slice HO645.out) | ((with_reducible refine gd 21 153 ?_); refine gc 21 Tryz.func153 #[.slice Ao23 t643.length co23, .string a1] (spec_l2Place.calls kj2 _ _ t643 a1 t646 _ (rd2 HO645) (rl HO645) A18.out) ?_; rintro e w' ⟨rfl, ⟨nd, rfl⟩⟩; refine ⟨_, rfl, ?_⟩; (try (rw [drewN_self w22]; generalize hq_ : World.drewN w22 _ = w22; have n0_ := qR HO645 hq_; have n1_ := qB BK640 hq_; have n2_ := qL HB hq_; clear HO645 BK640 HB hq_; have HO645 := n0_; have BK640 := n1_; have HB := n2_; clear n0_ n1_ n2_)); obtain ⟨hcz24_0, hfz24_0⟩ := bz (.slice none 0 0) BK640))
     refine bodyPost_ret (results_ct rfl _ _ gb640 26 #[.slice none 0 0] (0, 0) _ rfl ax135 Tryz.underlying26 rfl (by kernel_rfl)) rfl ?_
     exact ⟨_, ax21, ax29, aL⟩
    ·rw [if_neg c19] at H
     have c19b0 := decide_eq_false c19; clear c19
     by_cases c25 : 0 ≤ t646
     ·rw [if_pos c25] at H
      have c25b0 := eq_true c25; have c25b1 := decide_eq_true c25; clear c25
      by_cases c26 : t646 ≤ (t643.length : Int)
      ·rw [if_pos c26] at H
       have c26b0 := eq_true c26; have c26b1 := decide_eq_true c26; clear c26; obtain ⟨y647, hy647⟩ : ∃ y_ : List ByteArray, y_ = (t643.take (t646 : Int).toNat) := ⟨_, rfl⟩
       replace H : ((spec_l2Own.f y647).bind fun t651 => (if 0 ≤ (wrap64 (t646 + 1)) then (if (wrap64 (t646 + 1)) ≤ (t643.length : Int) then ((some (t643.drop ((wrap64 (t646 + 1)) : Int).toNat : List ByteArray)).bind fun y654 => (if t651.length + y654.length < 8796093022208 then ((spec_l2Of.f kj2 (t651 ++ y654)).bind fun t661 => (some (t661, true))) else (none))) else (none)) else (none))) = some (r1, r2) := by first | (rw [hy647]; with_reducible exact H) | (have H2_ := (Option.bind_some _ _).symm.trans H; rw [hy647]; with_reducible exact H2_) | (have H2_ := (Option.bind_some _ _).symm.trans H; with_reducible exact H2_) | with_reducible exact H | (rw [hy647]; exact H) | exact H
       have Ny647 := am hy647; clear hy647; obtain ⟨t651, A27, H⟩ := bs H; obtain ⟨ji28, hji28⟩ : ∃ j_ : Int, (wrap64 (t646 + 1)) = j_ := ⟨_, rfl⟩; (first | rw [hji28] at H | simp only [hji28] at H); (try rw [hji28] at A17); (try rw [hji28] at A18); (try rw [hji28] at A27); have hji28w : (IntKind.i64.wrap (t646 + 1)) = ji28 := (i64_w _).trans hji28
       by_cases c29 : 0 ≤ (ji28)
       ·rw [if_pos c29] at H
        have c29b0 := eq_true c29; have c29b1 := decide_eq_true c29; clear c29
        by_cases c30 : (ji28) ≤ (t643.length : Int)
        ·rw [if_pos c30] at H
         have c30b0 := eq_true c30; have c30b1 := decide_eq_true c30; clear c30; obtain ⟨y654, hy654⟩ : ∃ y_ : List ByteArray, y_ = (t643.drop ((ji28) : Int).toNat) := ⟨_, rfl⟩
         replace H : (if t651.length + y654.length < 8796093022208 then ((spec_l2Of.f kj2 (t651 ++ y654)).bind fun t661 => (some (t661, true))) else (none)) = some (r1, r2) := by first | (rw [hy654]; with_reducible exact H) | (have H2_ := (Option.bind_some _ _).symm.trans H; rw [hy654]; with_reducible exact H2_) | (have H2_ := (Option.bind_some _ _).symm.trans H; with_reducible exact H2_) | with_reducible exact H | (rw [hy654]; exact H) | exact H
         have Ny654 := am hy654; clear hy654
         by_cases c31 : t651.length + y654.length < 8796093022208
         ·rw [if_pos c31] at H
          have LMc31 := am c31; clear c31; obtain ⟨y658, hy658⟩ : ∃ y_ : List ByteArray, y_ = (t651 ++ y654) := ⟨_, rfl⟩
          replace H : ((spec_l2Of.f kj2 y658).bind fun t661 => (some (t661, true))) = some (r1, r2) := by first | (rw [hy658]; with_reducible exact H) | (have H2_ := (Option.bind_some _ _).symm.trans H; rw [hy658]; with_reducible exact H2_) | (have H2_ := (Option.bind_some _ _).symm.trans H; with_reducible exact H2_) | with_reducible exact H | (rw [hy658]; exact H) | exact H
          have Ny658 := am hy658; clear hy658; obtain ⟨t661, A32, H⟩ := bs H; simp only [Option.some.injEq, Prod.mk.injEq] at H; obtain ⟨rfl, rfl⟩ := H; obtain ⟨hnb33, hnc33⟩ := nk NB639_640; obtain ⟨hcz34_0, hfz34_0⟩ := bz (.slice A0_0 l0_0.length c0_0) BK639
          try go_wp2_with (first | ((with_reducible refine gd 18 115 ?_); refine gc 18 Tryz.func115 #[.agg #[.slice A0_0 l0_0.length c0_0]] (spec_l2Words.calls kj2 _ _ l0_0 t643 _ ax30 (HC0_0.out) A17.out) ?_; rintro e w35 ⟨v644, rfl, ho0, hb⟩; refine ⟨_, rfl, ?_⟩; have HO645 := am (Kd.R_lower ho0 (bS HB)); replace BK640 := ub BK640 hb; replace HB := uS HB hb; (try clear hb ho0); obtain ⟨Ao36, co36, rfl⟩ := Kd.R_slice HO645.out) | ((with_reducible refine gd 21 153 ?_); refine gc 21 Tryz.func153 #[.slice Ao36 t643.length co36, .string a1] (spec_l2Place.calls kj2 _ _ t643 a1 t646 _ (rd2 HO645) (rl HO645) A18.out) ?_; rintro e w' ⟨rfl, ⟨nd, rfl⟩⟩; refine ⟨_, rfl, ?_⟩; (try (rw [drewN_self w35]; generalize hq_ : World.drewN w35 _ = w35; have n0_ := qR HO645 hq_; have n1_ := qB BK640 hq_; have n2_ := qL HB hq_; clear HO645 BK640 HB hq_; have HO645 := n0_; have BK640 := n1_; have HB := n2_; clear n0_ n1_ n2_))))
          replace HO645 := am (Kd.R_drew HO645.out); replace BK640 := am (blk_drew BK640.out); replace HB := am (below_drew1 HB.out); have q38 : (t646 : Int) ≤ ((t643.length : Int) : Int) := of_decide_eq_true ax23; obtain ⟨i038, hi038, _, hsz38, _⟩ := info_parts info9; have hroom38 : t643.length ≤ co36 := (Kd.R_reads' HO645.out).2.1; have hC38 : Kd.C Kd.string _ Ao36 t643.length t643 := (Kd.R_reads' HO645.out).2.2; have hcut38 := cut_to (P := Tryz.prog) 31 9 .i64 Tryz.underlying31 hi038 Ao36 t643.length co36 t646 (of_decide_eq_true ax23) q38 hroom38; have hr38 := Kd.C_take (m := (t646 : Int).toNat) hC38 (by omega); have hy38 : y647.length = (t646 : Int).toNat := (by rw [Ny647.out, List.length_take]; omega); rw [← Ny647.out] at hr38; rw [← hy38] at hcut38; have HR650 := am hr38; have HC650 := am (show y647.length ≤ co36 from by omega); clear hr38 hC38 hroom38 hi038 hsz38; have KY38 := am hy38; clear hy38; have KL38 := am (show (t646 : Int).toNat ≤ t643.length from by omega); replace q38 := eq_true q38; have q39 : ((ji28) : Int) ≤ ((t643.length : Int) : Int) := of_decide_eq_true ax23; obtain ⟨i039, hi039, _, hsz39, _⟩ := info_parts info9; have hroom39 : t643.length ≤ co36 := (Kd.R_reads' HO645.out).2.1; have hC39 : Kd.C Kd.string _ Ao36 t643.length t643 := (Kd.R_reads' HO645.out).2.2; have q039 : (0 : Int) ≤ ((ji28) : Int) := of_decide_eq_true ax23; have hcut39 := cut_from (P := Tryz.prog) 31 9 .i64 Tryz.underlying31 hi039 1 hsz39 Ao36 t643.length co36 (ji28) q039 q39; have hr39 := Kd.C_drop (m := ((ji28) : Int).toNat) (c := co36) hC39 (by omega) hroom39; obtain ⟨A39, hA39⟩ : ∃ A1, A1 = (if co36 = ((ji28) : Int).toNat then Ao36 else (Ao36 : Option Addr).map (·.add (((ji28) : Int).toNat * 1))) := ⟨_, rfl⟩; obtain ⟨c39, hc39⟩ : ∃ c1, c1 = co36 - ((ji28) : Int).toNat := ⟨_, rfl⟩; have hy39 : y654.length = t643.length - ((ji28) : Int).toNat := (by rw [Ny654.out, List.length_drop] <;> omega); rw [show (t643).drop ((ji28) : Int).toNat = y654 from Ny654.out.symm] at hr39; replace hr39 : Kd.C Kd.string _ A39 y654.length y654 := (by rw [hA39]; exact hr39); rw [← hy39, ← hA39, ← hc39] at hcut39; have HR657 := am hr39; have HC657 := am (show y654.length ≤ c39 from by rw [hy39, hc39]; exact Nat.sub_le_sub_right hroom39 _); clear hr39 hC39 hroom39 hi039 hsz39 hc39; have KY39 := am hy39; have KA39 := am hA39; clear hy39 hA39; have KL39 := am (show ((ji28) : Int).toNat ≤ t643.length from by omega); replace q39 := eq_true q39; refine start_ (n := 12) (S := fun w' => True) (ds := []) (ob 12 0) (by kernel_rfl) rfl rfl trivial (fun hHeld => ?_); refine with_tabW spec_DropWord.tab7 spec_DropWord.bits7 (fun HT_ HW_ => ?_); generalize w35.drew = w37 at HO645 BK640 HB HR650 HR657 hHeld ⊢; refine pu 0 25 ?_; refine pu 1 26 ?_; refine pu 2 27 ?_; refine pu 4 29 ?_; refine pu 5 30 ?_; refine pu 6 31 ?_; refine pu 7 32 ?_; refine one_ (i := 3) (N := some 28) (ob 12 255) rfl rfl (one_of HT_.out (by kernel_rfl)) (by decide) (fun K hK => ?_); refine goes_ Tryz.func154 (by kernel_rfl) rfl #[.slice Ao36 y647.length co36] (by rfl) rfl rfl ax26 ?_
          with_reducible refine (spec_l2Own.calls _ _ y647 t651 _ ?side1 ?side2 A27.out).mono ?_
          (case side1 => repeat (first | exact ax136 | (with_reducible refine Kd.C_alloc ?_ _) | (with_reducible refine Kd.C_drewN ?_ _) | (with_reducible refine Kd.C_drew ?_)))
          (case side2 => exact HC650.out)
          rintro e w40 ⟨v652, rfl, ho0, hb⟩; refine ⟨_, rfl, ?_⟩; have HO653 := am (Kd.R_lower (Kd.R_new' ho0 (Kd.R_lt (rX HO645))) (bS HB)); replace HO645 := am (Kd.R_elder' (rX HO645) (Kd.R_base ho0) hb); replace BK640 := ub BK640 hb; replace HR650 := am (Kd.C_below ax136 hb); replace HR657 := am (Kd.C_below ax137 hb); replace HB := uS HB hb; (try clear hb); (try clear hb2); (try clear hk); (try clear hi); (try clear ho0); refine hK.out _ _ trivial (fun hHeld => ?_); clear hK K; refine nm 28 ?_; refine one_ (i := 8) (N := some 33) (ob 12 511) rfl rfl (one_of HT_.out (by kernel_rfl)) (by decide) (fun K hK => ?_); refine Kd.R_append_rows_step Kd.string (w0 := w) w.heap.size (by rfl) (.tmp 28) (.tmp 32) 31 9 (.string ⟨#[]⟩) 16 rfl Tryz.underlying31 info9 rfl (by decide) (by omega) v652 t651 y654 _ _ _ (fun k_ => some k_ ≠ (.slice Ao36 t643.length co36 : Value).ownBlock) (fun _ => False) rfl rfl ?aO ?aR (fun _ _ h => h) (fun _ h => h.elim) ?aF ?aB ?aS ?aL ?_
          (case aR => repeat (first | exact ax137 | (with_reducible refine Kd.C_alloc ?_ _) | (with_reducible refine Kd.C_drewN ?_ _) | (with_reducible refine Kd.C_drew ?_)))
          (case aB => exact aL)
          (case aF => exact (fun k_ hk => Kd.fresh' (Kd.R_lt (rX HO645)) k_ hk))
          (case aO => exact (by (with_reducible repeat (first | apply Kd.R_alloc | apply Kd.R_drewN | apply Kd.R_drew)); exact Kd.R_mono HO653.out (fun _ hk => hk.2)))
          (case aS => exact ax28)
          (case aL => have := LMc31.out; omega)
          intro v659 w41 ho hb hg hat; rw [← Ny658.out] at ho; have n0_ := am (blk_grown (g := gb640) (o := .cells #[.slice none 0 0] 26 (0, 0)) aU hg (Kd.R_ne HO653.out BK640.out (by decide))); have n1_ := am (Kd.R_after (ok := (fun _ => True)) (rX HO645) hg hat); have n2_ := am (hb); have n3_ := am ((show Kd.C Kd.string w41 Ao36 y647.length y647 from by rw [Ny647.out]; exact Kd.C_take (m := (t646 : Int).toNat) ((Kd.R_reads' (Kd.R_after (ok := (fun _ => True)) (rX HO645) hg hat)).2.2) KL38.out)); have n4_ := am ((show Kd.C Kd.string w41 A39 y654.length y654 from by rw [Ny654.out, KA39.out]; exact Kd.C_drop (m := ((ji28) : Int).toNat) (c := co36) ((Kd.R_reads' (Kd.R_after (ok := (fun _ => True)) (rX HO645) hg hat)).2.2) KL39.out ((Kd.R_reads' (Kd.R_after (ok := (fun _ => True)) (rX HO645) hg hat)).2.1))); have n5_ := am (ho); clear BK640; clear HO645; clear HB; clear HR650; clear HR657; clear HO653; have BK640 := n0_; have HO645 := n1_; have HB := n2_; have HR650 := n3_; have HR657 := n4_; have HO660 := n5_; clear n0_ n1_ n2_ n3_ n4_ n5_; clear ho hb hg hat; obtain ⟨Ao42, co42, eo42⟩ := Kd.R_slice HO660.out; (first | subst eo42 | (injection eo42 with f1_ f2_ f3_; have f4_ := f1_.symm; have f5_ := f3_.symm; clear f1_ f2_ f3_; subst f4_; subst f5_)); refine hK.out _ _ trivial (fun hHeld => ?_); clear hK K; refine nm 33 ?_; refine one_ (i := 9) (N := some 34) (ob 12 1023) rfl rfl (one_of HT_.out (by kernel_rfl)) (by decide) (fun K hK => ?_); refine goes_ Tryz.func123 (by kernel_rfl) rfl #[.slice Ao42 y658.length co42] (by rfl) rfl rfl ax26 ?_
          with_reducible refine (spec_l2Of.calls kj2 _ _ y658 t661 _ ?side1 ?side2 A32.out).mono ?_
          (case side1 => repeat (first | exact (Kd.R_reads' HO660.out).2.2 | (with_reducible refine Kd.C_alloc ?_ _) | (with_reducible refine Kd.C_drewN ?_ _) | (with_reducible refine Kd.C_drew ?_)))
          (case side2 => exact (Kd.R_reads' HO660.out).2.1)
          rintro e w43 ⟨v662, rfl, ho0, hb⟩; refine ⟨_, rfl, ?_⟩; replace HO645 := uR HO645 hb; replace HO660 := uR HO660 hb; have HO663 := am (Kd.R_lower ho0 (bS HB)); replace BK640 := ub BK640 hb; replace HR650 := am (Kd.C_below ax136 hb); replace HR657 := am (Kd.C_below ax137 hb); replace HB := uS HB hb; (try clear hb); (try clear hb2); (try clear hk); (try clear hi); (try clear ho0); obtain ⟨Ao44, co44, eo44⟩ := Kd.R_slice HO663.out; (first | subst eo44 | (injection eo44 with f1_ f2_ f3_; have f4_ := f1_.symm; have f5_ := f3_.symm; clear f1_ f2_ f3_; subst f4_; subst f5_)); refine hK.out _ _ trivial (fun hHeld => ?_); clear hK K; refine nm 34 ?_; refine one_ (i := 10) (N := none) (ob 12 2047) rfl rfl (one_of HT_.out (by kernel_rfl)) (by decide) (fun K hK => ?_); have hs45 : w43.cell? ⟨gb640, 0, none⟩ = some (.slice none 0 0) := (blk_cell BK640.out 0).trans rfl; have hfs45 := blk_frozen BK640.out 0; refine skip_ (w1 := ?_) (by rfl) rfl ?_ ?_
          rotate_left
          ·go_simp
           rfl
          refine hK.out _ _ trivial (fun hHeld => ?_); clear hK K; refine pu 11 5 ?_; refine dn ?_
          try go_wp2
          refine bodyPost_ret (results_ct rfl _ _ gb640 26 #[.slice Ao44 t661.length co44] (0, 0) _ rfl ax135 Tryz.underlying26 rfl (by kernel_rfl)) rfl ?_
          exact ⟨_, (by first | rfl | (simp [errW_none, errW_some] <;> rfl) | (simp only [← hji28]; first | rfl | (simp [errW_none, errW_some] <;> rfl)) | (simp [*, errW_none, errW_some] <;> rfl)), aU, aL⟩
         ·exact ax15
        ·rw [if_neg c30] at H
         exact absurd H (by simp)
       ·exact ax8
      ·exact ax9
     ·rw [if_neg c25] at H
      exact absurd H (by simp)

/-! ### spec_HasWord: function 61 -/
def spec_HasWord.j0 : Nat → ByteArray → Bool → List (S74) → Option (Bool × Bool)
 | 0, _, _, _ => none
 | k + 1, x1, x13, x665000 => if x13 = true then (some (false, false)) else ((spec_l2Words.f k x665000).bind fun t667 => ((spec_l2Has.f k t667 x1).bind fun t670 => (some (t670, true))))
def spec_HasWord.f (k : Nat) (l0_0 : List (S74)) (a1 : ByteArray) : Option (Bool × Bool) := (spec_l2Trie.f k l0_0).bind fun t665 => (if t665 = true then ((spec_l2Word.f k a1).bind fun t666 => (spec_HasWord.j0 k a1 (!t666) l0_0)) else (spec_HasWord.j0 k a1 true l0_0))
theorem spec_HasWord.calls (k : Nat) (A0_0 : Option Addr) (c0_0 : Nat) (l0_0 : List (S74)) (a1 : ByteArray) (r1 : Bool) (r2 : Bool) (w : World) (hr0_0 : Kd.C k74 w A0_0 l0_0.length l0_0) (hc0_0 : l0_0.length ≤ c0_0) (h : spec_HasWord.f k l0_0 a1 = some (r1, r2)) :
  Calls Tryz.prog 61 #[.agg #[.slice A0_0 l0_0.length c0_0], .string a1] w fun e w' => e = .returned (.tuple #[.bool r1, .bool r2]) ∧ Below w.heap.size w w' := by
 have hu26 := Tryz.underlying26; have HR0_0 := am hr0_0; have HC0_0 := am hc0_0; clear hr0_0 hc0_0; have HB := am (Below.refl w.heap.size w)
 unfold spec_HasWord.f at h
 have H := h; clear h; have HC3 := am H; clear H
 go_enter Tryz.func61, Tryz.ntmps61
 go_upto_region 1 with (first | ((with_reducible refine gt 2 ?_); refine bx 2 #[.slice A0_0 l0_0.length c0_0] 26 ?_; intro gb664 hg w4 hbox hb; have BK664 := am (hbox); have GW664 := uG hg HB; have GE664 := uG hg HB; replace HB := uB HB hb; clear hb hbox hg))
 (try simp only [Act.put, List.setIfInBounds_toArray, List.set_cons_zero, List.set_cons_succ])
 go_cut [13] (fun v13 wc => ∃ (kq : Nat) (x13_2 : Bool), v13 = .bool x13_2 ∧ Aside0 (spec_HasWord.j0 kq a1 x13_2 l0_0 = some (r1, r2)) ∧ Aside0 (kq ≤ k) ∧ Aside0 (wc.heap[gb664]? = some (.cells #[(.slice A0_0 l0_0.length c0_0)] 26 (0, 0))) ∧ Aside0 (Below w.heap.size w wc))
 case first =>
  have H := HC3.out; clear HC3; obtain ⟨t665, A5, H⟩ := bs H
  by_cases c6 : t665 = true
  ·subst c6
   rw [if_pos rfl] at H; obtain ⟨t666, A7, H⟩ := bs H; have H' := am H; clear H; obtain ⟨hcz8_0, hfz8_0⟩ := bz (.slice A0_0 l0_0.length c0_0) BK664
   go_wp2_with (first | ((with_reducible refine gd 7 113 ?_); refine gc 7 Tryz.func113 #[.agg #[.slice A0_0 l0_0.length c0_0]] (spec_l2Trie.calls k _ _ l0_0 true _ ax30 (HC0_0.out) A5.out) ?_; rintro e w9 ⟨rfl, hb⟩; refine ⟨_, rfl, ?_⟩; replace BK664 := ub BK664 hb; replace HB := uS HB hb; (try clear hb)) | (go_at_call 117; (with_reducible refine (spec_l2Word.calls k a1 t666 _ A7.out).mono ?_); rintro e w' ⟨rfl, ⟨nd, rfl⟩⟩))
   go_meet
   case rel => exact ⟨_, (!t666), ax18, H', ⟨by first | omega | exact Nat.le_refl _⟩, ⟨aU⟩, ⟨aL⟩⟩
  ·replace c6 := Bool.eq_false_iff.mpr c6
   subst c6; rw [if_neg (show ¬ (false = true) by decide)] at H; have H' := am H; clear H; obtain ⟨hcz10_0, hfz10_0⟩ := bz (.slice A0_0 l0_0.length c0_0) BK664
   go_wp2_with (first | ((with_reducible refine gd 7 113 ?_); refine gc 7 Tryz.func113 #[.agg #[.slice A0_0 l0_0.length c0_0]] (spec_l2Trie.calls k _ _ l0_0 false _ ax30 (HC0_0.out) A5.out) ?_; rintro e w11 ⟨rfl, hb⟩; refine ⟨_, rfl, ?_⟩; replace BK664 := ub BK664 hb; replace HB := uS HB hb; (try clear hb)))
   go_meet
   case rel => exact ⟨_, (true), ax18, H', ⟨by first | omega | exact Nat.le_refl _⟩, ⟨aU⟩, ⟨aL⟩⟩
 case rest =>
  clear HC3; obtain ⟨kq, x13_2, rfl, HA, HJ2, BK664, HB⟩ := hcut
  cases kq with
  | zero => exact absurd HA.out (by simp [spec_HasWord.j0])
  | succ kj2 =>
   have H := HA.out; clear HA; simp only [spec_HasWord.j0] at H
   by_cases c12 : x13_2 = true
   ·subst c12
    rw [if_pos rfl] at H; simp only [Option.some.injEq, Prod.mk.injEq] at H; obtain ⟨rfl, rfl⟩ := H
    go_wp2
    go_ret2
    exact ⟨ax21, aL⟩
   ·replace c12 := Bool.eq_false_iff.mpr c12
    subst c12; rw [if_neg (show ¬ (false = true) by decide)] at H; obtain ⟨t667, A13, H⟩ := bs H; obtain ⟨t670, A14, H⟩ := bs H; simp only [Option.some.injEq, Prod.mk.injEq] at H; obtain ⟨rfl, rfl⟩ := H; obtain ⟨hcz15_0, hfz15_0⟩ := bz (.slice A0_0 l0_0.length c0_0) BK664
    go_wp2_with (first | ((with_reducible refine gd 15 115 ?_); refine gc 15 Tryz.func115 #[.agg #[.slice A0_0 l0_0.length c0_0]] (spec_l2Words.calls kj2 _ _ l0_0 t667 _ ax30 (HC0_0.out) A13.out) ?_; rintro e w16 ⟨v668, rfl, ho0, hb⟩; refine ⟨_, rfl, ?_⟩; have HO669 := uL ho0 HB; replace HB := uB HB hb; (try clear hb ho0); obtain ⟨Ao17, co17, rfl⟩ := Kd.R_slice HO669.out) | ((with_reducible refine gd 17 114 ?_); refine gc 17 Tryz.func114 #[.slice Ao17 t667.length co17, .string a1] (spec_l2Has.calls kj2 _ _ t667 a1 t670 _ (rd2 HO669) (rl HO669) A14.out) ?_; rintro e w' ⟨rfl, ⟨nd, rfl⟩⟩; refine ⟨_, rfl, ?_⟩))
    go_ret2
    exact ⟨ax21, aL⟩

/-! ### impl_IsWord: function 62 -/
def impl_IsWord.f (a0 : ByteArray) : Option (Bool) := (impl_isWord.f a0).bind fun t671 => (some t671)
theorem impl_IsWord.calls (a0 : ByteArray) (r : Bool) (w : World) (h : impl_IsWord.f a0 = some r) :
  Calls Tryz.prog 62 #[.string a0] w fun e w' => e = .returned (.bool r) ∧ Below w.heap.size w w' := by
 have HB := am (Below.refl w.heap.size w)
 unfold impl_IsWord.f at h
 have H := h; clear h; obtain ⟨t671, A2, H⟩ := bs H; obtain rfl := Option.some.inj H
 go_enter Tryz.func62, Tryz.ntmps62
 go_wp2_with (first | ((with_reducible refine gd 4 142 ?_); refine gc 4 Tryz.func142 #[.string a0] (impl_isWord.calls a0 t671 _ A2.out) ?_; rintro e w3 ⟨rfl, hb⟩; refine ⟨_, rfl, ?_⟩; replace HB := uB HB hb; (try clear hb)))
 go_ret
 exact ⟨ax21, aL⟩

end Go.Proofs.YtcplbbflfgckbaaGreatDoor.X

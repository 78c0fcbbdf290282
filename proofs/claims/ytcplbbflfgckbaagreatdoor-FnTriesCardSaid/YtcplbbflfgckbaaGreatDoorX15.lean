-- By gen.py (the session's own program over the kit's printer): functions of the program, each with its contract. Lean checks it.
import Derived.Test.YtcplbbflfgckbaaGreatDoorX5
import Derived.Test.YtcplbbflfgckbaaGreatDoorX9
import Derived.Test.YtcplbbflfgckbaaGreatDoorX12
namespace Go.Proofs.YtcplbbflfgckbaaGreatDoor.X
open Go.RowKit Go.Proofs.YtcplbbflfgckbaaGreatDoorW.PrintWords Go.Proofs.YtcplbbflfgckbaaGreatDoorW.PrintLast Go.Proofs.YtcplbbflfgckbaaGreatDoorW.PrintMore
attribute [local go_sem] max2_int min2_int max_two min_two max_three min_three max_four min_four   -- for this text's walks alone
set_option linter.unusedVariables false
set_option linter.unusedSimpArgs false
set_option maxHeartbeats 8000000
set_option maxRecDepth 100000

/-! ### spec_l1Cur_trie: function 108 -/
def spec_l1Cur_trie.f (k : Nat) (s0_0 : List Int) (s0_1 : Int) (s0_2 : Int) : Option ((List (S74)) × Int × Int) := (spec_l1Cur_words.f k s0_0 s0_1 s0_2).bind fun bt418 => ((spec_l2Set.f k bt418.1).bind fun bt423 => (if bt423.2 = true then ((spec_l2Of.f k bt423.1).bind fun t427 => ((spec_l1Cur_pick.f s0_0 bt418.2.1 bt418.2.2 60).bind fun bt431 => (if bt431.1 = 0 then ((spec_l1Cur_pick.f s0_0 bt431.2.1 bt431.2.2 (t427.length : Int)).bind fun bt434 => ((spec_l1Cur_one.f s0_0 bt434.2.1 bt434.2.2 2).bind fun bt437 => (if 0 ≤ bt434.1 then (if bt434.1 < (t427.length : Int) then (some ((t427.set (bt434.1 : Int).toNat (⟨(rd_T74 t427 bt434.1).f0, (rd_T74 t427 bt434.1).f1, bt437.1⟩ : S74)), bt437.2.1, bt437.2.2)) else (none)) else (none)))) else (if bt431.1 = 1 then ((spec_l1Cur_pick.f s0_0 bt431.2.1 bt431.2.2 (t427.length : Int)).bind fun bt441 => ((spec_l1Cur_among.f s0_0 bt441.2.1 bt441.2.2 (([(-1), 26, 0, 3] : List Int))).bind fun bt447 => (if 0 ≤ bt441.1 then (if bt441.1 < (t427.length : Int) then (some ((t427.set (bt441.1 : Int).toNat (⟨bt447.1, (rd_T74 t427 bt441.1).f1, (rd_T74 t427 bt441.1).f2⟩ : S74)), bt447.2.1, bt447.2.2)) else (none)) else (none)))) else (if bt431.1 = 2 then ((spec_l1Cur_pick.f s0_0 bt431.2.1 bt431.2.2 (t427.length : Int)).bind fun bt451 => ((spec_l1Cur_among.f s0_0 bt451.2.1 bt451.2.2 (([(-1), 0, 1, (t427.length : Int)] : List Int))).bind fun bt457 => (if 0 ≤ bt451.1 then (if bt451.1 < (t427.length : Int) then (some ((t427.set (bt451.1 : Int).toNat (⟨(rd_T74 t427 bt451.1).f0, bt457.1, (rd_T74 t427 bt451.1).f2⟩ : S74)), bt457.2.1, bt457.2.2)) else (none)) else (none)))) else (if bt431.1 = 3 then ((spec_l1Cur_one.f s0_0 bt431.2.1 bt431.2.2 2).bind fun bt461 => (if t427.length < 5864062014805 then (some ((t427 ++ [(⟨25, 0, bt461.1⟩ : S74)]), bt461.2.1, bt461.2.2)) else (none))) else (some (t427, bt431.2.1, bt431.2.2)))))))) else (some (([] : List (S74)), bt418.2.1, bt418.2.2))))
def spec_l1Cur_trie.T8 : Bool × List (List Nat × List Nat) := (true, [([], []), ([0], [0]), ([], []), ([], []), ([2, 3], [2, 3]), ([], []), ([5, 4], [5]), ([1, 4, 0, 1, 2, 3, 4, 5, 6], [1, 4]), ([7, 0, 1, 2, 3, 4, 5, 6], [7]), ([8, 6, 6, 0, 1, 2, 3, 4, 5, 6], [6, 8])])
def spec_l1Cur_trie.B8 : List Nat := [0, 1, 0, 0, 12, 0, 60, 127, 255, 511]
theorem spec_l1Cur_trie.tab8 : rtab .any (opsOf Tryz.f108 8) = spec_l1Cur_trie.T8 := by kernel_rfl
theorem spec_l1Cur_trie.bits8 : waitsOk spec_l1Cur_trie.T8.2 spec_l1Cur_trie.B8 = true := by kernel_rfl
def spec_l1Cur_trie.T10 : Bool × List (List Nat × List Nat) := (true, [([], []), ([0], [0]), ([], []), ([], []), ([2, 3], [2, 3]), ([], []), ([], []), ([5, 6, 4], [5, 6]), ([1, 4, 0, 1, 2, 3, 4, 5, 6, 7], [1, 4]), ([8, 0, 1, 2, 3, 4, 5, 6, 7], [8]), ([9, 7, 7, 0, 1, 2, 3, 4, 5, 6, 7], [7, 9])])
def spec_l1Cur_trie.B10 : List Nat := [0, 1, 0, 0, 12, 0, 0, 124, 255, 511, 1023]
theorem spec_l1Cur_trie.tab10 : rtab .any (opsOf Tryz.f108 10) = spec_l1Cur_trie.T10 := by kernel_rfl
theorem spec_l1Cur_trie.bits10 : waitsOk spec_l1Cur_trie.T10.2 spec_l1Cur_trie.B10 = true := by kernel_rfl
def spec_l1Cur_trie.T12 : Bool × List (List Nat × List Nat) := (true, [([], []), ([0], [0]), ([], []), ([], []), ([2, 3], [2, 3]), ([], []), ([], []), ([6], [6]), ([5, 7, 4], [5, 7]), ([1, 4, 0, 1, 2, 3, 4, 5, 6, 7, 8], [1, 4]), ([9, 0, 1, 2, 3, 4, 5, 6, 7, 8], [9]), ([10, 8, 8, 0, 1, 2, 3, 4, 5, 6, 7, 8], [8, 10])])
def spec_l1Cur_trie.B12 : List Nat := [0, 1, 0, 0, 12, 0, 0, 64, 252, 511, 1023, 2047]
theorem spec_l1Cur_trie.tab12 : rtab .any (opsOf Tryz.f108 12) = spec_l1Cur_trie.T12 := by kernel_rfl
theorem spec_l1Cur_trie.bits12 : waitsOk spec_l1Cur_trie.T12.2 spec_l1Cur_trie.B12 = true := by kernel_rfl
def spec_l1Cur_trie.T14 : Bool × List (List Nat × List Nat) := (true, [([], []), ([0], [0]), ([], []), ([2], [2]), ([3], [3]), ([4], [4]), ([1, 5, 3], [1, 5]), ([0, 1, 2, 3, 4, 5, 6], []), ([7, 6, 6, 0, 1, 2, 3, 4, 5, 6], [6, 7])])
def spec_l1Cur_trie.B14 : List Nat := [0, 1, 0, 4, 12, 28, 63, 127, 255]
theorem spec_l1Cur_trie.tab14 : rtab .any (opsOf Tryz.f108 14) = spec_l1Cur_trie.T14 := by kernel_rfl
theorem spec_l1Cur_trie.bits14 : waitsOk spec_l1Cur_trie.T14.2 spec_l1Cur_trie.B14 = true := by kernel_rfl
theorem spec_l1Cur_trie.calls (k : Nat) (g : Nat) (s0_0 : List Int) (s0_1 : Int) (s0_2 : Int) (r1 : List (S74)) (r2 : Int) (r3 : Int) (w0 w : World) (hI : IsS82 w0 w g s0_0 s0_1 s0_2) (hB : Below w0.heap.size w0 w) (h : spec_l1Cur_trie.f k s0_0 s0_1 s0_2 = some (r1, r2, r3)) :
  Calls Tryz.prog 108 #[.pointer (some ⟨g, 0, none⟩)] w fun e w' => ∃ v0_ : Value, e = .returned (.agg #[v0_]) ∧ Kd.R k74 74 w' w.heap.size (fun _ => True) v0_ r1 ∧ IsS82 w0 w' g s0_0 r2 r3 ∧ Below w0.heap.size w0 w' ∧ KeepBut w w' g none := by
 have hu26 := Tryz.underlying26; have hu74 := Tryz.underlying74; have HI0 := am hI; have HK := am (KeepBut.refl w g none); have HL := am hB.size; clear hI; have HW0 := am hB.size; have HB := am hB; clear hB
 unfold spec_l1Cur_trie.f at h
 have H := h; clear h; obtain ⟨⟨t418, t421, t422⟩, A2, H⟩ := bs H; obtain ⟨⟨t423, t426⟩, A3, H⟩ := bs H
 by_cases c4 : t426 = true
 ·subst c4
  rw [if_pos rfl] at H; obtain ⟨t427, A5, H⟩ := bs H; obtain ⟨⟨t431, t432, t433⟩, A6, H⟩ := bs H
  by_cases c7 : t431 = 0
  ·rw [if_pos c7] at H
   have c7b0 := beq_iff_eq.mpr c7; have c7b1 := bne_eq_false_iff_eq.mpr c7; clear c7; obtain ⟨⟨t434, t435, t436⟩, A8, H⟩ := bs H; obtain ⟨⟨t437, t438, t439⟩, A9, H⟩ := bs H
   by_cases c10 : 0 ≤ t434
   ·rw [if_pos c10] at H
    have c10b0 := decide_eq_true c10; clear c10
    by_cases c11 : t434 < (t427.length : Int)
    ·rw [if_pos c11] at H
     have c11b0 := decide_eq_true c11; clear c11; obtain ⟨y440, hy440⟩ : ∃ y_ : List (S74), y_ = (t427.set (t434 : Int).toNat (⟨(rd_T74 t427 t434).f0, (rd_T74 t427 t434).f1, t437⟩ : S74)) := ⟨_, rfl⟩
     replace H : (some (y440, t438, t439)) = some (r1, r2, r3) := by first | (rw [hy440]; with_reducible exact H) | (have H2_ := (Option.bind_some _ _).symm.trans H; rw [hy440]; with_reducible exact H2_) | (have H2_ := (Option.bind_some _ _).symm.trans H; with_reducible exact H2_) | with_reducible exact H | (rw [hy440]; exact H) | exact H
     have Ny440 := am hy440; clear hy440; simp only [Option.some.injEq, Prod.mk.injEq] at H; obtain ⟨rfl, rfl, rfl⟩ := H
     go_enter Tryz.func108, Tryz.ntmps108
     try go_wp2_with (first | ((with_reducible refine gt 2 ?_); refine bx 2 #[.slice none 0 0] 26 ?_; intro gb417 hg w13 hbox hb; replace HB := am (below_step ax51 hb); have BK417 := am (hbox); have GW417 := am ((ax89 : w.heap.size ≤ gb417)); have GE417 := am ((Nat.le_trans HW0.out (ax89 : w.heap.size ≤ gb417) : w0.heap.size ≤ gb417)); replace HK := am (KeepBut.trans ax50 (KeepBut.of_below hb g none) (.inl rfl)); have NB0_417 := am ((ax90 : g ≠ gb417)); have NB417_0 := am ((ax91 : gb417 ≠ g)); replace HI0 := am (IsS82.below ax48 hb); clear hb hbox hg) | ((with_reducible refine gd 9 139 ?_); refine gc 9 Tryz.func139 #[.pointer (some ⟨g, 0, none⟩)] (spec_l1Cur_words.calls k g s0_0 s0_1 s0_2 t418 t421 t422 w0 _ ax92 ax93 A2.out) ?_; rintro e w14 ⟨v419, rfl, ho0, hi, hb, hk⟩; refine ⟨_, rfl, ?_⟩; replace BK417 := kB hk BK417 NB417_0; have HO420 := am (Kd.R_lower ho0 (keep_size (w := w) (g := g) (row := none) ax94)); replace HK := am (KeepBut.trans ax94 hk (.inl rfl)); replace HB := am (hb); replace HI0 := am (hi); (try clear hb hk hi ho0); obtain ⟨Ao15, co15, rfl⟩ := Kd.R_slice HO420.out) | ((with_reducible refine gd 10 144 ?_); refine gc 10 Tryz.func144 #[.slice Ao15 t418.length co15] (spec_l2Set.calls k _ _ t418 t423 true _ (rd2 HO420) (rl HO420) A3.out) ?_; rintro e w16 ⟨v424, rfl, ho0, hb⟩; refine ⟨_, rfl, ?_⟩; have HO425 := am (Kd.V_lower (Kd.V_mono (ok' := fun k_ => some k_ ≠ (.slice Ao15 t418.length co15 : Value).ownBlock ∧ k_ ≠ gb417 ∧ k_ ≠ g) ho0 (fun k_ hk_ => ⟨(Kd.fresh' (Kd.R_lt (rX HO420)) k_ hk_), (Kd.freshB (g := gb417) (o := .cells #[.slice none 0 0] 26 (0, 0)) aU k_ hk_), (IsS82.fresh ax92 k_ hk_)⟩)) (keep_size (w := w) (g := g) (row := none) ax94)); replace HO420 := uR HO420 hb; replace BK417 := ub BK417 hb; replace HK := am (KeepBut.trans ax94 (KeepBut.of_below hb g none) (.inl rfl)); replace HB := am (below_step ax93 hb); replace HI0 := am (IsS82.below ax92 hb); (try clear hb ho0); obtain ⟨Ao17, co17, eo17⟩ := Kd.V_slice HO425.out; subst eo17) | ((with_reducible refine gd 17 123 ?_); refine gc 17 Tryz.func123 #[.slice Ao17 t423.length co17] (spec_l2Of.calls k _ _ t423 t427 _ ax95 ((Kd.V_reads' HO425.out).2.1) A5.out) ?_; rintro e w18 ⟨v428, rfl, ho0, hb⟩; refine ⟨_, rfl, ?_⟩; replace HO420 := uR HO420 hb; replace HO425 := am (Kd.V_elder' ax96 (Kd.R_base ho0) hb); have HO429 := am (Kd.R_lower ho0 (keep_size (w := w) (g := g) (row := none) ax94)); replace BK417 := ub BK417 hb; replace HK := am (KeepBut.trans ax94 (KeepBut.of_below hb g none) (.inl rfl)); replace HB := am (below_step ax93 hb); replace HI0 := am (IsS82.below ax92 hb); (try clear hb ho0)) | ((with_reducible refine gt 5 ?_); refine bx 5 #[.slice none 0 0] 26 ?_; intro gb430 hg w19 hbox hb; replace HO429 := uR HO429 hb; replace HB := am (below_step ax93 hb); have BK430 := am (hbox); have GW430 := am ((ax97 : w.heap.size ≤ gb430)); have GE430 := am ((Nat.le_trans HW0.out (ax97 : w.heap.size ≤ gb430) : w0.heap.size ≤ gb430)); replace HK := am (KeepBut.trans ax94 (KeepBut.of_below hb g none) (.inl rfl)); obtain ⟨NB417_430, NB430_417, BK417⟩ := uA hg hb BK417; have NB0_430 := am ((ax98 : g ≠ gb430)); have NB430_0 := am ((ax99 : gb430 ≠ g)); replace HI0 := am (IsS82.below ax92 hb); clear hb hbox hg; obtain ⟨Ao20, co20, rfl⟩ := Kd.R_slice HO429.out; obtain ⟨hnb21, hnc21⟩ := nk NB430_417; obtain ⟨hnb22, hnc22⟩ := nk NB430_0; obtain ⟨hcz23_0, hfz23_0⟩ := bz (.slice none 0 0) BK430) | ((with_reducible refine gd 22 127 ?_); refine gc 22 Tryz.func127 #[.pointer (some ⟨g, 0, none⟩), .int .i64 60] (spec_l1Cur_pick.calls g s0_0 t421 t422 60 t431 t432 t433 w0 _ ax92 ax100 A6.out) ?_; rintro e w24 ⟨rfl, hi, hb, hk⟩; refine ⟨_, rfl, ?_⟩; replace BK417 := kB hk BK417 NB417_0; replace HO429 := rK (IsS82.apart (show IsS82 w0 _ g s0_0 t421 t422 from ax92) (rX HO429) (by decide)) hk; replace BK430 := am (KeepBut.blk hk (g' := gb430) (o := .cells #[.slice Ao20 t427.length co20] 26 (0, 0)) aU NB430_0.out (by simp)); replace HK := am (KeepBut.trans ax101 hk (.inl rfl)); replace HB := am (hb); replace HI0 := am (hi); (try clear hb hk hi)))
     replace HO429 := am (Kd.R_drew HO429.out); replace BK417 := am (blk_drew BK417.out); replace BK430 := am (blk_drew BK430.out); replace HI0 := am (IsS82.drew HI0.out); replace HK := am (keep_drew HK.out); replace HB := am (below_drew1 HB.out); refine start_ (n := 10) (S := fun w' => w'.cell? ⟨gb430, 0, none⟩ = some (.slice Ao20 t427.length co20)) (ds := [9]) (ob 10 0) (by kernel_rfl) rfl rfl ((blk_cell BK430.out 0).trans rfl) (fun hHeld => ?_); refine with_tabW spec_l1Cur_trie.tab8 spec_l1Cur_trie.bits8 (fun HT_ HW_ => ?_); generalize w24.drew = w25 at HO429 BK417 BK430 HI0 HK HB hHeld ⊢; refine pu 0 25 ?_; refine pu 2 27 ?_; refine pu 3 28 ?_; refine pu 5 30 ?_; refine take_ (i := 1) (N := some 26) (v := ?_) (a' := ?_) (ob 10 47) rfl rfl (take_ofW HT_.out HW_.out (by kernel_rfl)) (fun _ _ _ h => h) (Or.inl ⟨by rfl, ?_⟩) hHeld ?_ ?_
     rotate_left
     ·exact ax10
     rotate_left
     ·exact ax11
     refine one_ (i := 4) (N := some 29) (ob 10 63) rfl rfl (one_of HT_.out (by kernel_rfl)) (by decide) (fun K hK => ?_); refine goes_ Tryz.func127 (by kernel_rfl) rfl #[.pointer (some ⟨g, 0, none⟩), .int .i64 (t427.length : Int)] (by rfl) rfl rfl ax26 ?_
     with_reducible refine (spec_l1Cur_pick.calls g s0_0 t432 t433 (t427.length : Int) t434 t435 t436 w0 _ ?side1 ?side2 A8.out).mono ?_
     (case side1 => exact ax92)
     (case side2 => exact ax100)
     rintro e w26 ⟨rfl, hi, hb, hk⟩; refine ⟨_, rfl, ?_⟩; replace BK417 := kB hk BK417 NB417_0; replace HO429 := rK (IsS82.apart (show IsS82 w0 _ g s0_0 t432 t433 from ax92) (rX HO429) (by decide)) hk; replace BK430 := kB hk BK430 NB430_0; replace HK := am (KeepBut.trans ax101 hk (.inl rfl)); replace HB := am (hb); replace HI0 := am (hi); (try clear hb); (try clear hb2); (try clear hk); (try clear hi); refine hK.out _ _ ((blk_cell BK430.out 0).trans rfl) (fun hHeld => ?_); clear hK K; refine nm 29 ?_; refine one_ (i := 6) (N := some 31) (ob 10 127) rfl rfl (one_of HT_.out (by kernel_rfl)) (by decide) (fun K hK => ?_); refine goes_ Tryz.func122 (by kernel_rfl) rfl #[.pointer (some ⟨g, 0, none⟩), .int .i64 2] (by rfl) rfl rfl ax26 ?_
     with_reducible refine (spec_l1Cur_one.calls g s0_0 t435 t436 2 t437 t438 t439 w0 _ ?side1 ?side2 A9.out).mono ?_
     (case side1 => exact ax92)
     (case side2 => exact ax100)
     rintro e w27 ⟨rfl, hi, hb, hk⟩; refine ⟨_, rfl, ?_⟩; replace BK417 := kB hk BK417 NB417_0; replace HO429 := rK (IsS82.apart (show IsS82 w0 _ g s0_0 t435 t436 from ax92) (rX HO429) (by decide)) hk; replace BK430 := kB hk BK430 NB430_0; replace HK := am (KeepBut.trans ax101 hk (.inl rfl)); replace HB := am (hb); replace HI0 := am (hi); (try clear hb); (try clear hb2); (try clear hk); (try clear hi); have p12 : 0 ≤ (t434 : Int) := of_decide_eq_true ax23; have q12 : (t434 : Int) < ((t427.length : Int) : Int) := of_decide_eq_true ax23; obtain ⟨go12, co12, eo12, gb12, gl12, cl12, HG12⟩ := Kd.R_form HO429.out (by omega); (first | cases eo12 | (injection eo12 with ea_ en_ ec_; (first | subst ea_ | (injection ea_ with ea_; subst ea_)); subst ec_; clear en_)); have GB12 := am gb12; have GG12 := am HG12; clear gb12 gl12 HG12; obtain ⟨ce12, hcl12, hM12, hcc12, hfr12⟩ := Kd.R_elem HO429.out z74 (t434 : Int) p12 q12; obtain rfl := k74_openM hM12; have hx12_0 : World.cell? _ ⟨go12, (t434 : Int).toNat * 3, none⟩ = some (.int .i64 ((rd_T74 t427 t434).f0)) := hcc12 0 _ rfl; have hx12_1 : World.cell? _ ⟨go12, (t434 : Int).toNat * 3 + 1, none⟩ = some (.int .i64 ((rd_T74 t427 t434).f1)) := hcc12 1 _ rfl; have hx12_2 : World.cell? _ ⟨go12, (t434 : Int).toNat * 3 + 2, none⟩ = some (.bool ((rd_T74 t427 t434).f2)) := hcc12 2 _ rfl; have hf12_0 : World.frozen? _ ⟨go12, (t434 : Int).toNat * 3, none⟩ = false := hfr12 0; have hf12_1 : World.frozen? _ ⟨go12, (t434 : Int).toNat * 3 + 1, none⟩ = false := hfr12 1; have hf12_2 : World.frozen? _ ⟨go12, (t434 : Int).toNat * 3 + 2, none⟩ = false := hfr12 2; clear hcl12 hcc12 hfr12 hM12; replace p12 := eq_true p12; replace q12 := eq_true q12; have HN0_go12 := am (show g ≠ go12 from by have h_ := IsS82.own_ne HI0.out HO429.out (by decide); intro e_; exact h_ ax102); obtain ⟨ce28, hcl28, hM28, hcc28, hfr28⟩ := Kd.R_elem HO429.out z74 (t434 : Int) (of_decide_eq_true ax23) ax103; obtain rfl := k74_openM hM28; have HP28 := (Kd.R_seg HO429.out (t434 : Int) (of_decide_eq_true ax23) ax103 (seg := [.bool t437]) (j := 2) hcl28 hcc28 (show 3 ≤ 3 from by decide) (x' := (⟨(rd_T74 t427 t434).f0, (rd_T74 t427 t434).f1, t437⟩ : S74)) (k74_mkM _ _ _ (⟨(rd_T74 t427 t434).f0, (rd_T74 t427 t434).f1, t437⟩ : S74) ) (fun _ hk => hk)).1; rw [← Ny440.out] at HP28; have HQ28 := am HP28; clear hcl28 hcc28 hfr28 hM28 HP28
     refine hK.out _ _ ((blk_cell BK430.out 0).trans rfl) (fun hHeld => ?_); clear hK K; refine nm 31 ?_; refine pu 7 32 ?_; refine pu 8 33 ?_; refine last_ (i := 9) (N := none) (ob 10 1023) rfl rfl (one_of HT_.out (by kernel_rfl)) (by decide) (fun K hK => ?_); refine skip_ (w1 := ?_) (by rfl) rfl ?_ ?_
     rotate_left
     ·go_simp
      rfl
     refine hK.out _ _ ?_; clear hK K; refine dn ?_; have n0_ : Aside0 (Kd.R k74 74 (w27.setCell ⟨go12, (t434 : Int).toNat * 3 + 2, none⟩ (.bool t437)) w.heap.size (fun _ => True) (.slice (some ⟨go12, 0, none⟩) t427.length co20) y440) := ⟨(by (with_reducible repeat (first | apply Kd.R_alloc | apply Kd.R_drewN | apply Kd.R_drew)); exact HQ28.out)⟩; have n1_ : Aside0 ((w27.setCell ⟨go12, (t434 : Int).toNat * 3 + 2, none⟩ (.bool t437)).heap[gb417]? = some (.cells #[.slice none 0 0] 26 (0, 0))) := ⟨ax104⟩; have n2_ : Aside0 ((w27.setCell ⟨go12, (t434 : Int).toNat * 3 + 2, none⟩ (.bool t437)).heap[gb430]? = some (.cells #[.slice (some ⟨go12, 0, none⟩) t427.length co20] 26 (0, 0))) := ⟨ax105⟩; have n3_ : Aside0 (IsS82 w0 (w27.setCell ⟨go12, (t434 : Int).toNat * 3 + 2, none⟩ (.bool t437)) g s0_0 t438 t439) := ⟨ax92⟩; have n4_ : Aside0 (KeepBut w (w27.setCell ⟨go12, (t434 : Int).toNat * 3 + 2, none⟩ (.bool t437)) g none) := ⟨(by repeat (first | (with_reducible first | exact HK.out | apply KeepBut.set_ | apply keep_drewN | apply keep_drew | apply keep_alloc | refine keep_far ?_ GB12.out _ | refine keep_far ?_ GW417.out _ | refine keep_far ?_ GW430.out _) | exact HK.out))⟩; have n5_ : Aside0 (Below w0.heap.size w0 (w27.setCell ⟨go12, (t434 : Int).toNat * 3 + 2, none⟩ (.bool t437))) := ⟨(by repeat (first | (with_reducible first | exact HB.out | apply below_alloc | apply pw_below_drewN | apply below_drew1 | refine below_set ?_ (Nat.le_trans HL.out GB12.out) | refine below_set ?_ (IsS82.ge HI0.out) | refine below_set ?_ (Aside0.out ax58)) | exact HB.out))⟩; (try clear HO429); (try clear BK417); (try clear BK430); (try clear HI0); (try clear HK); (try clear HB); generalize (w27.setCell ⟨go12, (t434 : Int).toNat * 3 + 2, none⟩ (.bool t437)) = w29 at n0_ n1_ n2_ n3_ n4_ n5_ ⊢; have HO429 := n0_; have BK417 := n1_; have BK430 := n2_; have HI0 := n3_; have HK := n4_; have HB := n5_; clear n0_ n1_ n2_ n3_ n4_ n5_; obtain ⟨hcz30_0, hfz30_0⟩ := bz (.slice (some ⟨go12, 0, none⟩) t427.length co20) BK430; obtain ⟨hnb31, hnc31⟩ := nk NB417_0; obtain ⟨hcz32_0, hfz32_0⟩ := bz (.slice none 0 0) BK417
     try go_wp2
     refine bodyPost_ret (results_cell_row rfl _ _ gb417 26 #[.slice (some ⟨go12, 0, none⟩) t427.length co20] (0, 0) _ rfl ax106 Tryz.underlying26 rfl (by kernel_rfl)) rfl ?_
     exact ⟨_, ax21, aU, ax92, ax107, ax94⟩
    ·exact ax1
   ·exact ax4
  ·rw [if_neg c7] at H
   have c7b0 := beq_eq_false_iff_ne.mpr c7; have c7b1 := bne_iff_ne.mpr c7
   by_cases c33 : t431 = 1
   ·rw [if_pos c33] at H
    have c33b0 := beq_iff_eq.mpr c33; have c33b1 := bne_eq_false_iff_eq.mpr c33; clear c33; obtain ⟨⟨t441, t442, t443⟩, A34, H⟩ := bs H; obtain ⟨y444, hy444⟩ : ∃ y_ : List Int, y_ = (([(-1), 26, 0, 3] : List Int)) := ⟨_, rfl⟩
    replace H : ((spec_l1Cur_among.f s0_0 t442 t443 y444).bind fun bt447 => (if 0 ≤ t441 then (if t441 < (t427.length : Int) then (some ((t427.set (t441 : Int).toNat (⟨bt447.1, (rd_T74 t427 t441).f1, (rd_T74 t427 t441).f2⟩ : S74)), bt447.2.1, bt447.2.2)) else (none)) else (none))) = some (r1, r2, r3) := by first | (rw [hy444]; with_reducible exact H) | (have H2_ := (Option.bind_some _ _).symm.trans H; rw [hy444]; with_reducible exact H2_) | (have H2_ := (Option.bind_some _ _).symm.trans H; with_reducible exact H2_) | with_reducible exact H | (rw [hy444]; exact H) | exact H
    have Ny444 := am hy444; clear hy444; obtain ⟨⟨t447, t448, t449⟩, A35, H⟩ := bs H
    by_cases c36 : 0 ≤ t441
    ·rw [if_pos c36] at H
     have c36b0 := decide_eq_true c36; clear c36
     by_cases c37 : t441 < (t427.length : Int)
     ·rw [if_pos c37] at H
      have c37b0 := decide_eq_true c37; clear c37; obtain ⟨y450, hy450⟩ : ∃ y_ : List (S74), y_ = (t427.set (t441 : Int).toNat (⟨t447, (rd_T74 t427 t441).f1, (rd_T74 t427 t441).f2⟩ : S74)) := ⟨_, rfl⟩
      replace H : (some (y450, t448, t449)) = some (r1, r2, r3) := by first | (rw [hy450]; with_reducible exact H) | (have H2_ := (Option.bind_some _ _).symm.trans H; rw [hy450]; with_reducible exact H2_) | (have H2_ := (Option.bind_some _ _).symm.trans H; with_reducible exact H2_) | with_reducible exact H | (rw [hy450]; exact H) | exact H
      have Ny450 := am hy450; clear hy450; simp only [Option.some.injEq, Prod.mk.injEq] at H; obtain ⟨rfl, rfl, rfl⟩ := H
      go_enter Tryz.func108, Tryz.ntmps108
      try go_wp2_with (first | ((with_reducible refine gt 2 ?_); refine bx 2 #[.slice none 0 0] 26 ?_; intro gb417 hg w39 hbox hb; replace HB := am (below_step ax51 hb); have BK417 := am (hbox); have GW417 := am ((ax89 : w.heap.size ≤ gb417)); have GE417 := am ((Nat.le_trans HW0.out (ax89 : w.heap.size ≤ gb417) : w0.heap.size ≤ gb417)); replace HK := am (KeepBut.trans ax50 (KeepBut.of_below hb g none) (.inl rfl)); have NB0_417 := am ((ax90 : g ≠ gb417)); have NB417_0 := am ((ax91 : gb417 ≠ g)); replace HI0 := am (IsS82.below ax48 hb); clear hb hbox hg) | ((with_reducible refine gd 9 139 ?_); refine gc 9 Tryz.func139 #[.pointer (some ⟨g, 0, none⟩)] (spec_l1Cur_words.calls k g s0_0 s0_1 s0_2 t418 t421 t422 w0 _ ax92 ax93 A2.out) ?_; rintro e w40 ⟨v419, rfl, ho0, hi, hb, hk⟩; refine ⟨_, rfl, ?_⟩; replace BK417 := kB hk BK417 NB417_0; have HO420 := am (Kd.R_lower ho0 (keep_size (w := w) (g := g) (row := none) ax94)); replace HK := am (KeepBut.trans ax94 hk (.inl rfl)); replace HB := am (hb); replace HI0 := am (hi); (try clear hb hk hi ho0); obtain ⟨Ao41, co41, rfl⟩ := Kd.R_slice HO420.out) | ((with_reducible refine gd 10 144 ?_); refine gc 10 Tryz.func144 #[.slice Ao41 t418.length co41] (spec_l2Set.calls k _ _ t418 t423 true _ (rd2 HO420) (rl HO420) A3.out) ?_; rintro e w42 ⟨v424, rfl, ho0, hb⟩; refine ⟨_, rfl, ?_⟩; have HO425 := am (Kd.V_lower (Kd.V_mono (ok' := fun k_ => some k_ ≠ (.slice Ao41 t418.length co41 : Value).ownBlock ∧ k_ ≠ gb417 ∧ k_ ≠ g) ho0 (fun k_ hk_ => ⟨(Kd.fresh' (Kd.R_lt (rX HO420)) k_ hk_), (Kd.freshB (g := gb417) (o := .cells #[.slice none 0 0] 26 (0, 0)) aU k_ hk_), (IsS82.fresh ax92 k_ hk_)⟩)) (keep_size (w := w) (g := g) (row := none) ax94)); replace HO420 := uR HO420 hb; replace BK417 := ub BK417 hb; replace HK := am (KeepBut.trans ax94 (KeepBut.of_below hb g none) (.inl rfl)); replace HB := am (below_step ax93 hb); replace HI0 := am (IsS82.below ax92 hb); (try clear hb ho0); obtain ⟨Ao43, co43, eo43⟩ := Kd.V_slice HO425.out; subst eo43) | ((with_reducible refine gd 17 123 ?_); refine gc 17 Tryz.func123 #[.slice Ao43 t423.length co43] (spec_l2Of.calls k _ _ t423 t427 _ ax95 ((Kd.V_reads' HO425.out).2.1) A5.out) ?_; rintro e w44 ⟨v428, rfl, ho0, hb⟩; refine ⟨_, rfl, ?_⟩; replace HO420 := uR HO420 hb; replace HO425 := am (Kd.V_elder' ax96 (Kd.R_base ho0) hb); have HO429 := am (Kd.R_lower ho0 (keep_size (w := w) (g := g) (row := none) ax94)); replace BK417 := ub BK417 hb; replace HK := am (KeepBut.trans ax94 (KeepBut.of_below hb g none) (.inl rfl)); replace HB := am (below_step ax93 hb); replace HI0 := am (IsS82.below ax92 hb); (try clear hb ho0)) | ((with_reducible refine gt 5 ?_); refine bx 5 #[.slice none 0 0] 26 ?_; intro gb430 hg w45 hbox hb; replace HO429 := uR HO429 hb; replace HB := am (below_step ax93 hb); have BK430 := am (hbox); have GW430 := am ((ax97 : w.heap.size ≤ gb430)); have GE430 := am ((Nat.le_trans HW0.out (ax97 : w.heap.size ≤ gb430) : w0.heap.size ≤ gb430)); replace HK := am (KeepBut.trans ax94 (KeepBut.of_below hb g none) (.inl rfl)); obtain ⟨NB417_430, NB430_417, BK417⟩ := uA hg hb BK417; have NB0_430 := am ((ax98 : g ≠ gb430)); have NB430_0 := am ((ax99 : gb430 ≠ g)); replace HI0 := am (IsS82.below ax92 hb); clear hb hbox hg; obtain ⟨Ao46, co46, rfl⟩ := Kd.R_slice HO429.out; obtain ⟨hnb47, hnc47⟩ := nk NB430_417; obtain ⟨hnb48, hnc48⟩ := nk NB430_0; obtain ⟨hcz49_0, hfz49_0⟩ := bz (.slice none 0 0) BK430) | ((with_reducible refine gd 22 127 ?_); refine gc 22 Tryz.func127 #[.pointer (some ⟨g, 0, none⟩), .int .i64 60] (spec_l1Cur_pick.calls g s0_0 t421 t422 60 t431 t432 t433 w0 _ ax92 ax100 A6.out) ?_; rintro e w50 ⟨rfl, hi, hb, hk⟩; refine ⟨_, rfl, ?_⟩; replace BK417 := kB hk BK417 NB417_0; replace HO429 := rK (IsS82.apart (show IsS82 w0 _ g s0_0 t421 t422 from ax92) (rX HO429) (by decide)) hk; replace BK430 := am (KeepBut.blk hk (g' := gb430) (o := .cells #[.slice Ao46 t427.length co46] 26 (0, 0)) aU NB430_0.out (by simp)); replace HK := am (KeepBut.trans ax101 hk (.inl rfl)); replace HB := am (hb); replace HI0 := am (hi); (try clear hb hk hi)))
      replace HO429 := am (Kd.R_drew HO429.out); replace BK417 := am (blk_drew BK417.out); replace BK430 := am (blk_drew BK430.out); replace HI0 := am (IsS82.drew HI0.out); replace HK := am (keep_drew HK.out); replace HB := am (below_drew1 HB.out); refine start_ (n := 11) (S := fun w' => w'.cell? ⟨gb430, 0, none⟩ = some (.slice Ao46 t427.length co46)) (ds := [10]) (ob 11 0) (by kernel_rfl) rfl rfl ((blk_cell BK430.out 0).trans rfl) (fun hHeld => ?_); refine with_tabW spec_l1Cur_trie.tab10 spec_l1Cur_trie.bits10 (fun HT_ HW_ => ?_); generalize w50.drew = w51 at HO429 BK417 BK430 HI0 HK HB hHeld ⊢; refine pu 0 36 ?_; refine pu 2 38 ?_; refine pu 3 39 ?_; refine pu 5 41 ?_; refine take_ (i := 1) (N := some 37) (v := ?_) (a' := ?_) (ob 11 47) rfl rfl (take_ofW HT_.out HW_.out (by kernel_rfl)) (fun _ _ _ h => h) (Or.inl ⟨by rfl, ?_⟩) hHeld ?_ ?_
      rotate_left
      ·exact ax10
      rotate_left
      ·exact ax11
      refine join_ (σ := Value) 4 (ob 11 127) (fun s_ => [(40, .int .i64 t441), (42, s_)]) (fun s_ w' => (w'.cell? ⟨gb430, 0, none⟩ = some (.slice Ao46 t427.length co46)) ∧ (Kd.R k74 74 w' w.heap.size (fun _ => True) (.slice Ao46 t427.length co46) t427) ∧ (Kd.R (Kd.int .i64) 3 w' w.heap.size (fun _ => True) s_ y444) ∧ (w'.heap[gb417]? = some (.cells #[.slice none 0 0] 26 (0, 0))) ∧ (w'.heap[gb430]? = some (.cells #[.slice Ao46 t427.length co46] 26 (0, 0))) ∧ (IsS82 w0 w' g s0_0 t442 t443) ∧ (KeepBut w w' g none) ∧ (Below w0.heap.size w0 w')) ?_ ?_
      rotate_left
      ·intro hCont
       refine two_ (i := 4) (j := 6) (Ni := some 40) (Nj := some 42) (ob 11 63) (ob 11 111) rfl rfl rfl rfl (two_of HT_.out (by kernel_rfl)) (by decide) (by decide) (fun K hK => ?_) (fun K hK => ?_)
       ·skip
        refine goes_ Tryz.func127 (by kernel_rfl) rfl #[.pointer (some ⟨g, 0, none⟩), .int .i64 (t427.length : Int)] (by rfl) rfl rfl ax26 ?_
        with_reducible refine (spec_l1Cur_pick.calls g s0_0 t432 t433 (t427.length : Int) t441 t442 t443 w0 _ ?side1 ?side2 A34.out).mono ?_
        (case side1 => exact ax92)
        (case side2 => exact ax100)
        rintro e w52 ⟨rfl, hi, hb, hk⟩; refine ⟨_, rfl, ?_⟩; replace BK417 := kB hk BK417 NB417_0; replace HO429 := rK (IsS82.apart (show IsS82 w0 _ g s0_0 t432 t433 from ax92) (rX HO429) (by decide)) hk; replace BK430 := kB hk BK430 NB430_0; replace HK := am (KeepBut.trans ax101 hk (.inl rfl)); replace HB := am (hb); replace HI0 := am (hi); (try clear hb); (try clear hb2); (try clear hk); (try clear hi); refine hK.out _ _ ((blk_cell BK430.out 0).trans rfl) (fun hHeld => ?_); clear hK K; refine nm 40 ?_; refine one_ (i := 6) (N := some 42) (ob 11 127) rfl rfl (one_of HT_.out (by kernel_rfl)) (by decide) (fun K hK => ?_); refine Kd.R_lit_step (Kd.int .i64) _ 3 ?hg (N := 42) ?hd (xs := ([(-1), 26, 0, 3] : List Int)) (inner := [.int .i64 (-1), .int .i64 26, .int .i64 0, .int .i64 3]) (ok := fun _ => True) (okp := fun _ => True) ?hr ?hp (fun _ hk => hk) trivial (Below.refl _ _) (Nat.le_refl _) (by simp) ?_; (case hd => rfl); (case hg => rfl); (case hr => exact ax20); (case hp => exact ax108); intro v445 w53 ho54 hb hg_ hnew_; clear hg_ hnew_; (first | rw [← Ny444.out] at ho54 | (simp only [Int.reduceToNat] at ho54; rw [← Ny444.out] at ho54)); replace HO429 := uR HO429 hb; have HO446 := am (Kd.R_lower ho54 (keep_size (w := w) (g := g) (row := none) ax101)); replace BK417 := ub BK417 hb; replace BK430 := ub BK430 hb; replace HK := am (KeepBut.trans ax101 (KeepBut.of_below hb g none) (.inl rfl)); replace HB := am (below_step ax100 hb); replace HI0 := am (IsS82.below ax92 hb); clear hb ho54; refine hK.out _ _ ((blk_cell BK430.out 0).trans rfl) (fun hHeld => ?_); clear hK K; refine nm 42 ?_
        exact norm_ ax67 (hCont (v445) _ ⟨hHeld, aU, aU, aU, aU, ax92, ax101, ax107⟩)
       ·skip
        refine Kd.R_lit_step (Kd.int .i64) _ 3 ?hg (N := 42) ?hd (xs := ([(-1), 26, 0, 3] : List Int)) (inner := [.int .i64 (-1), .int .i64 26, .int .i64 0, .int .i64 3]) (ok := fun _ => True) (okp := fun _ => True) ?hr ?hp (fun _ hk => hk) trivial (Below.refl _ _) (Nat.le_refl _) (by simp) ?_; (case hd => rfl); (case hg => rfl); (case hr => exact ax20); (case hp => exact ax108); intro v445 w52 ho53 hb hg_ hnew_; clear hg_ hnew_; (first | rw [← Ny444.out] at ho53 | (simp only [Int.reduceToNat] at ho53; rw [← Ny444.out] at ho53)); replace HO429 := uR HO429 hb; have HO446 := am (Kd.R_lower ho53 (keep_size (w := w) (g := g) (row := none) ax101)); replace BK417 := ub BK417 hb; replace BK430 := ub BK430 hb; replace HK := am (KeepBut.trans ax101 (KeepBut.of_below hb g none) (.inl rfl)); replace HB := am (below_step ax100 hb); replace HI0 := am (IsS82.below ax92 hb); clear hb ho53; refine hK.out _ _ ((blk_cell BK430.out 0).trans rfl) (fun hHeld => ?_); clear hK K; refine nm 42 ?_; refine one_ (i := 4) (N := some 40) (ob 11 127) rfl rfl (one_of HT_.out (by kernel_rfl)) (by decide) (fun K hK => ?_); refine goes_ Tryz.func127 (by kernel_rfl) rfl #[.pointer (some ⟨g, 0, none⟩), .int .i64 (t427.length : Int)] (by rfl) rfl rfl ax26 ?_
        with_reducible refine (spec_l1Cur_pick.calls g s0_0 t432 t433 (t427.length : Int) t441 t442 t443 w0 _ ?side1 ?side2 A34.out).mono ?_
        (case side1 => exact ax92)
        (case side2 => exact ax100)
        rintro e w54 ⟨rfl, hi, hb, hk⟩; refine ⟨_, rfl, ?_⟩; replace BK417 := kB hk BK417 NB417_0; replace HO429 := rK (IsS82.apart (show IsS82 w0 _ g s0_0 t432 t433 from ax92) (rX HO429) (by decide)) hk; replace BK430 := kB hk BK430 NB430_0; replace HO446 := rK (IsS82.apart (show IsS82 w0 _ g s0_0 t432 t433 from ax92) (rX HO446) (by decide)) hk; replace HK := am (KeepBut.trans ax101 hk (.inl rfl)); replace HB := am (hb); replace HI0 := am (hi); (try clear hb); (try clear hb2); (try clear hk); (try clear hi); refine hK.out _ _ ((blk_cell BK430.out 0).trans rfl) (fun hHeld => ?_); clear hK K; refine nm 40 ?_
        exact norm_ ax67 (hCont (v445) _ ⟨hHeld, aU, aU, aU, aU, ax92, ax101, ax107⟩)
      rintro v445 w55 ⟨hS_, h0_, h1_, h2_, h3_, h4_, h5_, h6_⟩; have n0_ : Aside0 (Kd.R k74 74 w55 w.heap.size (fun _ => True) (.slice Ao46 t427.length co46) t427) := ⟨h0_⟩; have n1_ : Aside0 (Kd.R (Kd.int .i64) 3 w55 w.heap.size (fun _ => True) v445 y444) := ⟨h1_⟩; have n2_ : Aside0 (w55.heap[gb417]? = some (.cells #[.slice none 0 0] 26 (0, 0))) := ⟨h2_⟩; have n3_ : Aside0 (w55.heap[gb430]? = some (.cells #[.slice Ao46 t427.length co46] 26 (0, 0))) := ⟨h3_⟩; have n4_ : Aside0 (IsS82 w0 w55 g s0_0 t442 t443) := ⟨h4_⟩; have n5_ : Aside0 (KeepBut w w55 g none) := ⟨h5_⟩; have n6_ : Aside0 (Below w0.heap.size w0 w55) := ⟨h6_⟩; clear HO429; clear BK417; clear BK430; clear HI0; clear HK; clear HB; clear h0_ h1_ h2_ h3_ h4_ h5_ h6_; have HO429 := n0_; have HO446 := n1_; have BK417 := n2_; have BK430 := n3_; have HI0 := n4_; have HK := n5_; have HB := n6_; clear n0_ n1_ n2_ n3_ n4_ n5_ n6_; have hHeld : w55.cell? ⟨gb430, 0, none⟩ = some (.slice Ao46 t427.length co46) := hS_; obtain ⟨Ao56, co56, eo56⟩ := Kd.R_slice HO446.out; (first | subst eo56 | (injection eo56 with f1_ f2_ f3_; have f4_ := f1_.symm; have f5_ := f3_.symm; clear f1_ f2_ f3_; subst f4_; subst f5_)); refine norm_ (a' := ?_) ?_ ?_
      rotate_left
      ·exact ax16
      refine one_ (i := 7) (N := some 43) (ob 11 255) rfl rfl (one_of HT_.out (by kernel_rfl)) (by decide) (fun K hK => ?_); refine goes_ Tryz.func186 (by kernel_rfl) rfl #[.pointer (some ⟨g, 0, none⟩), .slice Ao56 y444.length co56] (by rfl) rfl rfl ax26 ?_
      with_reducible refine (spec_l1Cur_among.calls g s0_0 t442 t443 _ _ y444 t447 t448 t449 w0 _ ?side1 ?side2 ?side3 ?side4 ?side5 A35.out).mono ?_
      (case side1 => exact ax92)
      (case side2 => exact ax100)
      (case side3 => repeat (first | exact (Kd.R_reads' HO446.out).2.2 | (with_reducible refine Kd.C_alloc ?_ _) | (with_reducible refine Kd.C_drewN ?_ _) | (with_reducible refine Kd.C_drew ?_)))
      (case side4 => exact (Kd.R_reads' HO446.out).2.1)
      (case side5 => exact far_slice (IsS82.own_ne HI0.out HO446.out (by decide)))
      rintro e w57 ⟨rfl, hi, hb, hk⟩; refine ⟨_, rfl, ?_⟩; replace BK417 := kB hk BK417 NB417_0; replace HO429 := rK (IsS82.apart (show IsS82 w0 _ g s0_0 t442 t443 from ax92) (rX HO429) (by decide)) hk; replace BK430 := kB hk BK430 NB430_0; replace HO446 := rK (IsS82.apart (show IsS82 w0 _ g s0_0 t442 t443 from ax92) (rX HO446) (by decide)) hk; replace HK := am (KeepBut.trans ax101 hk (.inl rfl)); replace HB := am (hb); replace HI0 := am (hi); (try clear hb); (try clear hb2); (try clear hk); (try clear hi); have p38 : 0 ≤ (t441 : Int) := of_decide_eq_true ax23; have q38 : (t441 : Int) < ((t427.length : Int) : Int) := of_decide_eq_true ax23; obtain ⟨go38, co38, eo38, gb38, gl38, cl38, HG38⟩ := Kd.R_form HO429.out (by omega); (first | cases eo38 | (injection eo38 with ea_ en_ ec_; (first | subst ea_ | (injection ea_ with ea_; subst ea_)); subst ec_; clear en_)); have GB38 := am gb38; have GG38 := am HG38; clear gb38 gl38 HG38; obtain ⟨ce38, hcl38, hM38, hcc38, hfr38⟩ := Kd.R_elem HO429.out z74 (t441 : Int) p38 q38; obtain rfl := k74_openM hM38; have hx38_0 : World.cell? _ ⟨go38, (t441 : Int).toNat * 3, none⟩ = some (.int .i64 ((rd_T74 t427 t441).f0)) := hcc38 0 _ rfl; have hx38_1 : World.cell? _ ⟨go38, (t441 : Int).toNat * 3 + 1, none⟩ = some (.int .i64 ((rd_T74 t427 t441).f1)) := hcc38 1 _ rfl; have hx38_2 : World.cell? _ ⟨go38, (t441 : Int).toNat * 3 + 2, none⟩ = some (.bool ((rd_T74 t427 t441).f2)) := hcc38 2 _ rfl; have hf38_0 : World.frozen? _ ⟨go38, (t441 : Int).toNat * 3, none⟩ = false := hfr38 0; have hf38_1 : World.frozen? _ ⟨go38, (t441 : Int).toNat * 3 + 1, none⟩ = false := hfr38 1; have hf38_2 : World.frozen? _ ⟨go38, (t441 : Int).toNat * 3 + 2, none⟩ = false := hfr38 2; clear hcl38 hcc38 hfr38 hM38; replace p38 := eq_true p38; replace q38 := eq_true q38; have HN0_go38 := am (show g ≠ go38 from by have h_ := IsS82.own_ne HI0.out HO429.out (by decide); intro e_; exact h_ ax102); obtain ⟨ce58, hcl58, hM58, hcc58, hfr58⟩ := Kd.R_elem HO429.out z74 (t441 : Int) (of_decide_eq_true ax23) ax109; obtain rfl := k74_openM hM58; have HP58 := (Kd.R_seg HO429.out (t441 : Int) (of_decide_eq_true ax23) ax109 (seg := [.int .i64 t447]) (j := 0) hcl58 hcc58 (show 1 ≤ 3 from by decide) (x' := (⟨t447, (rd_T74 t427 t441).f1, (rd_T74 t427 t441).f2⟩ : S74)) (k74_mkM _ _ _ (⟨t447, (rd_T74 t427 t441).f1, (rd_T74 t427 t441).f2⟩ : S74) ) (fun _ hk => hk)).1
      rw [← Ny450.out] at HP58; have HQ58 := am HP58; clear hcl58 hcc58 hfr58 hM58 HP58; refine hK.out _ _ ((blk_cell BK430.out 0).trans rfl) (fun hHeld => ?_); clear hK K; refine nm 43 ?_; refine pu 8 44 ?_; refine pu 9 45 ?_; refine last_ (i := 10) (N := none) (ob 11 2047) rfl rfl (one_of HT_.out (by kernel_rfl)) (by decide) (fun K hK => ?_); refine skip_ (w1 := ?_) (by rfl) rfl ?_ ?_
      rotate_left
      ·go_simp
       rfl
      refine hK.out _ _ ?_; clear hK K; refine dn ?_; have n0_ : Aside0 (Kd.R k74 74 (w57.setCell ⟨go38, (t441 : Int).toNat * 3, none⟩ (.int .i64 t447)) w.heap.size (fun _ => True) (.slice (some ⟨go38, 0, none⟩) t427.length co46) y450) := ⟨(by (with_reducible repeat (first | apply Kd.R_alloc | apply Kd.R_drewN | apply Kd.R_drew)); exact HQ58.out)⟩; have n1_ : Aside0 (Kd.R (Kd.int .i64) 3 (w57.setCell ⟨go38, (t441 : Int).toNat * 3, none⟩ (.int .i64 t447)) w.heap.size (fun _ => True) (.slice Ao56 y444.length co56) y444) := ⟨(by (with_reducible repeat (first | apply Kd.R_alloc | apply Kd.R_drewN | apply Kd.R_drew)); exact Kd.R_mono (Kd.R_far (p := ⟨go38, (t441 : Int).toNat * 3, none⟩) (Kd.R_types HO446.out GG38.out (by decide)) (fun _ hk => hk.2) (.int .i64 t447)) (fun _ hk => trivial))⟩; have n2_ : Aside0 ((w57.setCell ⟨go38, (t441 : Int).toNat * 3, none⟩ (.int .i64 t447)).heap[gb417]? = some (.cells #[.slice none 0 0] 26 (0, 0))) := ⟨ax104⟩; have n3_ : Aside0 ((w57.setCell ⟨go38, (t441 : Int).toNat * 3, none⟩ (.int .i64 t447)).heap[gb430]? = some (.cells #[.slice (some ⟨go38, 0, none⟩) t427.length co46] 26 (0, 0))) := ⟨ax105⟩; have n4_ : Aside0 (IsS82 w0 (w57.setCell ⟨go38, (t441 : Int).toNat * 3, none⟩ (.int .i64 t447)) g s0_0 t448 t449) := ⟨ax92⟩; have n5_ : Aside0 (KeepBut w (w57.setCell ⟨go38, (t441 : Int).toNat * 3, none⟩ (.int .i64 t447)) g none) := ⟨(by repeat (first | (with_reducible first | exact HK.out | apply KeepBut.set_ | apply keep_drewN | apply keep_drew | apply keep_alloc | refine keep_far ?_ GB38.out _ | refine keep_far ?_ GW417.out _ | refine keep_far ?_ GW430.out _) | exact HK.out))⟩; have n6_ : Aside0 (Below w0.heap.size w0 (w57.setCell ⟨go38, (t441 : Int).toNat * 3, none⟩ (.int .i64 t447))) := ⟨(by repeat (first | (with_reducible first | exact HB.out | apply below_alloc | apply pw_below_drewN | apply below_drew1 | refine below_set ?_ (Nat.le_trans HL.out GB38.out) | refine below_set ?_ (IsS82.ge HI0.out) | refine below_set ?_ (Aside0.out ax58)) | exact HB.out))⟩; (try clear HO429); (try clear HO446); (try clear BK417); (try clear BK430); (try clear HI0); (try clear HK); (try clear HB); generalize (w57.setCell ⟨go38, (t441 : Int).toNat * 3, none⟩ (.int .i64 t447)) = w59 at n0_ n1_ n2_ n3_ n4_ n5_ n6_ ⊢; have HO429 := n0_; have HO446 := n1_; have BK417 := n2_; have BK430 := n3_; have HI0 := n4_; have HK := n5_; have HB := n6_; clear n0_ n1_ n2_ n3_ n4_ n5_ n6_; obtain ⟨hcz60_0, hfz60_0⟩ := bz (.slice (some ⟨go38, 0, none⟩) t427.length co46) BK430; obtain ⟨hnb61, hnc61⟩ := nk NB417_0; obtain ⟨hcz62_0, hfz62_0⟩ := bz (.slice none 0 0) BK417
      try go_wp2
      refine bodyPost_ret (results_cell_row rfl _ _ gb417 26 #[.slice (some ⟨go38, 0, none⟩) t427.length co46] (0, 0) _ rfl ax106 Tryz.underlying26 rfl (by kernel_rfl)) rfl ?_
      exact ⟨_, ax21, aU, ax92, ax107, ax94⟩
     ·rw [if_neg c37] at H
      exact absurd H (by simp)
    ·rw [if_neg c36] at H
     exact absurd H (by simp)
   ·rw [if_neg c33] at H
    have c33b0 := beq_eq_false_iff_ne.mpr c33; have c33b1 := bne_iff_ne.mpr c33
    by_cases c63 : t431 = 2
    ·rw [if_pos c63] at H
     have c63b0 := beq_iff_eq.mpr c63; have c63b1 := bne_eq_false_iff_eq.mpr c63; clear c63; obtain ⟨⟨t451, t452, t453⟩, A64, H⟩ := bs H; obtain ⟨y454, hy454⟩ : ∃ y_ : List Int, y_ = (([(-1), 0, 1, (t427.length : Int)] : List Int)) := ⟨_, rfl⟩
     replace H : ((spec_l1Cur_among.f s0_0 t452 t453 y454).bind fun bt457 => (if 0 ≤ t451 then (if t451 < (t427.length : Int) then (some ((t427.set (t451 : Int).toNat (⟨(rd_T74 t427 t451).f0, bt457.1, (rd_T74 t427 t451).f2⟩ : S74)), bt457.2.1, bt457.2.2)) else (none)) else (none))) = some (r1, r2, r3) := by first | (rw [hy454]; with_reducible exact H) | (have H2_ := (Option.bind_some _ _).symm.trans H; rw [hy454]; with_reducible exact H2_) | (have H2_ := (Option.bind_some _ _).symm.trans H; with_reducible exact H2_) | with_reducible exact H | (rw [hy454]; exact H) | exact H
     have Ny454 := am hy454; clear hy454; obtain ⟨⟨t457, t458, t459⟩, A65, H⟩ := bs H
     by_cases c66 : 0 ≤ t451
     ·rw [if_pos c66] at H
      have c66b0 := decide_eq_true c66; clear c66
      by_cases c67 : t451 < (t427.length : Int)
      ·rw [if_pos c67] at H
       have c67b0 := decide_eq_true c67; clear c67; obtain ⟨y460, hy460⟩ : ∃ y_ : List (S74), y_ = (t427.set (t451 : Int).toNat (⟨(rd_T74 t427 t451).f0, t457, (rd_T74 t427 t451).f2⟩ : S74)) := ⟨_, rfl⟩
       replace H : (some (y460, t458, t459)) = some (r1, r2, r3) := by first | (rw [hy460]; with_reducible exact H) | (have H2_ := (Option.bind_some _ _).symm.trans H; rw [hy460]; with_reducible exact H2_) | (have H2_ := (Option.bind_some _ _).symm.trans H; with_reducible exact H2_) | with_reducible exact H | (rw [hy460]; exact H) | exact H
       have Ny460 := am hy460; clear hy460; simp only [Option.some.injEq, Prod.mk.injEq] at H; obtain ⟨rfl, rfl, rfl⟩ := H
       go_enter Tryz.func108, Tryz.ntmps108
       try go_wp2_with (first | ((with_reducible refine gt 2 ?_); refine bx 2 #[.slice none 0 0] 26 ?_; intro gb417 hg w69 hbox hb; replace HB := am (below_step ax51 hb); have BK417 := am (hbox); have GW417 := am ((ax89 : w.heap.size ≤ gb417)); have GE417 := am ((Nat.le_trans HW0.out (ax89 : w.heap.size ≤ gb417) : w0.heap.size ≤ gb417)); replace HK := am (KeepBut.trans ax50 (KeepBut.of_below hb g none) (.inl rfl)); have NB0_417 := am ((ax90 : g ≠ gb417)); have NB417_0 := am ((ax91 : gb417 ≠ g)); replace HI0 := am (IsS82.below ax48 hb); clear hb hbox hg) | ((with_reducible refine gd 9 139 ?_); refine gc 9 Tryz.func139 #[.pointer (some ⟨g, 0, none⟩)] (spec_l1Cur_words.calls k g s0_0 s0_1 s0_2 t418 t421 t422 w0 _ ax92 ax93 A2.out) ?_; rintro e w70 ⟨v419, rfl, ho0, hi, hb, hk⟩; refine ⟨_, rfl, ?_⟩; replace BK417 := kB hk BK417 NB417_0; have HO420 := am (Kd.R_lower ho0 (keep_size (w := w) (g := g) (row := none) ax94)); replace HK := am (KeepBut.trans ax94 hk (.inl rfl)); replace HB := am (hb); replace HI0 := am (hi); (try clear hb hk hi ho0); obtain ⟨Ao71, co71, rfl⟩ := Kd.R_slice HO420.out) | ((with_reducible refine gd 10 144 ?_); refine gc 10 Tryz.func144 #[.slice Ao71 t418.length co71] (spec_l2Set.calls k _ _ t418 t423 true _ (rd2 HO420) (rl HO420) A3.out) ?_; rintro e w72 ⟨v424, rfl, ho0, hb⟩; refine ⟨_, rfl, ?_⟩; have HO425 := am (Kd.V_lower (Kd.V_mono (ok' := fun k_ => some k_ ≠ (.slice Ao71 t418.length co71 : Value).ownBlock ∧ k_ ≠ gb417 ∧ k_ ≠ g) ho0 (fun k_ hk_ => ⟨(Kd.fresh' (Kd.R_lt (rX HO420)) k_ hk_), (Kd.freshB (g := gb417) (o := .cells #[.slice none 0 0] 26 (0, 0)) aU k_ hk_), (IsS82.fresh ax92 k_ hk_)⟩)) (keep_size (w := w) (g := g) (row := none) ax94)); replace HO420 := uR HO420 hb; replace BK417 := ub BK417 hb; replace HK := am (KeepBut.trans ax94 (KeepBut.of_below hb g none) (.inl rfl)); replace HB := am (below_step ax93 hb); replace HI0 := am (IsS82.below ax92 hb); (try clear hb ho0); obtain ⟨Ao73, co73, eo73⟩ := Kd.V_slice HO425.out; subst eo73) | ((with_reducible refine gd 17 123 ?_); refine gc 17 Tryz.func123 #[.slice Ao73 t423.length co73] (spec_l2Of.calls k _ _ t423 t427 _ ax95 ((Kd.V_reads' HO425.out).2.1) A5.out) ?_; rintro e w74 ⟨v428, rfl, ho0, hb⟩; refine ⟨_, rfl, ?_⟩; replace HO420 := uR HO420 hb; replace HO425 := am (Kd.V_elder' ax96 (Kd.R_base ho0) hb); have HO429 := am (Kd.R_lower ho0 (keep_size (w := w) (g := g) (row := none) ax94)); replace BK417 := ub BK417 hb; replace HK := am (KeepBut.trans ax94 (KeepBut.of_below hb g none) (.inl rfl)); replace HB := am (below_step ax93 hb); replace HI0 := am (IsS82.below ax92 hb); (try clear hb ho0)) | ((with_reducible refine gt 5 ?_); refine bx 5 #[.slice none 0 0] 26 ?_; intro gb430 hg w75 hbox hb; replace HO429 := uR HO429 hb; replace HB := am (below_step ax93 hb); have BK430 := am (hbox); have GW430 := am ((ax97 : w.heap.size ≤ gb430)); have GE430 := am ((Nat.le_trans HW0.out (ax97 : w.heap.size ≤ gb430) : w0.heap.size ≤ gb430)); replace HK := am (KeepBut.trans ax94 (KeepBut.of_below hb g none) (.inl rfl)); obtain ⟨NB417_430, NB430_417, BK417⟩ := uA hg hb BK417; have NB0_430 := am ((ax98 : g ≠ gb430)); have NB430_0 := am ((ax99 : gb430 ≠ g)); replace HI0 := am (IsS82.below ax92 hb); clear hb hbox hg; obtain ⟨Ao76, co76, rfl⟩ := Kd.R_slice HO429.out; obtain ⟨hnb77, hnc77⟩ := nk NB430_417; obtain ⟨hnb78, hnc78⟩ := nk NB430_0; obtain ⟨hcz79_0, hfz79_0⟩ := bz (.slice none 0 0) BK430) | ((with_reducible refine gd 22 127 ?_); refine gc 22 Tryz.func127 #[.pointer (some ⟨g, 0, none⟩), .int .i64 60] (spec_l1Cur_pick.calls g s0_0 t421 t422 60 t431 t432 t433 w0 _ ax92 ax100 A6.out) ?_; rintro e w80 ⟨rfl, hi, hb, hk⟩; refine ⟨_, rfl, ?_⟩; replace BK417 := kB hk BK417 NB417_0; replace HO429 := rK (IsS82.apart (show IsS82 w0 _ g s0_0 t421 t422 from ax92) (rX HO429) (by decide)) hk; replace BK430 := am (KeepBut.blk hk (g' := gb430) (o := .cells #[.slice Ao76 t427.length co76] 26 (0, 0)) aU NB430_0.out (by simp)); replace HK := am (KeepBut.trans ax101 hk (.inl rfl)); replace HB := am (hb); replace HI0 := am (hi); (try clear hb hk hi)))
       replace HO429 := am (Kd.R_drew HO429.out); replace BK417 := am (blk_drew BK417.out); replace BK430 := am (blk_drew BK430.out); replace HI0 := am (IsS82.drew HI0.out); replace HK := am (keep_drew HK.out); replace HB := am (below_drew1 HB.out); refine start_ (n := 12) (S := fun w' => w'.cell? ⟨gb430, 0, none⟩ = some (.slice Ao76 t427.length co76)) (ds := [11]) (ob 12 0) (by kernel_rfl) rfl rfl ((blk_cell BK430.out 0).trans rfl) (fun hHeld => ?_); refine with_tabW spec_l1Cur_trie.tab12 spec_l1Cur_trie.bits12 (fun HT_ HW_ => ?_); generalize w80.drew = w81 at HO429 BK417 BK430 HI0 HK HB hHeld ⊢; refine pu 0 48 ?_; refine pu 2 50 ?_; refine pu 3 51 ?_; refine pu 5 53 ?_; refine pu 6 54 ?_; refine take_ (i := 1) (N := some 49) (v := ?_) (a' := ?_) (ob 12 111) rfl rfl (take_ofW HT_.out HW_.out (by kernel_rfl)) (fun _ _ _ h => h) (Or.inl ⟨by rfl, ?_⟩) hHeld ?_ ?_
       rotate_left
       ·exact ax10
       rotate_left
       ·exact ax11
       refine join_ (σ := Value) 4 (ob 12 255) (fun s_ => [(52, .int .i64 t451), (55, s_)]) (fun s_ w' => (w'.cell? ⟨gb430, 0, none⟩ = some (.slice Ao76 t427.length co76)) ∧ (Kd.R k74 74 w' w.heap.size (fun _ => True) (.slice Ao76 t427.length co76) t427) ∧ (Kd.R (Kd.int .i64) 3 w' w.heap.size (fun _ => True) s_ y454) ∧ (w'.heap[gb417]? = some (.cells #[.slice none 0 0] 26 (0, 0))) ∧ (w'.heap[gb430]? = some (.cells #[.slice Ao76 t427.length co76] 26 (0, 0))) ∧ (IsS82 w0 w' g s0_0 t452 t453) ∧ (KeepBut w w' g none) ∧ (Below w0.heap.size w0 w')) ?_ ?_
       rotate_left
       ·intro hCont
        refine two_ (i := 4) (j := 7) (Ni := some 52) (Nj := some 55) (ob 12 127) (ob 12 239) rfl rfl rfl rfl (two_of HT_.out (by kernel_rfl)) (by decide) (by decide) (fun K hK => ?_) (fun K hK => ?_)
        ·skip
         refine goes_ Tryz.func127 (by kernel_rfl) rfl #[.pointer (some ⟨g, 0, none⟩), .int .i64 (t427.length : Int)] (by rfl) rfl rfl ax26 ?_
         with_reducible refine (spec_l1Cur_pick.calls g s0_0 t432 t433 (t427.length : Int) t451 t452 t453 w0 _ ?side1 ?side2 A64.out).mono ?_
         (case side1 => exact ax92)
         (case side2 => exact ax100)
         rintro e w82 ⟨rfl, hi, hb, hk⟩; refine ⟨_, rfl, ?_⟩; replace BK417 := kB hk BK417 NB417_0; replace HO429 := rK (IsS82.apart (show IsS82 w0 _ g s0_0 t432 t433 from ax92) (rX HO429) (by decide)) hk; replace BK430 := kB hk BK430 NB430_0; replace HK := am (KeepBut.trans ax101 hk (.inl rfl)); replace HB := am (hb); replace HI0 := am (hi); (try clear hb); (try clear hb2); (try clear hk); (try clear hi); refine hK.out _ _ ((blk_cell BK430.out 0).trans rfl) (fun hHeld => ?_); clear hK K; refine nm 52 ?_; refine one_ (i := 7) (N := some 55) (ob 12 255) rfl rfl (one_of HT_.out (by kernel_rfl)) (by decide) (fun K hK => ?_); refine Kd.R_lit_step (Kd.int .i64) _ 3 ?hg (N := 55) ?hd (xs := ([(-1), 0, 1, (t427.length : Int)] : List Int)) (inner := [.int .i64 (-1), .int .i64 0, .int .i64 1, .int .i64 (t427.length : Int)]) (ok := fun _ => True) (okp := fun _ => True) ?hr ?hp (fun _ hk => hk) trivial (Below.refl _ _) (Nat.le_refl _) (by simp) ?_; (case hd => rfl); (case hg => rfl); (case hr => exact ax20); (case hp => exact ax110); intro v455 w83 ho84 hb hg_ hnew_; clear hg_ hnew_; (first | rw [← Ny454.out] at ho84 | (simp only [Int.reduceToNat] at ho84; rw [← Ny454.out] at ho84)); replace HO429 := uR HO429 hb; have HO456 := am (Kd.R_lower ho84 (keep_size (w := w) (g := g) (row := none) ax101)); replace BK417 := ub BK417 hb; replace BK430 := ub BK430 hb; replace HK := am (KeepBut.trans ax101 (KeepBut.of_below hb g none) (.inl rfl)); replace HB := am (below_step ax100 hb); replace HI0 := am (IsS82.below ax92 hb); clear hb ho84; refine hK.out _ _ ((blk_cell BK430.out 0).trans rfl) (fun hHeld => ?_); clear hK K; refine nm 55 ?_
         exact norm_ ax67 (hCont (v455) _ ⟨hHeld, aU, aU, aU, aU, ax92, ax101, ax107⟩)
        ·skip
         refine Kd.R_lit_step (Kd.int .i64) _ 3 ?hg (N := 55) ?hd (xs := ([(-1), 0, 1, (t427.length : Int)] : List Int)) (inner := [.int .i64 (-1), .int .i64 0, .int .i64 1, .int .i64 (t427.length : Int)]) (ok := fun _ => True) (okp := fun _ => True) ?hr ?hp (fun _ hk => hk) trivial (Below.refl _ _) (Nat.le_refl _) (by simp) ?_; (case hd => rfl); (case hg => rfl); (case hr => exact ax20); (case hp => exact ax110); intro v455 w82 ho83 hb hg_ hnew_; clear hg_ hnew_; (first | rw [← Ny454.out] at ho83 | (simp only [Int.reduceToNat] at ho83; rw [← Ny454.out] at ho83)); replace HO429 := uR HO429 hb; have HO456 := am (Kd.R_lower ho83 (keep_size (w := w) (g := g) (row := none) ax101)); replace BK417 := ub BK417 hb; replace BK430 := ub BK430 hb; replace HK := am (KeepBut.trans ax101 (KeepBut.of_below hb g none) (.inl rfl)); replace HB := am (below_step ax100 hb); replace HI0 := am (IsS82.below ax92 hb); clear hb ho83; refine hK.out _ _ ((blk_cell BK430.out 0).trans rfl) (fun hHeld => ?_); clear hK K; refine nm 55 ?_; refine one_ (i := 4) (N := some 52) (ob 12 255) rfl rfl (one_of HT_.out (by kernel_rfl)) (by decide) (fun K hK => ?_); refine goes_ Tryz.func127 (by kernel_rfl) rfl #[.pointer (some ⟨g, 0, none⟩), .int .i64 (t427.length : Int)] (by rfl) rfl rfl ax26 ?_
         with_reducible refine (spec_l1Cur_pick.calls g s0_0 t432 t433 (t427.length : Int) t451 t452 t453 w0 _ ?side1 ?side2 A64.out).mono ?_
         (case side1 => exact ax92)
         (case side2 => exact ax100)
         rintro e w84 ⟨rfl, hi, hb, hk⟩; refine ⟨_, rfl, ?_⟩; replace BK417 := kB hk BK417 NB417_0; replace HO429 := rK (IsS82.apart (show IsS82 w0 _ g s0_0 t432 t433 from ax92) (rX HO429) (by decide)) hk; replace BK430 := kB hk BK430 NB430_0; replace HO456 := rK (IsS82.apart (show IsS82 w0 _ g s0_0 t432 t433 from ax92) (rX HO456) (by decide)) hk; replace HK := am (KeepBut.trans ax101 hk (.inl rfl)); replace HB := am (hb); replace HI0 := am (hi); (try clear hb); (try clear hb2); (try clear hk); (try clear hi); refine hK.out _ _ ((blk_cell BK430.out 0).trans rfl) (fun hHeld => ?_); clear hK K; refine nm 52 ?_
         exact norm_ ax67 (hCont (v455) _ ⟨hHeld, aU, aU, aU, aU, ax92, ax101, ax107⟩)
       rintro v455 w85 ⟨hS_, h0_, h1_, h2_, h3_, h4_, h5_, h6_⟩; have n0_ : Aside0 (Kd.R k74 74 w85 w.heap.size (fun _ => True) (.slice Ao76 t427.length co76) t427) := ⟨h0_⟩; have n1_ : Aside0 (Kd.R (Kd.int .i64) 3 w85 w.heap.size (fun _ => True) v455 y454) := ⟨h1_⟩; have n2_ : Aside0 (w85.heap[gb417]? = some (.cells #[.slice none 0 0] 26 (0, 0))) := ⟨h2_⟩; have n3_ : Aside0 (w85.heap[gb430]? = some (.cells #[.slice Ao76 t427.length co76] 26 (0, 0))) := ⟨h3_⟩; have n4_ : Aside0 (IsS82 w0 w85 g s0_0 t452 t453) := ⟨h4_⟩; have n5_ : Aside0 (KeepBut w w85 g none) := ⟨h5_⟩; have n6_ : Aside0 (Below w0.heap.size w0 w85) := ⟨h6_⟩; clear HO429; clear BK417; clear BK430; clear HI0; clear HK; clear HB; clear h0_ h1_ h2_ h3_ h4_ h5_ h6_; have HO429 := n0_; have HO456 := n1_; have BK417 := n2_; have BK430 := n3_; have HI0 := n4_; have HK := n5_; have HB := n6_; clear n0_ n1_ n2_ n3_ n4_ n5_ n6_; have hHeld : w85.cell? ⟨gb430, 0, none⟩ = some (.slice Ao76 t427.length co76) := hS_; obtain ⟨Ao86, co86, eo86⟩ := Kd.R_slice HO456.out; (first | subst eo86 | (injection eo86 with f1_ f2_ f3_; have f4_ := f1_.symm; have f5_ := f3_.symm; clear f1_ f2_ f3_; subst f4_; subst f5_)); refine norm_ (a' := ?_) ?_ ?_
       rotate_left
       ·exact ax16
       refine one_ (i := 8) (N := some 56) (ob 12 511) rfl rfl (one_of HT_.out (by kernel_rfl)) (by decide) (fun K hK => ?_); refine goes_ Tryz.func186 (by kernel_rfl) rfl #[.pointer (some ⟨g, 0, none⟩), .slice Ao86 y454.length co86] (by rfl) rfl rfl ax26 ?_
       with_reducible refine (spec_l1Cur_among.calls g s0_0 t452 t453 _ _ y454 t457 t458 t459 w0 _ ?side1 ?side2 ?side3 ?side4 ?side5 A65.out).mono ?_
       (case side1 => exact ax92)
       (case side2 => exact ax100)
       (case side3 => repeat (first | exact (Kd.R_reads' HO456.out).2.2 | (with_reducible refine Kd.C_alloc ?_ _) | (with_reducible refine Kd.C_drewN ?_ _) | (with_reducible refine Kd.C_drew ?_)))
       (case side4 => exact (Kd.R_reads' HO456.out).2.1)
       (case side5 => exact far_slice (IsS82.own_ne HI0.out HO456.out (by decide)))
       rintro e w87 ⟨rfl, hi, hb, hk⟩; refine ⟨_, rfl, ?_⟩; replace BK417 := kB hk BK417 NB417_0; replace HO429 := rK (IsS82.apart (show IsS82 w0 _ g s0_0 t452 t453 from ax92) (rX HO429) (by decide)) hk; replace BK430 := kB hk BK430 NB430_0; replace HO456 := rK (IsS82.apart (show IsS82 w0 _ g s0_0 t452 t453 from ax92) (rX HO456) (by decide)) hk; replace HK := am (KeepBut.trans ax101 hk (.inl rfl)); replace HB := am (hb); replace HI0 := am (hi); (try clear hb); (try clear hb2); (try clear hk); (try clear hi); have p68 : 0 ≤ (t451 : Int) := of_decide_eq_true ax23; have q68 : (t451 : Int) < ((t427.length : Int) : Int) := of_decide_eq_true ax23; obtain ⟨go68, co68, eo68, gb68, gl68, cl68, HG68⟩ := Kd.R_form HO429.out (by omega); (first | cases eo68 | (injection eo68 with ea_ en_ ec_; (first | subst ea_ | (injection ea_ with ea_; subst ea_)); subst ec_; clear en_)); have GB68 := am gb68; have GG68 := am HG68; clear gb68 gl68 HG68; obtain ⟨ce68, hcl68, hM68, hcc68, hfr68⟩ := Kd.R_elem HO429.out z74 (t451 : Int) p68 q68; obtain rfl := k74_openM hM68; have hx68_0 : World.cell? _ ⟨go68, (t451 : Int).toNat * 3, none⟩ = some (.int .i64 ((rd_T74 t427 t451).f0)) := hcc68 0 _ rfl; have hx68_1 : World.cell? _ ⟨go68, (t451 : Int).toNat * 3 + 1, none⟩ = some (.int .i64 ((rd_T74 t427 t451).f1)) := hcc68 1 _ rfl; have hx68_2 : World.cell? _ ⟨go68, (t451 : Int).toNat * 3 + 2, none⟩ = some (.bool ((rd_T74 t427 t451).f2)) := hcc68 2 _ rfl; have hf68_0 : World.frozen? _ ⟨go68, (t451 : Int).toNat * 3, none⟩ = false := hfr68 0; have hf68_1 : World.frozen? _ ⟨go68, (t451 : Int).toNat * 3 + 1, none⟩ = false := hfr68 1; have hf68_2 : World.frozen? _ ⟨go68, (t451 : Int).toNat * 3 + 2, none⟩ = false := hfr68 2; clear hcl68 hcc68 hfr68 hM68; replace p68 := eq_true p68; replace q68 := eq_true q68; have HN0_go68 := am (show g ≠ go68 from by have h_ := IsS82.own_ne HI0.out HO429.out (by decide); intro e_; exact h_ ax102); obtain ⟨ce88, hcl88, hM88, hcc88, hfr88⟩ := Kd.R_elem HO429.out z74 (t451 : Int) (of_decide_eq_true ax23) ax111; obtain rfl := k74_openM hM88; have HP88 := (Kd.R_seg HO429.out (t451 : Int) (of_decide_eq_true ax23) ax111 (seg := [.int .i64 t457]) (j := 1) hcl88 hcc88 (show 2 ≤ 3 from by decide) (x' := (⟨(rd_T74 t427 t451).f0, t457, (rd_T74 t427 t451).f2⟩ : S74)) (k74_mkM _ _ _ (⟨(rd_T74 t427 t451).f0, t457, (rd_T74 t427 t451).f2⟩ : S74) ) (fun _ hk => hk)).1
       rw [← Ny460.out] at HP88; have HQ88 := am HP88; clear hcl88 hcc88 hfr88 hM88 HP88; refine hK.out _ _ ((blk_cell BK430.out 0).trans rfl) (fun hHeld => ?_); clear hK K; refine nm 56 ?_; refine pu 9 57 ?_; refine pu 10 58 ?_; refine last_ (i := 11) (N := none) (ob 12 4095) rfl rfl (one_of HT_.out (by kernel_rfl)) (by decide) (fun K hK => ?_); refine skip_ (w1 := ?_) (by rfl) rfl ?_ ?_
       rotate_left
       ·go_simp
        rfl
       refine hK.out _ _ ?_; clear hK K; refine dn ?_; have n0_ : Aside0 (Kd.R k74 74 (w87.setCell ⟨go68, (t451 : Int).toNat * 3 + 1, none⟩ (.int .i64 t457)) w.heap.size (fun _ => True) (.slice (some ⟨go68, 0, none⟩) t427.length co76) y460) := ⟨(by (with_reducible repeat (first | apply Kd.R_alloc | apply Kd.R_drewN | apply Kd.R_drew)); exact HQ88.out)⟩; have n1_ : Aside0 (Kd.R (Kd.int .i64) 3 (w87.setCell ⟨go68, (t451 : Int).toNat * 3 + 1, none⟩ (.int .i64 t457)) w.heap.size (fun _ => True) (.slice Ao86 y454.length co86) y454) := ⟨(by (with_reducible repeat (first | apply Kd.R_alloc | apply Kd.R_drewN | apply Kd.R_drew)); exact Kd.R_mono (Kd.R_far (p := ⟨go68, (t451 : Int).toNat * 3 + 1, none⟩) (Kd.R_types HO456.out GG68.out (by decide)) (fun _ hk => hk.2) (.int .i64 t457)) (fun _ hk => trivial))⟩; have n2_ : Aside0 ((w87.setCell ⟨go68, (t451 : Int).toNat * 3 + 1, none⟩ (.int .i64 t457)).heap[gb417]? = some (.cells #[.slice none 0 0] 26 (0, 0))) := ⟨ax104⟩; have n3_ : Aside0 ((w87.setCell ⟨go68, (t451 : Int).toNat * 3 + 1, none⟩ (.int .i64 t457)).heap[gb430]? = some (.cells #[.slice (some ⟨go68, 0, none⟩) t427.length co76] 26 (0, 0))) := ⟨ax105⟩; have n4_ : Aside0 (IsS82 w0 (w87.setCell ⟨go68, (t451 : Int).toNat * 3 + 1, none⟩ (.int .i64 t457)) g s0_0 t458 t459) := ⟨ax92⟩; have n5_ : Aside0 (KeepBut w (w87.setCell ⟨go68, (t451 : Int).toNat * 3 + 1, none⟩ (.int .i64 t457)) g none) := ⟨(by repeat (first | (with_reducible first | exact HK.out | apply KeepBut.set_ | apply keep_drewN | apply keep_drew | apply keep_alloc | refine keep_far ?_ GB68.out _ | refine keep_far ?_ GW417.out _ | refine keep_far ?_ GW430.out _) | exact HK.out))⟩; have n6_ : Aside0 (Below w0.heap.size w0 (w87.setCell ⟨go68, (t451 : Int).toNat * 3 + 1, none⟩ (.int .i64 t457))) := ⟨(by repeat (first | (with_reducible first | exact HB.out | apply below_alloc | apply pw_below_drewN | apply below_drew1 | refine below_set ?_ (Nat.le_trans HL.out GB68.out) | refine below_set ?_ (IsS82.ge HI0.out) | refine below_set ?_ (Aside0.out ax58)) | exact HB.out))⟩; (try clear HO429); (try clear HO456); (try clear BK417); (try clear BK430); (try clear HI0); (try clear HK); (try clear HB); generalize (w87.setCell ⟨go68, (t451 : Int).toNat * 3 + 1, none⟩ (.int .i64 t457)) = w89 at n0_ n1_ n2_ n3_ n4_ n5_ n6_ ⊢; have HO429 := n0_; have HO456 := n1_; have BK417 := n2_; have BK430 := n3_; have HI0 := n4_; have HK := n5_; have HB := n6_; clear n0_ n1_ n2_ n3_ n4_ n5_ n6_; obtain ⟨hcz90_0, hfz90_0⟩ := bz (.slice (some ⟨go68, 0, none⟩) t427.length co76) BK430; obtain ⟨hnb91, hnc91⟩ := nk NB417_0; obtain ⟨hcz92_0, hfz92_0⟩ := bz (.slice none 0 0) BK417
       try go_wp2
       refine bodyPost_ret (results_cell_row rfl _ _ gb417 26 #[.slice (some ⟨go68, 0, none⟩) t427.length co76] (0, 0) _ rfl ax106 Tryz.underlying26 rfl (by kernel_rfl)) rfl ?_
       exact ⟨_, ax21, aU, ax92, ax107, ax94⟩
      ·rw [if_neg c67] at H
       exact absurd H (by simp)
     ·rw [if_neg c66] at H
      exact absurd H (by simp)
    ·rw [if_neg c63] at H
     have c63b0 := beq_eq_false_iff_ne.mpr c63; have c63b1 := bne_iff_ne.mpr c63
     by_cases c93 : t431 = 3
     ·rw [if_pos c93] at H
      have c93b0 := beq_iff_eq.mpr c93; have c93b1 := bne_eq_false_iff_eq.mpr c93; clear c93; obtain ⟨⟨t461, t462, t463⟩, A94, H⟩ := bs H
      by_cases c95 : t427.length < 5864062014805
      ·rw [if_pos c95] at H
       have LMc95 := am c95; clear c95; obtain ⟨y464, hy464⟩ : ∃ y_ : List (S74), y_ = (t427 ++ [(⟨25, 0, t461⟩ : S74)]) := ⟨_, rfl⟩
       replace H : (some (y464, t462, t463)) = some (r1, r2, r3) := by first | (rw [hy464]; with_reducible exact H) | (have H2_ := (Option.bind_some _ _).symm.trans H; rw [hy464]; with_reducible exact H2_) | (have H2_ := (Option.bind_some _ _).symm.trans H; with_reducible exact H2_) | with_reducible exact H | (rw [hy464]; exact H) | exact H
       have Ny464 := am hy464; clear hy464; simp only [Option.some.injEq, Prod.mk.injEq] at H; obtain ⟨rfl, rfl, rfl⟩ := H
       go_enter Tryz.func108, Tryz.ntmps108
       try go_wp2_with (first | ((with_reducible refine gt 2 ?_); refine bx 2 #[.slice none 0 0] 26 ?_; intro gb417 hg w96 hbox hb; replace HB := am (below_step ax51 hb); have BK417 := am (hbox); have GW417 := am ((ax89 : w.heap.size ≤ gb417)); have GE417 := am ((Nat.le_trans HW0.out (ax89 : w.heap.size ≤ gb417) : w0.heap.size ≤ gb417)); replace HK := am (KeepBut.trans ax50 (KeepBut.of_below hb g none) (.inl rfl)); have NB0_417 := am ((ax90 : g ≠ gb417)); have NB417_0 := am ((ax91 : gb417 ≠ g)); replace HI0 := am (IsS82.below ax48 hb); clear hb hbox hg) | ((with_reducible refine gd 9 139 ?_); refine gc 9 Tryz.func139 #[.pointer (some ⟨g, 0, none⟩)] (spec_l1Cur_words.calls k g s0_0 s0_1 s0_2 t418 t421 t422 w0 _ ax92 ax93 A2.out) ?_; rintro e w97 ⟨v419, rfl, ho0, hi, hb, hk⟩; refine ⟨_, rfl, ?_⟩; replace BK417 := kB hk BK417 NB417_0; have HO420 := am (Kd.R_lower ho0 (keep_size (w := w) (g := g) (row := none) ax94)); replace HK := am (KeepBut.trans ax94 hk (.inl rfl)); replace HB := am (hb); replace HI0 := am (hi); (try clear hb hk hi ho0); obtain ⟨Ao98, co98, rfl⟩ := Kd.R_slice HO420.out) | ((with_reducible refine gd 10 144 ?_); refine gc 10 Tryz.func144 #[.slice Ao98 t418.length co98] (spec_l2Set.calls k _ _ t418 t423 true _ (rd2 HO420) (rl HO420) A3.out) ?_; rintro e w99 ⟨v424, rfl, ho0, hb⟩; refine ⟨_, rfl, ?_⟩; have HO425 := am (Kd.V_lower (Kd.V_mono (ok' := fun k_ => some k_ ≠ (.slice Ao98 t418.length co98 : Value).ownBlock ∧ k_ ≠ gb417 ∧ k_ ≠ g) ho0 (fun k_ hk_ => ⟨(Kd.fresh' (Kd.R_lt (rX HO420)) k_ hk_), (Kd.freshB (g := gb417) (o := .cells #[.slice none 0 0] 26 (0, 0)) aU k_ hk_), (IsS82.fresh ax92 k_ hk_)⟩)) (keep_size (w := w) (g := g) (row := none) ax94)); replace HO420 := uR HO420 hb; replace BK417 := ub BK417 hb; replace HK := am (KeepBut.trans ax94 (KeepBut.of_below hb g none) (.inl rfl)); replace HB := am (below_step ax93 hb); replace HI0 := am (IsS82.below ax92 hb); (try clear hb ho0); obtain ⟨Ao100, co100, eo100⟩ := Kd.V_slice HO425.out; subst eo100) | ((with_reducible refine gd 17 123 ?_); refine gc 17 Tryz.func123 #[.slice Ao100 t423.length co100] (spec_l2Of.calls k _ _ t423 t427 _ ax95 ((Kd.V_reads' HO425.out).2.1) A5.out) ?_; rintro e w101 ⟨v428, rfl, ho0, hb⟩; refine ⟨_, rfl, ?_⟩; replace HO420 := uR HO420 hb; replace HO425 := am (Kd.V_elder' ax96 (Kd.R_base ho0) hb); have HO429 := am (Kd.R_lower ho0 (keep_size (w := w) (g := g) (row := none) ax94)); replace BK417 := ub BK417 hb; replace HK := am (KeepBut.trans ax94 (KeepBut.of_below hb g none) (.inl rfl)); replace HB := am (below_step ax93 hb); replace HI0 := am (IsS82.below ax92 hb); (try clear hb ho0)) | ((with_reducible refine gt 5 ?_); refine bx 5 #[.slice none 0 0] 26 ?_; intro gb430 hg w102 hbox hb; replace HO429 := uR HO429 hb; replace HB := am (below_step ax93 hb); have BK430 := am (hbox); have GW430 := am ((ax97 : w.heap.size ≤ gb430)); have GE430 := am ((Nat.le_trans HW0.out (ax97 : w.heap.size ≤ gb430) : w0.heap.size ≤ gb430)); replace HK := am (KeepBut.trans ax94 (KeepBut.of_below hb g none) (.inl rfl)); obtain ⟨NB417_430, NB430_417, BK417⟩ := uA hg hb BK417; have NB0_430 := am ((ax98 : g ≠ gb430)); have NB430_0 := am ((ax99 : gb430 ≠ g)); replace HI0 := am (IsS82.below ax92 hb); clear hb hbox hg; obtain ⟨Ao103, co103, rfl⟩ := Kd.R_slice HO429.out; obtain ⟨hnb104, hnc104⟩ := nk NB430_417; obtain ⟨hnb105, hnc105⟩ := nk NB430_0; obtain ⟨hcz106_0, hfz106_0⟩ := bz (.slice none 0 0) BK430) | ((with_reducible refine gd 22 127 ?_); refine gc 22 Tryz.func127 #[.pointer (some ⟨g, 0, none⟩), .int .i64 60] (spec_l1Cur_pick.calls g s0_0 t421 t422 60 t431 t432 t433 w0 _ ax92 ax100 A6.out) ?_; rintro e w107 ⟨rfl, hi, hb, hk⟩; refine ⟨_, rfl, ?_⟩; replace BK417 := kB hk BK417 NB417_0; replace HO429 := rK (IsS82.apart (show IsS82 w0 _ g s0_0 t421 t422 from ax92) (rX HO429) (by decide)) hk; replace BK430 := am (KeepBut.blk hk (g' := gb430) (o := .cells #[.slice Ao103 t427.length co103] 26 (0, 0)) aU NB430_0.out (by simp)); replace HK := am (KeepBut.trans ax101 hk (.inl rfl)); replace HB := am (hb); replace HI0 := am (hi); (try clear hb hk hi)))
       replace HO429 := am (Kd.R_drew HO429.out); replace BK417 := am (blk_drew BK417.out); replace BK430 := am (blk_drew BK430.out); replace HI0 := am (IsS82.drew HI0.out); replace HK := am (keep_drew HK.out); replace HB := am (below_drew1 HB.out); refine start_ (n := 9) (S := fun w' => w'.cell? ⟨gb430, 0, none⟩ = some (.slice Ao103 t427.length co103)) (ds := [8]) (ob 9 0) (by kernel_rfl) rfl rfl ((blk_cell BK430.out 0).trans rfl) (fun hHeld => ?_); refine with_tabW spec_l1Cur_trie.tab14 spec_l1Cur_trie.bits14 (fun HT_ HW_ => ?_); generalize w107.drew = w108 at HO429 BK417 BK430 HI0 HK HB hHeld ⊢; refine pu 0 61 ?_; refine pu 2 63 ?_; refine take_ (i := 1) (N := some 62) (v := ?_) (a' := ?_) (ob 9 7) rfl rfl (take_ofW HT_.out HW_.out (by kernel_rfl)) (fun _ _ _ h => h) (Or.inl ⟨by rfl, ?_⟩) hHeld ?_ ?_
       rotate_left
       ·exact ax10
       rotate_left
       ·exact ax11
       refine one_ (i := 3) (N := some 64) (ob 9 15) rfl rfl (one_of HT_.out (by kernel_rfl)) (by decide) (fun K hK => ?_); refine goes_ Tryz.func122 (by kernel_rfl) rfl #[.pointer (some ⟨g, 0, none⟩), .int .i64 2] (by rfl) rfl rfl ax26 ?_
       with_reducible refine (spec_l1Cur_one.calls g s0_0 t432 t433 2 t461 t462 t463 w0 _ ?side1 ?side2 A94.out).mono ?_
       (case side1 => exact ax92)
       (case side2 => exact ax100)
       rintro e w109 ⟨rfl, hi, hb, hk⟩; refine ⟨_, rfl, ?_⟩; replace BK417 := kB hk BK417 NB417_0; replace HO429 := rK (IsS82.apart (show IsS82 w0 _ g s0_0 t432 t433 from ax92) (rX HO429) (by decide)) hk; replace BK430 := kB hk BK430 NB430_0; replace HK := am (KeepBut.trans ax101 hk (.inl rfl)); replace HB := am (hb); replace HI0 := am (hi); (try clear hb); (try clear hb2); (try clear hk); (try clear hi); refine hK.out _ _ ((blk_cell BK430.out 0).trans rfl) (fun hHeld => ?_); clear hK K; refine nm 64 ?_; refine pu 4 65 ?_; refine one_ (i := 5) (N := some 66) (ob 9 63) rfl rfl (one_of HT_.out (by kernel_rfl)) (by decide) (fun K hK => ?_); refine value_ (w1 := ?_) (v := ?_) (by rfl) rfl ?_ ?_
       rotate_left 2
       ·go_simp
        constructor
        ·rfl
        ·rfl
       refine hK.out _ _ ((blk_cell (blk_alloc BK430.out _) 0).trans rfl) (fun hHeld => ?_); clear hK K; refine nm 66 ?_; refine one_ (i := 6) (N := some 67) (ob 9 127) rfl rfl (one_of HT_.out (by kernel_rfl)) (by decide) (fun K hK => ?_); refine Kd.R_append_step k74 w.heap.size (by rfl) (.tmp 62) (.tmp 66) 24 74 (.agg #[(.int .i64 0), (.int .i64 0), (.bool false)]) 24 rfl Tryz.underlying24 info74 rfl (by decide) (by omega) (.slice Ao103 t427.length co103) t427 (⟨25, 0, t461⟩ : S74) [.int .i64 25, .int .i64 0, .bool t461] (fun _ => True) (fun _ => False) rfl rfl ?aP (fun _ hk => hk.elim) ?aF ?aO (Below.refl _ _) ?aS ?aL ?_
       (case aP => exact k74_mkM _ _ _ (⟨25, 0, t461⟩ : S74))
       (case aF => exact ax27)
       (case aO => exact (rX HO429))
       (case aS => exact (keep_size (w := w) (g := g) (row := none) ax101))
       (case aL => have := LMc95.out; omega)
       intro v465 w110 ho hb hg hat; rw [← Ny464.out] at ho; have n0_ := am (IsS82.grown ax92 hg (IsS82.own_ne HI0.out HO429.out (by decide))); have n1_ := am (blk_grown (g := gb417) (o := .cells #[.slice none 0 0] 26 (0, 0)) aU hg (Kd.R_ne HO429.out BK417.out (by decide))); have n2_ := am (blk_grown (g := gb430) (o := .cells #[.slice Ao103 t427.length co103] 26 (0, 0)) aU hg (Kd.R_ne HO429.out BK430.out (by decide))); have n3_ := am (below_weaken ax100 HL.out hb); have n4_ := am (KeepBut.trans ax101 (KeepBut.of_grown hg g) (Kd.R_base2 HO429.out)); have n5_ := am (ho); clear HI0; clear BK417; clear BK430; clear HB; clear HK; clear HO429; have HI0 := n0_; have BK417 := n1_; have BK430 := n2_; have HB := n3_; have HK := n4_; have HO466 := n5_; clear n0_ n1_ n2_ n3_ n4_ n5_; clear ho hb hg hat; obtain ⟨Ao111, co111, eo111⟩ := Kd.R_slice HO466.out; (first | subst eo111 | (injection eo111 with f1_ f2_ f3_; have f4_ := f1_.symm; have f5_ := f3_.symm; clear f1_ f2_ f3_; subst f4_; subst f5_)); refine hK.out _ _ ((blk_cell BK430.out 0).trans rfl) (fun hHeld => ?_); clear hK K; refine nm 67 ?_; refine pu 7 68 ?_; refine last_ (i := 8) (N := none) (ob 9 511) rfl rfl (one_of HT_.out (by kernel_rfl)) (by decide) (fun K hK => ?_); have hs112 : w110.cell? ⟨gb430, 0, none⟩ = some (.slice Ao103 t427.length co103) := (blk_cell BK430.out 0).trans rfl; have hfs112 := blk_frozen BK430.out 0; have hns112_0 := NB417_430.out; have hms112_0 := NB430_417.out; refine skip_ (w1 := ?_) (by rfl) rfl ?_ ?_
       rotate_left
       ·go_simp
        rfl
       refine hK.out _ _ ?_; clear hK K; refine dn ?_; obtain ⟨hcz113_0, hfz113_0⟩ := bz (.slice Ao103 t427.length co103) BK430; obtain ⟨hnb114, hnc114⟩ := nk NB417_0; obtain ⟨hcz115_0, hfz115_0⟩ := bz (.slice none 0 0) BK417
       try go_wp2
       refine bodyPost_ret (results_cell_row rfl _ _ gb417 26 #[.slice Ao111 y464.length co111] (0, 0) _ rfl (by (with_reducible repeat (first | refine blk_drewN ?_ _ | refine blk_drew ?_ | refine blk_alloc ?_ _)); refine blk_put (cs := #[.slice none 0 0]) ?_ 0 _ rfl; (with_reducible repeat (first | refine blk_drewN ?_ _ | refine blk_drew ?_ | refine blk_alloc ?_ _)); refine blk_far ?_ NB417_430.out _; (with_reducible repeat (first | refine blk_drewN ?_ _ | refine blk_drew ?_ | refine blk_alloc ?_ _)); exact BK417.out) Tryz.underlying26 rfl (by kernel_rfl)) rfl ?_
       exact ⟨_, ax21, aU, ax92, ax107, ax101⟩
      ·rw [if_neg c95] at H
       exact absurd H (by simp)
     ·rw [if_neg c93] at H
      have c93b0 := beq_eq_false_iff_ne.mpr c93; have c93b1 := bne_iff_ne.mpr c93; simp only [Option.some.injEq, Prod.mk.injEq] at H; obtain ⟨rfl, rfl, rfl⟩ := H
      go_enter Tryz.func108, Tryz.ntmps108
      go_wp2_with (first | ((with_reducible refine gt 2 ?_); refine bx 2 #[.slice none 0 0] 26 ?_; intro gb417 hg w116 hbox hb; replace HB := am (below_step ax51 hb); have BK417 := am (hbox); have GW417 := am ((ax89 : w.heap.size ≤ gb417)); have GE417 := am ((Nat.le_trans HW0.out (ax89 : w.heap.size ≤ gb417) : w0.heap.size ≤ gb417)); replace HK := am (KeepBut.trans ax50 (KeepBut.of_below hb g none) (.inl rfl)); have NB0_417 := am ((ax90 : g ≠ gb417)); have NB417_0 := am ((ax91 : gb417 ≠ g)); replace HI0 := am (IsS82.below ax48 hb); clear hb hbox hg) | ((with_reducible refine gd 9 139 ?_); refine gc 9 Tryz.func139 #[.pointer (some ⟨g, 0, none⟩)] (spec_l1Cur_words.calls k g s0_0 s0_1 s0_2 t418 t421 t422 w0 _ ax92 ax93 A2.out) ?_; rintro e w117 ⟨v419, rfl, ho0, hi, hb, hk⟩; refine ⟨_, rfl, ?_⟩; replace BK417 := kB hk BK417 NB417_0; have HO420 := am (Kd.R_lower ho0 (keep_size (w := w) (g := g) (row := none) ax94)); replace HK := am (KeepBut.trans ax94 hk (.inl rfl)); replace HB := am (hb); replace HI0 := am (hi); (try clear hb hk hi ho0); obtain ⟨Ao118, co118, rfl⟩ := Kd.R_slice HO420.out) | ((with_reducible refine gd 10 144 ?_); refine gc 10 Tryz.func144 #[.slice Ao118 t418.length co118] (spec_l2Set.calls k _ _ t418 t423 true _ (rd2 HO420) (rl HO420) A3.out) ?_; rintro e w119 ⟨v424, rfl, ho0, hb⟩; refine ⟨_, rfl, ?_⟩; have HO425 := am (Kd.V_lower (Kd.V_mono (ok' := fun k_ => some k_ ≠ (.slice Ao118 t418.length co118 : Value).ownBlock ∧ k_ ≠ gb417 ∧ k_ ≠ g) ho0 (fun k_ hk_ => ⟨(Kd.fresh' (Kd.R_lt (rX HO420)) k_ hk_), (Kd.freshB (g := gb417) (o := .cells #[.slice none 0 0] 26 (0, 0)) aU k_ hk_), (IsS82.fresh ax92 k_ hk_)⟩)) (keep_size (w := w) (g := g) (row := none) ax94)); replace HO420 := uR HO420 hb; replace BK417 := ub BK417 hb; replace HK := am (KeepBut.trans ax94 (KeepBut.of_below hb g none) (.inl rfl)); replace HB := am (below_step ax93 hb); replace HI0 := am (IsS82.below ax92 hb); (try clear hb ho0); obtain ⟨Ao120, co120, eo120⟩ := Kd.V_slice HO425.out; subst eo120) | ((with_reducible refine gd 17 123 ?_); refine gc 17 Tryz.func123 #[.slice Ao120 t423.length co120] (spec_l2Of.calls k _ _ t423 t427 _ ax95 ((Kd.V_reads' HO425.out).2.1) A5.out) ?_; rintro e w121 ⟨v428, rfl, ho0, hb⟩; refine ⟨_, rfl, ?_⟩; replace HO420 := uR HO420 hb; replace HO425 := am (Kd.V_elder' ax96 (Kd.R_base ho0) hb); have HO429 := am (Kd.R_lower ho0 (keep_size (w := w) (g := g) (row := none) ax94)); replace BK417 := ub BK417 hb; replace HK := am (KeepBut.trans ax94 (KeepBut.of_below hb g none) (.inl rfl)); replace HB := am (below_step ax93 hb); replace HI0 := am (IsS82.below ax92 hb); (try clear hb ho0)) | ((with_reducible refine gt 5 ?_); refine bx 5 #[.slice none 0 0] 26 ?_; intro gb430 hg w122 hbox hb; replace HO429 := uR HO429 hb; replace HB := am (below_step ax93 hb); have BK430 := am (hbox); have GW430 := am ((ax97 : w.heap.size ≤ gb430)); have GE430 := am ((Nat.le_trans HW0.out (ax97 : w.heap.size ≤ gb430) : w0.heap.size ≤ gb430)); replace HK := am (KeepBut.trans ax94 (KeepBut.of_below hb g none) (.inl rfl)); obtain ⟨NB417_430, NB430_417, BK417⟩ := uA hg hb BK417; have NB0_430 := am ((ax98 : g ≠ gb430)); have NB430_0 := am ((ax99 : gb430 ≠ g)); replace HI0 := am (IsS82.below ax92 hb); clear hb hbox hg; obtain ⟨Ao123, co123, rfl⟩ := Kd.R_slice HO429.out; obtain ⟨hnb124, hnc124⟩ := nk NB430_417; obtain ⟨hnb125, hnc125⟩ := nk NB430_0; obtain ⟨hcz126_0, hfz126_0⟩ := bz (.slice none 0 0) BK430) | ((with_reducible refine gd 22 127 ?_); refine gc 22 Tryz.func127 #[.pointer (some ⟨g, 0, none⟩), .int .i64 60] (spec_l1Cur_pick.calls g s0_0 t421 t422 60 t431 t432 t433 w0 _ ax92 ax100 A6.out) ?_; rintro e w127 ⟨rfl, hi, hb, hk⟩; refine ⟨_, rfl, ?_⟩; replace BK417 := kB hk BK417 NB417_0; replace HO429 := rK (IsS82.apart (show IsS82 w0 _ g s0_0 t421 t422 from ax92) (rX HO429) (by decide)) hk; replace BK430 := am (KeepBut.blk hk (g' := gb430) (o := .cells #[.slice Ao123 t427.length co123] 26 (0, 0)) aU NB430_0.out (by simp)); replace HK := am (KeepBut.trans ax101 hk (.inl rfl)); replace HB := am (hb); replace HI0 := am (hi); (try clear hb hk hi); obtain ⟨hcz128_0, hfz128_0⟩ := bz (.slice Ao123 t427.length co123) BK430; obtain ⟨hnb129, hnc129⟩ := nk NB417_0; obtain ⟨hcz130_0, hfz130_0⟩ := bz (.slice none 0 0) BK417))
      refine bodyPost_ret (results_cell_row rfl _ _ gb417 26 #[.slice Ao123 t427.length co123] (0, 0) _ rfl ax106 Tryz.underlying26 rfl (by kernel_rfl)) rfl ?_
      exact ⟨_, ax21, aU, ax92, ax107, ax94⟩
 ·replace c4 := Bool.eq_false_iff.mpr c4
  subst c4; rw [if_neg (show ¬ (false = true) by decide)] at H; simp only [Option.some.injEq, Prod.mk.injEq] at H; obtain ⟨rfl, rfl, rfl⟩ := H
  go_enter Tryz.func108, Tryz.ntmps108
  go_wp2_with (first | ((with_reducible refine gt 2 ?_); refine bx 2 #[.slice none 0 0] 26 ?_; intro gb417 hg w131 hbox hb; replace HB := am (below_step ax51 hb); have BK417 := am (hbox); have GW417 := am ((ax89 : w.heap.size ≤ gb417)); have GE417 := am ((Nat.le_trans HW0.out (ax89 : w.heap.size ≤ gb417) : w0.heap.size ≤ gb417)); replace HK := am (KeepBut.trans ax50 (KeepBut.of_below hb g none) (.inl rfl)); have NB0_417 := am ((ax90 : g ≠ gb417)); have NB417_0 := am ((ax91 : gb417 ≠ g)); replace HI0 := am (IsS82.below ax48 hb); clear hb hbox hg) | ((with_reducible refine gd 9 139 ?_); refine gc 9 Tryz.func139 #[.pointer (some ⟨g, 0, none⟩)] (spec_l1Cur_words.calls k g s0_0 s0_1 s0_2 t418 t421 t422 w0 _ ax92 ax93 A2.out) ?_; rintro e w132 ⟨v419, rfl, ho0, hi, hb, hk⟩; refine ⟨_, rfl, ?_⟩; replace BK417 := kB hk BK417 NB417_0; have HO420 := am (Kd.R_lower ho0 (keep_size (w := w) (g := g) (row := none) ax94)); replace HK := am (KeepBut.trans ax94 hk (.inl rfl)); replace HB := am (hb); replace HI0 := am (hi); (try clear hb hk hi ho0); obtain ⟨Ao133, co133, rfl⟩ := Kd.R_slice HO420.out) | ((with_reducible refine gd 10 144 ?_); refine gc 10 Tryz.func144 #[.slice Ao133 t418.length co133] (spec_l2Set.calls k _ _ t418 t423 false _ (rd2 HO420) (rl HO420) A3.out) ?_; rintro e w134 ⟨v424, rfl, ho0, hb⟩; refine ⟨_, rfl, ?_⟩; have HO425 := am (Kd.V_lower (Kd.V_mono (ok' := fun k_ => some k_ ≠ (.slice Ao133 t418.length co133 : Value).ownBlock ∧ k_ ≠ gb417 ∧ k_ ≠ g) ho0 (fun k_ hk_ => ⟨(Kd.fresh' (Kd.R_lt (rX HO420)) k_ hk_), (Kd.freshB (g := gb417) (o := .cells #[.slice none 0 0] 26 (0, 0)) aU k_ hk_), (IsS82.fresh ax92 k_ hk_)⟩)) (keep_size (w := w) (g := g) (row := none) ax94)); replace HO420 := uR HO420 hb; replace BK417 := ub BK417 hb; replace HK := am (KeepBut.trans ax94 (KeepBut.of_below hb g none) (.inl rfl)); replace HB := am (below_step ax93 hb); replace HI0 := am (IsS82.below ax92 hb); (try clear hb ho0); obtain ⟨hnb135, hnc135⟩ := nk NB417_0; obtain ⟨hcz136_0, hfz136_0⟩ := bz (.slice none 0 0) BK417))
  refine bodyPost_ret (results_cell_row rfl _ _ gb417 26 #[.slice none 0 0] (0, 0) _ rfl ax106 Tryz.underlying26 rfl (by kernel_rfl)) rfl ?_
  exact ⟨_, ax21, ax29, ax92, ax107, ax94⟩

end Go.Proofs.YtcplbbflfgckbaaGreatDoor.X
namespace Go.Proofs.YtcplbbflfgckbaaGreatDoor.X
open Go.RowKit Go.Proofs.YtcplbbflfgckbaaGreatDoorW.PrintWords Go.Proofs.YtcplbbflfgckbaaGreatDoorW.PrintLast Go.Proofs.YtcplbbflfgckbaaGreatDoorW.PrintMore
attribute [local go_sem] max2_int min2_int max_two min_two max_three min_three max_four min_four   -- for this text's walks alone
set_option linter.unusedVariables false
set_option linter.unusedSimpArgs false
set_option maxHeartbeats 8000000
set_option maxRecDepth 100000

/-! ### spec_DrawIsTrie: function 145 -/
def spec_DrawIsTrie.f (k : Nat) (l0 : List Int) : Option ((List (S74))) := (spec_l1Cur_trie.f k l0 0 0).bind fun bt469 => (some bt469.1)
theorem spec_DrawIsTrie.calls (k : Nat) (A0 : Option Addr) (c0 : Nat) (l0 : List Int) (r : List (S74)) (w : World) (hr0 : Kd.C (Kd.int .u8) w A0 l0.length l0) (hc0 : l0.length ≤ c0) (h : spec_DrawIsTrie.f k l0 = some r) :
  Calls Tryz.prog 145 #[.slice A0 l0.length c0] w fun e w' => ∃ v0_ : Value, e = .returned (.agg #[v0_]) ∧ Kd.R k74 74 w' w.heap.size (fun _ => True) v0_ r ∧ Below w.heap.size w w' := by
 have hu26 := Tryz.underlying26; have hu82 := Tryz.underlying82; have HR0 := am hr0; have HC0 := am hc0; clear hr0 hc0; have HB := am (Below.refl w.heap.size w)
 unfold spec_DrawIsTrie.f at h
 have H := h; clear h; obtain ⟨⟨t469, t472, t473⟩, A2, H⟩ := bs H; obtain rfl := Option.some.inj H
 go_enter Tryz.func145, Tryz.ntmps145
 go_wp2_with (first | ((with_reducible refine gt 2 ?_); refine bx 2 #[.slice none 0 0] 26 ?_; intro gb467 hg w3 hbox hb; have BK467 := am (hbox); have GW467 := uG hg HB; have GE467 := uG hg HB; replace HB := uB HB hb; clear hb hbox hg) | ((with_reducible refine gt 6 ?_); refine bx 6 #[.slice A0 l0.length c0, .int .i64 0, .int .u64 0] 82 ?_; intro gb468 hg w4 hbox hb; have BK468 := am (hbox); have GW468 := uH hg HB; have GE468 := uH hg HB; obtain ⟨NB467_468, NB468_467, BK467⟩ := uA hg hb BK467; have HI468 := am ((⟨_, _, hbox, ax36, HR0.out⟩ : IsS82 w w4 gb468 l0 0 0)); replace HB := uS HB hb; clear hb hbox hg) | ((with_reducible refine gd 8 108 ?_); refine gc 8 Tryz.func108 #[.pointer (some ⟨gb468, 0, none⟩)] (spec_l1Cur_trie.calls k gb468 l0 0 0 t469 t472 t473 w _ (by repeat (first | (with_reducible first | exact HI468.out | apply IsS82.alloc | apply IsS82.drewN | apply IsS82.drew | apply IsS82.set_1 | apply IsS82.set_2 | refine IsS82.far ?_ NB468_467.out _) | exact HI468.out)) ax112 A2.out) ?_; rintro e w5 ⟨v470, rfl, ho0, hi, hb, hk⟩; refine ⟨_, rfl, ?_⟩; replace BK467 := kB hk BK467 NB467_468; have HO471 := am (Kd.R_lower ho0 (below_size ax112)); replace HB := am (hb); replace HI468 := am (hi); (try clear hb hk hi ho0); obtain ⟨Ao6, co6, rfl⟩ := Kd.R_slice HO471.out; obtain ⟨hnb7, hnc7⟩ := nk NB467_468; obtain ⟨hcz8_0, hfz8_0⟩ := bz (.slice none 0 0) BK467))
 refine bodyPost_ret (results_cell_row rfl _ _ gb467 26 #[.slice Ao6 t469.length co6] (0, 0) _ rfl (by (with_reducible repeat (first | refine blk_drewN ?_ _ | refine blk_drew ?_ | refine blk_alloc ?_ _)); refine blk_put (cs := #[.slice none 0 0]) ?_ 0 _ rfl; (with_reducible repeat (first | refine blk_drewN ?_ _ | refine blk_drew ?_ | refine blk_alloc ?_ _)); exact BK467.out) Tryz.underlying26 rfl (by kernel_rfl)) rfl ?_
 exact ⟨_, ax21, aU, (by repeat (first | (with_reducible first | exact HB.out | apply below_alloc | apply pw_below_drewN | apply below_drew1 | refine below_set ?_ (IsS82.ge HI468.out) | refine below_set ?_ (Aside0.out ax58)) | exact HB.out))⟩

/-! ### spec_DrawWordsOf: function 50 -/
def spec_DrawWordsOf.f (k : Nat) (l0 : List Int) : Option ((List (S74))) := (spec_DrawIsTrie.f k l0).bind fun t475 => (some t475)
theorem spec_DrawWordsOf.calls (k : Nat) (A0 : Option Addr) (c0 : Nat) (l0 : List Int) (r : List (S74)) (w : World) (hr0 : Kd.C (Kd.int .u8) w A0 l0.length l0) (hc0 : l0.length ≤ c0) (h : spec_DrawWordsOf.f k l0 = some r) :
  Calls Tryz.prog 50 #[.slice A0 l0.length c0] w fun e w' => ∃ v0_ : Value, e = .returned (.agg #[v0_]) ∧ Kd.R k74 74 w' w.heap.size (fun _ => True) v0_ r ∧ Below w.heap.size w w' := by
 have hu26 := Tryz.underlying26; have HR0 := am hr0; have HC0 := am hc0; clear hr0 hc0; have HB := am (Below.refl w.heap.size w)
 unfold spec_DrawWordsOf.f at h
 have H := h; clear h; obtain ⟨t475, A2, H⟩ := bs H; obtain rfl := Option.some.inj H
 go_enter Tryz.func50, Tryz.ntmps50
 go_wp2_with (first | ((with_reducible refine gt 2 ?_); refine bx 2 #[.slice none 0 0] 26 ?_; intro gb474 hg w3 hbox hb; have BK474 := am (hbox); have GW474 := uG hg HB; have GE474 := uG hg HB; replace HB := uB HB hb; clear hb hbox hg) | ((with_reducible refine gd 4 145 ?_); refine gc 4 Tryz.func145 #[.slice A0 l0.length c0] (spec_DrawIsTrie.calls k _ _ l0 t475 _ ax42 (HC0.out) A2.out) ?_; rintro e w4 ⟨v476, rfl, ho0, hb⟩; refine ⟨_, rfl, ?_⟩; have HO477 := am (Kd.R_lower ho0 (bS HB)); replace BK474 := ub BK474 hb; replace HB := uS HB hb; (try clear hb ho0); obtain ⟨Ao5, co5, rfl⟩ := Kd.R_slice HO477.out; obtain ⟨hcz6_0, hfz6_0⟩ := bz (.slice none 0 0) BK474))
 refine bodyPost_ret (results_cell_row rfl _ _ gb474 26 #[.slice Ao5 t475.length co5] (0, 0) _ rfl (by (with_reducible repeat (first | refine blk_drewN ?_ _ | refine blk_drew ?_ | refine blk_alloc ?_ _)); refine blk_put (cs := #[.slice none 0 0]) ?_ 0 _ rfl; (with_reducible repeat (first | refine blk_drewN ?_ _ | refine blk_drew ?_ | refine blk_alloc ?_ _)); exact BK474.out) Tryz.underlying26 rfl (by kernel_rfl)) rfl ?_
 exact ⟨_, ax21, aU, aL⟩

/-! ### impl_WordsOf: function 51 -/
def impl_WordsOf.f (k : Nat) (l0_0 : List (S74)) : Option (List ByteArray × Bool) := (impl_isTrie.f k l0_0).bind fun t479 => (if t479 = true then ((impl_Trie_words.f k l0_0).bind fun t480 => (some (t480, true))) else (some (([] : List ByteArray), false)))
theorem impl_WordsOf.calls (k : Nat) (A0_0 : Option Addr) (c0_0 : Nat) (l0_0 : List (S74)) (r1 : List ByteArray) (r2 : Bool) (w : World) (hr0_0 : Kd.C k74 w A0_0 l0_0.length l0_0) (hc0_0 : l0_0.length ≤ c0_0) (h : impl_WordsOf.f k l0_0 = some (r1, r2)) :
  Calls Tryz.prog 51 #[.agg #[.slice A0_0 l0_0.length c0_0]] w fun e w' => ∃ v0_ : Value, e = .returned (.tuple #[v0_, .bool r2]) ∧ Kd.R Kd.string 9 w' w.heap.size (fun _ => True) v0_ r1 ∧ Below w.heap.size w w' := by
 have hu26 := Tryz.underlying26; have HR0_0 := am hr0_0; have HC0_0 := am hc0_0; clear hr0_0 hc0_0; have HB := am (Below.refl w.heap.size w)
 unfold impl_WordsOf.f at h
 have H := h; clear h; obtain ⟨t479, A2, H⟩ := bs H
 by_cases c3 : t479 = true
 ·subst c3
  rw [if_pos rfl] at H; obtain ⟨t480, A4, H⟩ := bs H; simp only [Option.some.injEq, Prod.mk.injEq] at H; obtain ⟨rfl, rfl⟩ := H
  go_enter Tryz.func51, Tryz.ntmps51
  go_wp2_with (first | ((with_reducible refine gt 1 ?_); refine bx 1 #[.slice A0_0 l0_0.length c0_0] 26 ?_; intro gb478 hg w5 hbox hb; have BK478 := am (hbox); have GW478 := uG hg HB; have GE478 := uG hg HB; replace HB := uB HB hb; clear hb hbox hg; obtain ⟨hcz6_0, hfz6_0⟩ := bz (.slice A0_0 l0_0.length c0_0) BK478) | ((with_reducible refine gd 5 124 ?_); refine gc 5 Tryz.func124 #[.agg #[.slice A0_0 l0_0.length c0_0]] (impl_isTrie.calls k _ _ l0_0 true _ ax30 (HC0_0.out) A2.out) ?_; rintro e w7 ⟨rfl, hb⟩; refine ⟨_, rfl, ?_⟩; replace BK478 := ub BK478 hb; replace HB := uS HB hb; (try clear hb); obtain ⟨hcz8_0, hfz8_0⟩ := bz (.slice A0_0 l0_0.length c0_0) BK478) | ((with_reducible refine gd 8 125 ?_); refine gc 8 Tryz.func125 #[.agg #[.slice A0_0 l0_0.length c0_0]] (impl_Trie_words.calls k _ _ l0_0 t480 _ ax30 (HC0_0.out) A4.out) ?_; rintro e w9 ⟨v481, rfl, ho0, hb⟩; refine ⟨_, rfl, ?_⟩; have HO482 := uL ho0 HB; replace HB := uB HB hb; (try clear hb ho0)))
  go_ret2
  exact ⟨_, ax21, aU, aL⟩
 ·replace c3 := Bool.eq_false_iff.mpr c3
  subst c3; rw [if_neg (show ¬ (false = true) by decide)] at H; simp only [Option.some.injEq, Prod.mk.injEq] at H; obtain ⟨rfl, rfl⟩ := H
  go_enter Tryz.func51, Tryz.ntmps51
  go_wp2_with (first | ((with_reducible refine gt 1 ?_); refine bx 1 #[.slice A0_0 l0_0.length c0_0] 26 ?_; intro gb478 hg w10 hbox hb; have BK478 := am (hbox); have GW478 := uG hg HB; have GE478 := uG hg HB; replace HB := uB HB hb; clear hb hbox hg; obtain ⟨hcz11_0, hfz11_0⟩ := bz (.slice A0_0 l0_0.length c0_0) BK478) | ((with_reducible refine gd 5 124 ?_); refine gc 5 Tryz.func124 #[.agg #[.slice A0_0 l0_0.length c0_0]] (impl_isTrie.calls k _ _ l0_0 false _ ax30 (HC0_0.out) A2.out) ?_; rintro e w12 ⟨rfl, hb⟩; refine ⟨_, rfl, ?_⟩; replace HB := uB HB hb; (try clear hb)))
  go_ret2
  exact ⟨_, ax21, ax29, aL⟩

/-! ### spec_l1In: function 132 -/
def spec_l1In.f (a0 : Int) (a1 : Int) (a2 : Int) : Option (Bool) := if a0 ≥ a1 then (some (decide (a0 ≤ a2))) else (some false)
theorem spec_l1In.calls (a0 : Int) (a1 : Int) (a2 : Int) (r : Bool) (w : World) (h : spec_l1In.f a0 a1 a2 = some r) :
  Calls Tryz.prog 132 #[.int .i64 a0, .int .i64 a1, .int .i64 a2] w fun e w' => e = .returned (.bool r) ∧ Drawn0 w w' := by
 unfold spec_l1In.f at h
 have H := h; clear h
 by_cases c4 : a0 ≥ a1
 ·rw [if_pos c4] at H
  have c4b0 := decide_eq_true c4; clear c4; obtain rfl := Option.some.inj H
  go_enter Tryz.func132, Tryz.ntmps132
  go_wp2
  go_ret
  exact ⟨ax18, ax19⟩
 ·rw [if_neg c4] at H
  have c4b0 := decide_eq_false c4; clear c4; obtain rfl := Option.some.inj H
  go_enter Tryz.func132, Tryz.ntmps132
  go_wp2
  go_ret
  exact ⟨ax18, ax19⟩

/-! ### spec_l2Prefix: function 165 -/
mutual
def spec_l2Prefix.l0 : Nat → Int → ByteArray → List (S74) → Option (ByteArray)
 | 0, _, _, _ => none
 | k + 1, x1, x5, x484000 => if x1 > 0 then (spec_l2Prefix.j1 k x1 x5 (decide ((x5.size : Int) ≤ 12)) x484000) else (spec_l2Prefix.j1 k x1 x5 false x484000)
def spec_l2Prefix.j1 : Nat → Int → ByteArray → Bool → List (S74) → Option (ByteArray)
 | 0, _, _, _, _ => none
 | k + 1, x1, x5, x13, x484000 => if x13 = true then (if 0 ≤ x1 then (if x1 < (x484000.length : Int) then ((spec_l1In.f ((rd_T74 x484000 x1).f0) 0 25).bind fun t486 => (if t486 = true then (if ((rd_T74 x484000 x1).f1) ≥ x1 then (some (⟨#[63]⟩ : ByteArray)) else ((some (([(wrap64 (97 + ((rd_T74 x484000 x1).f0))) % 256] : List Int) : List Int)).bind fun y487 => (if (strOfNums y487).size + x5.size ≤ 9223372036854775807 then (spec_l2Prefix.l0 k ((rd_T74 x484000 x1).f1) ((strOfNums y487) ++ x5) x484000) else (none)))) else (some (⟨#[63]⟩ : ByteArray)))) else (none)) else (none)) else (if x1 = 0 then (some x5) else (some (⟨#[63]⟩ : ByteArray)))
end
def spec_l2Prefix.f (k : Nat) (l0_0 : List (S74)) (a1 : Int) : Option (ByteArray) := spec_l2Prefix.l0 k a1 (⟨#[]⟩ : ByteArray) l0_0
theorem spec_l2Prefix.calls (k : Nat) (A0_0 : Option Addr) (c0_0 : Nat) (l0_0 : List (S74)) (a1 : Int) (r : ByteArray) (w : World) (hr0_0 : Kd.C k74 w A0_0 l0_0.length l0_0) (hc0_0 : l0_0.length ≤ c0_0) (h : spec_l2Prefix.f k l0_0 a1 = some r) :
  Calls Tryz.prog 165 #[.agg #[.slice A0_0 l0_0.length c0_0], .int .i64 a1] w fun e w' => e = .returned (.string r) ∧ Below w.heap.size w w' := by
 have hu26 := Tryz.underlying26; have hu74 := Tryz.underlying74; have HR0_0 := am hr0_0; have HC0_0 := am hc0_0; clear hr0_0 hc0_0; have HB := am (Below.refl w.heap.size w)
 unfold spec_l2Prefix.f at h
 have H := h; clear h; have H' := am H; clear H
 go_enter Tryz.func165, Tryz.ntmps165
 go_wp2_with (first | ((with_reducible refine gt 2 ?_); (try (refine gate_guard (by rfl) ?_; dsimp only)); refine bx 2 #[.slice A0_0 l0_0.length c0_0] 26 ?_; intro gb483 hg w3 hbox hb; have BK483 := am (hbox); have GW483 := uG hg HB; have GE483 := uG hg HB; replace HB := uB HB hb; clear hb hbox hg))
 go_loopg [1, 5] k (fun kq v1 v5 w' => ∃ (x1_1 : Int) (x5_1 : ByteArray), v1 = .int .i64 x1_1 ∧ v5 = .string x5_1 ∧ Aside0 (spec_l2Prefix.l0 kq x1_1 x5_1 l0_0 = some r) ∧ Aside0 (kq ≤ k) ∧ Aside0 (w'.heap[gb483]? = some (.cells #[(.slice A0_0 l0_0.length c0_0)] 26 (0, 0))) ∧ Aside0 (Below w.heap.size w w'))
 case atStart => exact ⟨(a1), ((⟨#[]⟩ : ByteArray)), ax18, ax18, H', ⟨Nat.le_refl _⟩, ⟨aU⟩, ⟨aL⟩⟩
 case round =>
  clear H'; obtain ⟨x1_1, x5_1, rfl, rfl, HA, HK1, BK483, HB⟩ := hrel
  cases gk with
  | zero => exact absurd HA.out (by simp [spec_l2Prefix.l0])
  | succ k1 =>
   have H := HA.out; clear HA; simp only [spec_l2Prefix.l0] at H; have HC4 := am H; clear H
   go_upto_region 2 with (fail)
   go_cut [13] (fun v13 wc => ∃ (kq : Nat) (x13_3 : Bool), v13 = .bool x13_3 ∧ Aside0 (spec_l2Prefix.j1 kq x1_1 x5_1 x13_3 l0_0 = some r) ∧ Aside0 (kq ≤ k1) ∧ Aside0 (wc.heap[gb483]? = some (.cells #[(.slice A0_0 l0_0.length c0_0)] 26 (0, 0))) ∧ Aside0 (Below w.heap.size w wc))
   case first =>
    have H := HC4.out; clear HC4
    by_cases c5 : x1_1 > 0
    ·rw [if_pos c5] at H
     have c5b0 := decide_eq_true c5; clear c5; (first | rw [c5b0] | (simp only [i64_w, i32_w]; rw [c5b0]) | skip); have H' := am H; clear H
     go_wp2
     go_meet
     case rel => exact ⟨_, (decide ((x5_1.size : Int) ≤ 12)), ax18, H', ⟨ax52⟩, ⟨aU⟩, ⟨aL⟩⟩
    ·rw [if_neg c5] at H
     have c5b0 := decide_eq_false c5; clear c5; (first | rw [c5b0] | (simp only [i64_w, i32_w]; rw [c5b0]) | skip); have H' := am H; clear H
     go_wp2
     go_meet
     case rel => exact ⟨_, (false), ax18, H', ⟨ax52⟩, ⟨aU⟩, ⟨aL⟩⟩
   case rest =>
    clear HC4; obtain ⟨kq, x13_3, rfl, HA, HJ3, BK483, HB⟩ := hcut
    cases kq with
    | zero => exact absurd HA.out (by simp [spec_l2Prefix.j1])
    | succ kj3 =>
     have H := HA.out; clear HA; simp only [spec_l2Prefix.j1] at H
     by_cases c6 : x13_3 = true
     ·subst c6
      rw [if_pos rfl] at H
      by_cases c7 : 0 ≤ x1_1
      ·rw [if_pos c7] at H
       have c7b0 := decide_eq_true c7; clear c7
       by_cases c8 : x1_1 < (l0_0.length : Int)
       ·rw [if_pos c8] at H
        have c8b0 := decide_eq_true c8; clear c8; obtain ⟨t486, A9, H⟩ := bs H
        by_cases c10 : t486 = true
        ·subst c10
         rw [if_pos rfl] at H
         by_cases c11 : ((rd_T74 l0_0 x1_1).f1) ≥ x1_1
         ·rw [if_pos c11] at H
          have c11b0 := decide_eq_true c11; clear c11; obtain rfl := Option.some.inj H; obtain ⟨hcz12_0, hfz12_0⟩ := bz (.slice A0_0 l0_0.length c0_0) BK483; have p484 : 0 ≤ (x1_1 : Int) := of_decide_eq_true ax23; have q484 : x1_1 < (l0_0.length : Int) := of_decide_eq_true ax23; obtain ⟨ad484, e484, hx484_0, hx484_1, hx484_2⟩ := at_T74 HR0_0.out x1_1 p484 q484
          cases e484
          replace hx484_0 := uC HB hx484_0; replace hx484_1 := uC HB hx484_1; replace hx484_2 := uC HB hx484_2; replace p484 := eq_true p484; replace q484 := eq_true q484
          go_wp2_with (first | ((with_reducible refine gt 6 ?_); (try (refine gate_guard (by rfl) ?_; dsimp only)); refine bx 6 #[.int .i64 0, .int .i64 0, .bool false] 74 ?_; intro gb485 hg w13 hbox hb; have BK485 := am (hbox); have GW485 := uG hg HB; have GE485 := uG hg HB; replace HB := uB HB hb; clear hb hbox hg; have hcz14_0 := bc (.int .i64 0) BK485 0; have hcz14_1 := bc (.int .i64 0) BK485 1; have hcz14_2 := bc (.bool false) BK485 2; have hfz14_0 := blk_frozen BK485.out 0; have hfz14_1 := blk_frozen BK485.out 1; have hfz14_2 := blk_frozen BK485.out 2) | ((with_reducible refine gate_store (t := 74) (p := 6) rfl ?_); refine store_event (t := 74) (p := 6) (v := ?vo_w15) (w1 := (((w13.setCell ⟨gb485, 0, none⟩ (.int .i64 ((rd_T74 l0_0 x1_1).f0))).setCell ⟨gb485, 1, none⟩ (.int .i64 ((rd_T74 l0_0 x1_1).f1))).setCell ⟨gb485, 2, none⟩ (.bool ((rd_T74 l0_0 x1_1).f2)))) ?hg ?ho ?hn ?hr ?_; (case ho => rfl); (case hg => rfl); (case hn => rfl); (case hr => exact ax20); intro w15 hw; have n0_ : Aside0 (w15.heap[gb485]? = some (.cells #[.int .i64 ((rd_T74 l0_0 x1_1).f0), .int .i64 ((rd_T74 l0_0 x1_1).f1), .bool ((rd_T74 l0_0 x1_1).f2)] 74 (0, 0))) := ⟨ax113⟩; have n1_ : Aside0 (Below w.heap.size w w15) := ⟨ax114⟩; clear hw; clear BK485; clear HB; have BK485 := n0_; have HB := n1_; clear n0_ n1_; have hcz16_0 := bc (.int .i64 ((rd_T74 l0_0 x1_1).f0)) BK485 0; have hcz16_1 := bc (.int .i64 ((rd_T74 l0_0 x1_1).f1)) BK485 1; have hcz16_2 := bc (.bool ((rd_T74 l0_0 x1_1).f2)) BK485 2; have hfz16_0 := blk_frozen BK485.out 0; have hfz16_1 := blk_frozen BK485.out 1; have hfz16_2 := blk_frozen BK485.out 2) | ((with_reducible refine gd 21 132 ?_); refine gc 21 Tryz.func132 #[.int .i64 ((rd_T74 l0_0 x1_1).f0), .int .i64 0, .int .i64 25] (spec_l1In.calls ((rd_T74 l0_0 x1_1).f0) 0 25 true _ A9.out) ?_; rintro e w' ⟨rfl, ⟨nd, rfl⟩⟩; refine ⟨_, rfl, ?_⟩))
          go_ret
          exact ⟨ax21, aL⟩
         ·rw [if_neg c11] at H
          have c11b0 := decide_eq_false c11; clear c11; obtain ⟨y487, hy487⟩ : ∃ y_ : List Int, y_ = (([(wrap64 (97 + ((rd_T74 l0_0 x1_1).f0))) % 256] : List Int)) := ⟨_, rfl⟩
          replace H : (if (strOfNums y487).size + x5_1.size ≤ 9223372036854775807 then (spec_l2Prefix.l0 kj3 ((rd_T74 l0_0 x1_1).f1) ((strOfNums y487) ++ x5_1) l0_0) else (none)) = some r := by first | (rw [hy487]; with_reducible exact H) | (have H2_ := (Option.bind_some _ _).symm.trans H; rw [hy487]; with_reducible exact H2_) | (have H2_ := (Option.bind_some _ _).symm.trans H; with_reducible exact H2_) | with_reducible exact H | (rw [hy487]; exact H) | exact H
          have Ny487 := am hy487; clear hy487
          by_cases c17 : (strOfNums y487).size + x5_1.size ≤ 9223372036854775807
          ·rw [if_pos c17] at H
           have c17b0 := eq_true c17; have c17b1 := decide_eq_true c17
           try have c17b2 : (9223372036854775807 < (strOfNums y487).size + x5_1.size) = False := eq_false (Nat.not_lt.2 c17)
           clear c17; obtain ⟨js18, hjs18⟩ : ∃ j_ : ByteArray, ((strOfNums y487) ++ x5_1) = j_ := ⟨_, rfl⟩; (first | rw [hjs18] at H | simp only [hjs18] at H); have H' := am H; clear H; obtain ⟨hcz19_0, hfz19_0⟩ := bz (.slice A0_0 l0_0.length c0_0) BK483; have p484 : 0 ≤ (x1_1 : Int) := of_decide_eq_true ax23; have q484 : x1_1 < (l0_0.length : Int) := of_decide_eq_true ax23; obtain ⟨ad484, e484, hx484_0, hx484_1, hx484_2⟩ := at_T74 HR0_0.out x1_1 p484 q484
           cases e484
           replace hx484_0 := uC HB hx484_0; replace hx484_1 := uC HB hx484_1; replace hx484_2 := uC HB hx484_2; replace p484 := eq_true p484; replace q484 := eq_true q484
           go_wp2_with (first | ((with_reducible refine gt 6 ?_); (try (refine gate_guard (by rfl) ?_; dsimp only)); refine bx 6 #[.int .i64 0, .int .i64 0, .bool false] 74 ?_; intro gb485 hg w20 hbox hb; have BK485 := am (hbox); have GW485 := uH hg HB; have GE485 := uH hg HB; replace HB := uS HB hb; obtain ⟨NB483_485, NB485_483, BK483⟩ := uA hg hb BK483; clear hb hbox hg; obtain ⟨hnb21, hnc21⟩ := nk NB485_483; have hcz22_0 := bc (.int .i64 0) BK485 0; have hcz22_1 := bc (.int .i64 0) BK485 1; have hcz22_2 := bc (.bool false) BK485 2; have hfz22_0 := blk_frozen BK485.out 0; have hfz22_1 := blk_frozen BK485.out 1; have hfz22_2 := blk_frozen BK485.out 2) | ((with_reducible refine gate_store (t := 74) (p := 6) rfl ?_); refine store_event (t := 74) (p := 6) (v := ?vo_w23) (w1 := (((w20.setCell ⟨gb485, 0, none⟩ (.int .i64 ((rd_T74 l0_0 x1_1).f0))).setCell ⟨gb485, 1, none⟩ (.int .i64 ((rd_T74 l0_0 x1_1).f1))).setCell ⟨gb485, 2, none⟩ (.bool ((rd_T74 l0_0 x1_1).f2)))) ?hg ?ho ?hn ?hr ?_; (case ho => rfl); (case hg => rfl); (case hn => rfl); (case hr => exact ax20); intro w23 hw; have n0_ : Aside0 (w23.heap[gb483]? = some (.cells #[.slice (some ad484) l0_0.length c0_0] 26 (0, 0))) := ⟨(by rw [hw]; exact (by (with_reducible repeat (first | refine blk_drewN ?_ _ | refine blk_drew ?_ | refine blk_alloc ?_ _)); refine blk_far ?_ NB483_485.out _; (with_reducible repeat (first | refine blk_drewN ?_ _ | refine blk_drew ?_ | refine blk_alloc ?_ _)); refine blk_far ?_ NB483_485.out _; (with_reducible repeat (first | refine blk_drewN ?_ _ | refine blk_drew ?_ | refine blk_alloc ?_ _)); refine blk_far ?_ NB483_485.out _; (with_reducible repeat (first | refine blk_drewN ?_ _ | refine blk_drew ?_ | refine blk_alloc ?_ _)); exact BK483.out))⟩; have n1_ : Aside0 (w23.heap[gb485]? = some (.cells #[.int .i64 ((rd_T74 l0_0 x1_1).f0), .int .i64 ((rd_T74 l0_0 x1_1).f1), .bool ((rd_T74 l0_0 x1_1).f2)] 74 (0, 0))) := ⟨ax113⟩; have n2_ : Aside0 (Below w.heap.size w w23) := ⟨(by rw [hw]; exact (by repeat (first | (with_reducible first | exact HB.out | apply below_alloc | apply pw_below_drewN | apply below_drew1 | refine below_set ?_ GE483.out | refine below_set ?_ GE485.out) | exact HB.out)))⟩; clear hw; clear BK483; clear BK485; clear HB; have BK483 := n0_; have BK485 := n1_; have HB := n2_; clear n0_ n1_ n2_; have hcz24_0 := bc (.int .i64 ((rd_T74 l0_0 x1_1).f0)) BK485 0; have hcz24_1 := bc (.int .i64 ((rd_T74 l0_0 x1_1).f1)) BK485 1; have hcz24_2 := bc (.bool ((rd_T74 l0_0 x1_1).f2)) BK485 2; have hfz24_0 := blk_frozen BK485.out 0; have hfz24_1 := blk_frozen BK485.out 1; have hfz24_2 := blk_frozen BK485.out 2) | ((with_reducible refine gd 21 132 ?_); refine gc 21 Tryz.func132 #[.int .i64 ((rd_T74 l0_0 x1_1).f0), .int .i64 0, .int .i64 25] (spec_l1In.calls ((rd_T74 l0_0 x1_1).f0) 0 25 true _ A9.out) ?_; rintro e w' ⟨rfl, ⟨nd, rfl⟩⟩; refine ⟨_, rfl, ?_⟩) | ((with_reducible refine gt 33 ?_); (try (refine gate_guard (by rfl) ?_; dsimp only)); refine Kd.R_lit (Kd.int .u8) _ 5 ?hg (N := 33) ?hd (xs := ([(wrap64 (97 + ((rd_T74 l0_0 x1_1).f0))) % 256] : List Int)) (inner := [.int .u8 ((wrap64 (97 + ((rd_T74 l0_0 x1_1).f0))) % 256)]) (ok := fun _ => True) (okp := fun _ => True) ?hr ?hp (fun _ hk => hk) trivial (Below.refl _ _) (Nat.le_refl _) (by simp) ?_; (case hd => rfl); (case hg => rfl); (case hr => exact ax20); (case hp => exact (Reps.one (show Kd.M (Kd.int .u8) _ _ _ ((wrap64 (97 + ((rd_T74 l0_0 x1_1).f0))) % 256) [.int .u8 ((wrap64 (97 + ((rd_T74 l0_0 x1_1).f0))) % 256)] from rfl) (Reps.none _ _))); intro v488 w25 ho26 hb hg_ hnew_; clear hg_ hnew_; (first | rw [← Ny487.out] at ho26 | (simp only [Int.reduceToNat] at ho26; rw [← Ny487.out] at ho26)); have HO489 := am (Kd.R_lower ho26 (bS HB)); replace BK483 := ub BK483 hb; replace BK485 := ub BK485 hb; replace HB := uS HB hb; clear hb ho26; have hcv27 := own_string (P := Tryz.prog) Tryz.underlying22 Tryz.underlying5 Tryz.underlying9 (Kd.own_of_R HO489.out); have hcz28_0 := bc (.int .i64 ((rd_T74 l0_0 x1_1).f0)) BK485 0; have hcz28_1 := bc (.int .i64 ((rd_T74 l0_0 x1_1).f1)) BK485 1; have hcz28_2 := bc (.bool ((rd_T74 l0_0 x1_1).f2)) BK485 2; have hfz28_0 := blk_frozen BK485.out 0; have hfz28_1 := blk_frozen BK485.out 1; have hfz28_2 := blk_frozen BK485.out 2))
           go_roundg kj3
           case measure => have := HK1.out; have := HJ3.out; omega
           case rel => exact ⟨((rd_T74 l0_0 x1_1).f1), (js18), ax18, ax115, H', ⟨(by have := HK1.out; have := HJ3.out; omega)⟩, ⟨aU⟩, ⟨aL⟩⟩
          ·rw [if_neg c17] at H
           exact absurd H (by simp)
        ·replace c10 := Bool.eq_false_iff.mpr c10
         subst c10; rw [if_neg (show ¬ (false = true) by decide)] at H; obtain rfl := Option.some.inj H; obtain ⟨hcz29_0, hfz29_0⟩ := bz (.slice A0_0 l0_0.length c0_0) BK483; have p484 : 0 ≤ (x1_1 : Int) := of_decide_eq_true ax23; have q484 : x1_1 < (l0_0.length : Int) := of_decide_eq_true ax23; obtain ⟨ad484, e484, hx484_0, hx484_1, hx484_2⟩ := at_T74 HR0_0.out x1_1 p484 q484
         cases e484
         replace hx484_0 := uC HB hx484_0; replace hx484_1 := uC HB hx484_1; replace hx484_2 := uC HB hx484_2; replace p484 := eq_true p484; replace q484 := eq_true q484
         go_wp2_with (first | ((with_reducible refine gt 6 ?_); (try (refine gate_guard (by rfl) ?_; dsimp only)); refine bx 6 #[.int .i64 0, .int .i64 0, .bool false] 74 ?_; intro gb485 hg w30 hbox hb; have BK485 := am (hbox); have GW485 := uG hg HB; have GE485 := uG hg HB; replace HB := uB HB hb; clear hb hbox hg; have hcz31_0 := bc (.int .i64 0) BK485 0; have hcz31_1 := bc (.int .i64 0) BK485 1; have hcz31_2 := bc (.bool false) BK485 2; have hfz31_0 := blk_frozen BK485.out 0; have hfz31_1 := blk_frozen BK485.out 1; have hfz31_2 := blk_frozen BK485.out 2) | ((with_reducible refine gate_store (t := 74) (p := 6) rfl ?_); refine store_event (t := 74) (p := 6) (v := ?vo_w32) (w1 := (((w30.setCell ⟨gb485, 0, none⟩ (.int .i64 ((rd_T74 l0_0 x1_1).f0))).setCell ⟨gb485, 1, none⟩ (.int .i64 ((rd_T74 l0_0 x1_1).f1))).setCell ⟨gb485, 2, none⟩ (.bool ((rd_T74 l0_0 x1_1).f2)))) ?hg ?ho ?hn ?hr ?_; (case ho => rfl); (case hg => rfl); (case hn => rfl); (case hr => exact ax20); intro w32 hw; have n0_ : Aside0 (w32.heap[gb485]? = some (.cells #[.int .i64 ((rd_T74 l0_0 x1_1).f0), .int .i64 ((rd_T74 l0_0 x1_1).f1), .bool ((rd_T74 l0_0 x1_1).f2)] 74 (0, 0))) := ⟨ax113⟩; have n1_ : Aside0 (Below w.heap.size w w32) := ⟨ax114⟩; clear hw; clear BK485; clear HB; have BK485 := n0_; have HB := n1_; clear n0_ n1_; have hcz33_0 := bc (.int .i64 ((rd_T74 l0_0 x1_1).f0)) BK485 0; have hcz33_1 := bc (.int .i64 ((rd_T74 l0_0 x1_1).f1)) BK485 1; have hcz33_2 := bc (.bool ((rd_T74 l0_0 x1_1).f2)) BK485 2; have hfz33_0 := blk_frozen BK485.out 0; have hfz33_1 := blk_frozen BK485.out 1; have hfz33_2 := blk_frozen BK485.out 2) | ((with_reducible refine gd 21 132 ?_); refine gc 21 Tryz.func132 #[.int .i64 ((rd_T74 l0_0 x1_1).f0), .int .i64 0, .int .i64 25] (spec_l1In.calls ((rd_T74 l0_0 x1_1).f0) 0 25 false _ A9.out) ?_; rintro e w' ⟨rfl, ⟨nd, rfl⟩⟩; refine ⟨_, rfl, ?_⟩))
         go_ret
         exact ⟨ax21, aL⟩
       ·rw [if_neg c8] at H
        exact absurd H (by simp)
      ·exact ax7
     ·replace c6 := Bool.eq_false_iff.mpr c6
      subst c6; rw [if_neg (show ¬ (false = true) by decide)] at H
      by_cases c34 : x1_1 = 0
      ·rw [if_pos c34] at H
       have c34b0 := beq_iff_eq.mpr c34; have c34b1 := bne_eq_false_iff_eq.mpr c34; clear c34; obtain rfl := Option.some.inj H
       go_wp2
       go_ret
       exact ⟨ax21, aL⟩
      ·rw [if_neg c34] at H
       have c34b0 := beq_eq_false_iff_ne.mpr c34; have c34b1 := bne_iff_ne.mpr c34; obtain rfl := Option.some.inj H
       go_wp2
       go_ret
       exact ⟨ax21, aL⟩

/-! ### spec_l2Words: function 115 -/
def spec_l2Words.l0 : Nat → List ByteArray → Int → List (S74) → Option (List ByteArray)
 | 0, _, _, _ => none
 | k + 1, x3, x4, x491000 => if x4 < (x491000.length : Int) then (if 0 ≤ x4 then (if (rd_T74 x491000 x4).f2 = true then ((spec_l2Prefix.f k x491000 x4).bind fun t495 => (if x3.length < 8796093022208 then (spec_l2Words.l0 k (x3 ++ [t495]) (wrap64 (x4 + 1)) x491000) else (none))) else (spec_l2Words.l0 k x3 (wrap64 (x4 + 1)) x491000)) else (none)) else (some x3)
def spec_l2Words.f (k : Nat) (l0_0 : List (S74)) : Option (List ByteArray) := spec_l2Words.l0 k (([] : List ByteArray)) 0 l0_0
theorem spec_l2Words.calls (k : Nat) (A0_0 : Option Addr) (c0_0 : Nat) (l0_0 : List (S74)) (r : List ByteArray) (w : World) (hr0_0 : Kd.C k74 w A0_0 l0_0.length l0_0) (hc0_0 : l0_0.length ≤ c0_0) (h : spec_l2Words.f k l0_0 = some r) :
  Calls Tryz.prog 115 #[.agg #[.slice A0_0 l0_0.length c0_0]] w fun e w' => ∃ v0_ : Value, e = .returned (v0_) ∧ Kd.R Kd.string 9 w' w.heap.size (fun _ => True) v0_ r ∧ Below w.heap.size w w' := by
 have hu26 := Tryz.underlying26; have HR0_0 := am hr0_0; have HC0_0 := am hc0_0; clear hr0_0 hc0_0; have HB := am (Below.refl w.heap.size w)
 unfold spec_l2Words.f at h
 have H := h; clear h; obtain ⟨y491, hy491⟩ : ∃ y_ : List ByteArray, y_ = (([] : List ByteArray)) := ⟨_, rfl⟩
 replace H : (spec_l2Words.l0 k y491 0 l0_0) = some r := by first | (rw [hy491]; with_reducible exact H) | (have H2_ := (Option.bind_some _ _).symm.trans H; rw [hy491]; with_reducible exact H2_) | (have H2_ := (Option.bind_some _ _).symm.trans H; with_reducible exact H2_) | with_reducible exact H | (rw [hy491]; exact H) | exact H
 have Ny491 := am hy491; clear hy491; have H' := am H; clear H
 go_enter Tryz.func115, Tryz.ntmps115
 go_wp2_with (first | ((with_reducible refine gt 1 ?_); refine bx 1 #[.slice A0_0 l0_0.length c0_0] 26 ?_; intro gb490 hg w2 hbox hb; have BK490 := am (hbox); have GW490 := uG hg HB; have GE490 := uG hg HB; replace HB := uB HB hb; clear hb hbox hg) | ((with_reducible refine gt 5 ?_); refine Kd.R_lit Kd.string _ 9 ?hg (N := 5) ?hd (xs := ([] : List ByteArray)) (inner := []) (ok := fun _ => True) (okp := fun _ => True) ?hr ?hp (fun _ hk => hk) trivial (Below.refl _ _) (Nat.le_refl _) (by simp) ?_; (case hd => rfl); (case hg => rfl); (case hr => exact ax20); (case hp => exact ax31); intro v492 w3 ho4 hb hg_ hnew_; clear hg_ hnew_; (first | rw [← Ny491.out] at ho4 | (simp only [Int.reduceToNat] at ho4; rw [← Ny491.out] at ho4)); have HO493 := am (Kd.R_lower ho4 (bS HB)); replace BK490 := ub BK490 hb; replace HB := uS HB hb; clear hb ho4))
 go_loopg [3, 4] k (fun kq v3 v4 w' => ∃ (x3_1 : List ByteArray) (x4_1 : Int), v4 = .int .i64 x4_1 ∧ Aside0 (spec_l2Words.l0 kq x3_1 x4_1 l0_0 = some r) ∧ Aside0 (kq ≤ k) ∧ Aside0 (Kd.R Kd.string 9 w' w.heap.size (fun _ => True) v3 x3_1) ∧ Aside0 (w'.heap[gb490]? = some (.cells #[(.slice A0_0 l0_0.length c0_0)] 26 (0, 0))) ∧ Aside0 (Below w.heap.size w w'))
 case atStart => exact ⟨(y491), (0), ax18, H', ⟨Nat.le_refl _⟩, ⟨aU⟩, ⟨aU⟩, ⟨aL⟩⟩
 case round =>
  clear H'; obtain ⟨x3_1, x4_1, rfl, HA, HK1, HO_3, BK490, HB⟩ := hrel
  cases gk with
  | zero => exact absurd HA.out (by simp [spec_l2Words.l0])
  | succ k1 =>
   have H := HA.out; clear HA; simp only [spec_l2Words.l0] at H
   by_cases c5 : x4_1 < (l0_0.length : Int)
   ·rw [if_pos c5] at H
    have c5b0 := decide_eq_true c5; clear c5
    by_cases c6 : 0 ≤ x4_1
    ·rw [if_pos c6] at H
     have c6b0 := decide_eq_true c6; clear c6; obtain ⟨bq7, hbq7⟩ : ∃ b_ : Bool, b_ = ((rd_T74 l0_0 x4_1).f2) := ⟨_, rfl⟩
     replace H : (if bq7 = true then ((spec_l2Prefix.f k1 l0_0 x4_1).bind fun t495 => (if x3_1.length < 8796093022208 then (spec_l2Words.l0 k1 (x3_1 ++ [t495]) (wrap64 (x4_1 + 1)) l0_0) else (none))) else (spec_l2Words.l0 k1 x3_1 (wrap64 (x4_1 + 1)) l0_0)) = some r := by rw [← hbq7] at H; exact H
     have Nbq7 := am hbq7; clear hbq7
     by_cases c8 : bq7 = true
     ·subst c8
      rw [if_pos rfl] at H; obtain ⟨t495, A9, H⟩ := bs H
      by_cases c10 : x3_1.length < 8796093022208
      ·rw [if_pos c10] at H
       have LMc10 := am c10; clear c10; obtain ⟨y496, hy496⟩ : ∃ y_ : List ByteArray, y_ = (x3_1 ++ [t495]) := ⟨_, rfl⟩
       replace H : (spec_l2Words.l0 k1 y496 (wrap64 (x4_1 + 1)) l0_0) = some r := by first | (rw [hy496]; with_reducible exact H) | (have H2_ := (Option.bind_some _ _).symm.trans H; rw [hy496]; with_reducible exact H2_) | (have H2_ := (Option.bind_some _ _).symm.trans H; with_reducible exact H2_) | with_reducible exact H | (rw [hy496]; exact H) | exact H
       have Ny496 := am hy496; clear hy496; have H' := am H; clear H; obtain ⟨hcz11_0, hfz11_0⟩ := bz (.slice A0_0 l0_0.length c0_0) BK490; have p494 : 0 ≤ (x4_1 : Int) := of_decide_eq_true ax23; have q494 : x4_1 < (l0_0.length : Int) := of_decide_eq_true ax23; obtain ⟨ad494, e494, hx494_0, hx494_1, hx494_2⟩ := at_T74 HR0_0.out x4_1 p494 q494; (try rw [← Nbq7.out] at hx494_2)
       cases e494
       replace hx494_0 := uC HB hx494_0; replace hx494_1 := uC HB hx494_1; replace hx494_2 := uC HB hx494_2; replace p494 := eq_true p494; replace q494 := eq_true q494
       go_wp2_with (first | ((with_reducible refine gd 22 165 ?_); refine gc 22 Tryz.func165 #[.agg #[.slice (some ad494) l0_0.length c0_0], .int .i64 x4_1] (spec_l2Prefix.calls k1 _ _ l0_0 x4_1 t495 _ ax30 (HC0_0.out) A9.out) ?_; rintro e w12 ⟨rfl, hb⟩; refine ⟨_, rfl, ?_⟩; replace HO_3 := uR HO_3 hb; replace BK490 := ub BK490 hb; replace HB := uS HB hb; (try clear hb)) | ((with_reducible refine gate_builtin (b := .append) (xs := #[.tmp 19, .tmp 23]) rfl ?_); at_builtin; refine Kd.R_append Kd.string (w0 := w) w.heap.size rfl (.tmp 19) (.tmp 23) 31 9 (.string ⟨#[]⟩) 16 rfl Tryz.underlying31 info9 rfl (by decide) (by omega) u3 x3_1 t495 [.string t495] (fun _ => True) (fun _ => False) rfl rfl ?aP (fun _ hk => hk.elim) ?aF ?aO ?aB ?aS ?aL ?_; (case aP => exact rfl); (case aB => exact aL); (case aF => exact ax27); (case aO => exact (rX HO_3)); (case aS => exact ax28); (case aL => have := LMc10.out; omega); intro v497 w13 ho hb hg hat; rw [← Ny496.out] at ho; have n0_ := am (blk_grown (g := gb490) (o := .cells #[.slice (some ad494) l0_0.length c0_0] 26 (0, 0)) aU hg (Kd.R_ne HO_3.out BK490.out (by decide))); have n1_ := am (hb); have n2_ := am (ho); clear BK490; clear HB; clear HO_3; have BK490 := n0_; have HB := n1_; have HO498 := n2_; clear n0_ n1_ n2_; clear ho hb hg hat))
       go_roundg k1
       case measure => have := HK1.out; omega
       case rel => exact ⟨(y496), (wrap64 (x4_1 + 1)), ax18, H', ⟨by have := HK1.out; omega⟩, ⟨aU⟩, ⟨aU⟩, ⟨aL⟩⟩
      ·exact ax4
     ·replace c8 := Bool.eq_false_iff.mpr c8
      subst c8; rw [if_neg (show ¬ (false = true) by decide)] at H; have H' := am H; clear H; obtain ⟨hcz14_0, hfz14_0⟩ := bz (.slice A0_0 l0_0.length c0_0) BK490; have p494 : 0 ≤ (x4_1 : Int) := of_decide_eq_true ax23; have q494 : x4_1 < (l0_0.length : Int) := of_decide_eq_true ax23; obtain ⟨ad494, e494, hx494_0, hx494_1, hx494_2⟩ := at_T74 HR0_0.out x4_1 p494 q494; (try rw [← Nbq7.out] at hx494_2)
      cases e494
      replace hx494_0 := uC HB hx494_0; replace hx494_1 := uC HB hx494_1; replace hx494_2 := uC HB hx494_2; replace p494 := eq_true p494; replace q494 := eq_true q494
      go_wp2
      go_roundg k1
      case measure => have := HK1.out; omega
      case rel => exact ⟨(x3_1), (wrap64 (x4_1 + 1)), ax18, H', ⟨by have := HK1.out; omega⟩, ⟨aU⟩, ⟨aU⟩, ⟨aL⟩⟩
    ·exact ax5
   ·rw [if_neg c5] at H
    have c5b0 := decide_eq_false c5; clear c5; obtain rfl := Option.some.inj H; obtain ⟨hcz15_0, hfz15_0⟩ := bz (.slice A0_0 l0_0.length c0_0) BK490
    go_wp2
    go_ret
    exact ⟨_, ax21, aU, aL⟩

end Go.Proofs.YtcplbbflfgckbaaGreatDoor.X
namespace Go.Proofs.YtcplbbflfgckbaaGreatDoor.X
open Go.RowKit Go.Proofs.YtcplbbflfgckbaaGreatDoorW.PrintWords Go.Proofs.YtcplbbflfgckbaaGreatDoorW.PrintLast Go.Proofs.YtcplbbflfgckbaaGreatDoorW.PrintMore
attribute [local go_sem] max2_int min2_int max_two min_two max_three min_three max_four min_four   -- for this text's walks alone
set_option linter.unusedVariables false
set_option linter.unusedSimpArgs false
set_option maxHeartbeats 8000000
set_option maxRecDepth 100000

attribute [local go_sem high] eqA74
/-! ### spec_l2Same: function 193 -/
mutual
def spec_l2Same.l0 : Nat → Int → List (S74) → List (S74) → Option (Bool)
 | 0, _, _, _ => none
 | k + 1, x5, x500000, x501000 => if x5 < (x500000.length : Int) then (spec_l2Same.j1 k x5 (decide (x5 < (x501000.length : Int))) x500000 x501000) else (spec_l2Same.j1 k x5 false x500000 x501000)
def spec_l2Same.j1 : Nat → Int → Bool → List (S74) → List (S74) → Option (Bool)
 | 0, _, _, _, _ => none
 | k + 1, x5, x17, x500000, x501000 => if x17 = true then (if 0 ≤ x5 then (if x5 < (x500000.length : Int) then (if x5 < (x501000.length : Int) then (if (!(((rd_T74 x500000 x5).f0) == ((rd_T74 x501000 x5).f0)) || (!(((rd_T74 x500000 x5).f1) == ((rd_T74 x501000 x5).f1)) || (!(((rd_T74 x500000 x5).f2) == ((rd_T74 x501000 x5).f2))))) = true then (some false) else (spec_l2Same.l0 k (wrap64 (x5 + 1)) x500000 x501000)) else (none)) else (none)) else (none)) else (some ((x500000.length : Int) == (x501000.length : Int)))
end
def spec_l2Same.f (k : Nat) (l0_0 : List (S74)) (l1_0 : List (S74)) : Option (Bool) := spec_l2Same.l0 k 0 l0_0 l1_0
theorem spec_l2Same.calls (k : Nat) (A0_0 : Option Addr) (c0_0 : Nat) (l0_0 : List (S74)) (A1_0 : Option Addr) (c1_0 : Nat) (l1_0 : List (S74)) (r : Bool) (w : World) (hr0_0 : Kd.C k74 w A0_0 l0_0.length l0_0) (hc0_0 : l0_0.length ≤ c0_0) (hr1_0 : Kd.C k74 w A1_0 l1_0.length l1_0) (hc1_0 : l1_0.length ≤ c1_0) (h : spec_l2Same.f k l0_0 l1_0 = some r) :
  Calls Tryz.prog 193 #[.agg #[.slice A0_0 l0_0.length c0_0], .agg #[.slice A1_0 l1_0.length c1_0]] w fun e w' => e = .returned (.bool r) ∧ Below w.heap.size w w' := by
 have hu26 := Tryz.underlying26; have hu74 := Tryz.underlying74; have HR0_0 := am hr0_0; have HC0_0 := am hc0_0; clear hr0_0 hc0_0; have HR1_0 := am hr1_0; have HC1_0 := am hc1_0; clear hr1_0 hc1_0; have HB := am (Below.refl w.heap.size w)
 unfold spec_l2Same.f at h
 have H := h; clear h; have H' := am H; clear H
 go_enter Tryz.func193, Tryz.ntmps193
 go_wp2_with (first | ((with_reducible refine gt 2 ?_); (try (refine gate_guard (by rfl) ?_; dsimp only)); refine bx 2 #[.slice A0_0 l0_0.length c0_0] 26 ?_; intro gb499 hg w3 hbox hb; have BK499 := am (hbox); have GW499 := uG hg HB; have GE499 := uG hg HB; replace HB := uB HB hb; clear hb hbox hg) | ((with_reducible refine gt 3 ?_); (try (refine gate_guard (by rfl) ?_; dsimp only)); refine bx 3 #[.slice A1_0 l1_0.length c1_0] 26 ?_; intro gb500 hg w4 hbox hb; have BK500 := am (hbox); have GW500 := uH hg HB; have GE500 := uH hg HB; replace HB := uS HB hb; obtain ⟨NB499_500, NB500_499, BK499⟩ := uA hg hb BK499; clear hb hbox hg))
 repeat (go_quiet (fail); try go_wp2_with (first | ((with_reducible refine gt 2 ?_); (try (refine gate_guard (by rfl) ?_; dsimp only)); refine bx 2 #[.slice A0_0 l0_0.length c0_0] 26 ?_; intro gb499 hg w3 hbox hb; have n0_ := uS HB hb; have n1_ := am (hbox); have n2_ := uH hg HB; have n3_ := uH hg HB; clear HB; have HB := n0_; have BK499 := n1_; have GW499 := n2_; have GE499 := n3_; clear n0_ n1_ n2_ n3_; clear hb hbox hg) | ((with_reducible refine gt 3 ?_); (try (refine gate_guard (by rfl) ?_; dsimp only)); refine bx 3 #[.slice A1_0 l1_0.length c1_0] 26 ?_; intro gb500 hg w4 hbox hb; have n0_ := uZ BK499 hb; have n1_ := uS HB hb; have n2_ := am (hbox); have n3_ := uH hg HB; have n4_ := uH hg HB; have n5_ := am ((by rw [hg]; exact Nat.ne_of_lt (blk_lt (g := gb499) (o := .cells #[.slice A0_0 l0_0.length c0_0] 26 (0, 0)) aU) : gb499 ≠ gb500)); have n6_ := am ((by rw [hg]; exact Nat.ne_of_gt (blk_lt (g := gb499) (o := .cells #[.slice A0_0 l0_0.length c0_0] 26 (0, 0)) aU) : gb500 ≠ gb499)); clear BK499; clear HB; have BK499 := n0_; have HB := n1_; have BK500 := n2_; have GW500 := n3_; have GE500 := n4_; have NB499_500 := n5_; have NB500_499 := n6_; clear n0_ n1_ n2_ n3_ n4_ n5_ n6_; clear hb hbox hg)))
 go_loopg [5] k (fun kq v5 w' => ∃ (x5_1 : Int), v5 = .int .i64 x5_1 ∧ Aside0 (spec_l2Same.l0 kq x5_1 l0_0 l1_0 = some r) ∧ Aside0 (kq ≤ k) ∧ Aside0 (w'.heap[gb499]? = some (.cells #[(.slice A0_0 l0_0.length c0_0)] 26 (0, 0))) ∧ Aside0 (w'.heap[gb500]? = some (.cells #[(.slice A1_0 l1_0.length c1_0)] 26 (0, 0))) ∧ Aside0 (Below w.heap.size w w'))
 case atStart => exact ⟨(0), ax18, H', ⟨Nat.le_refl _⟩, ⟨aU⟩, ⟨aU⟩, ⟨aL⟩⟩
 case round =>
  clear H'; obtain ⟨x5_1, rfl, HA, HK1, BK499, BK500, HB⟩ := hrel
  cases gk with
  | zero => exact absurd HA.out (by simp [spec_l2Same.l0])
  | succ k1 =>
   have H := HA.out; clear HA; simp only [spec_l2Same.l0] at H; have HC5 := am H; clear H
   go_upto_region 2 with (fail)
   repeat (go_quiet (fail); go_upto_region 2 with (fail))
   go_cut [17] (fun v17 wc => ∃ (kq : Nat) (x17_4 : Bool), v17 = .bool x17_4 ∧ Aside0 (spec_l2Same.j1 kq x5_1 x17_4 l0_0 l1_0 = some r) ∧ Aside0 (kq ≤ k1) ∧ Aside0 (wc.heap[gb499]? = some (.cells #[(.slice A0_0 l0_0.length c0_0)] 26 (0, 0))) ∧ Aside0 (wc.heap[gb500]? = some (.cells #[(.slice A1_0 l1_0.length c1_0)] 26 (0, 0))) ∧ Aside0 (Below w.heap.size w wc))
   case first =>
    have H := HC5.out; clear HC5
    by_cases c6 : x5_1 < (l0_0.length : Int)
    ·rw [if_pos c6] at H
     have c6b0 := decide_eq_true c6; clear c6; (first | rw [c6b0] | (simp only [i64_w, i32_w]; rw [c6b0]) | skip); have H' := am H; clear H; obtain ⟨hnb7, hnc7⟩ := nk NB499_500; obtain ⟨hcz8_0, hfz8_0⟩ := bz (.slice A0_0 l0_0.length c0_0) BK499; obtain ⟨hcz9_0, hfz9_0⟩ := bz (.slice A1_0 l1_0.length c1_0) BK500
     go_wp2
     repeat (go_quiet (fail); try go_wp2)
     go_meet
     case rel => exact ⟨_, (decide (x5_1 < (l1_0.length : Int))), ax18, H', ⟨ax52⟩, ⟨aU⟩, ⟨aU⟩, ⟨aL⟩⟩
    ·rw [if_neg c6] at H
     have c6b0 := decide_eq_false c6; clear c6; (first | rw [c6b0] | (simp only [i64_w, i32_w]; rw [c6b0]) | skip); have H' := am H; clear H; obtain ⟨hnb10, hnc10⟩ := nk NB499_500; obtain ⟨hcz11_0, hfz11_0⟩ := bz (.slice A0_0 l0_0.length c0_0) BK499
     go_wp2
     repeat (go_quiet (fail); try go_wp2)
     go_meet
     case rel => exact ⟨_, (false), ax18, H', ⟨ax52⟩, ⟨aU⟩, ⟨aU⟩, ⟨aL⟩⟩
   case rest =>
    clear HC5; obtain ⟨kq, x17_4, rfl, HA, HJ4, BK499, BK500, HB⟩ := hcut
    cases kq with
    | zero => exact absurd HA.out (by simp [spec_l2Same.j1])
    | succ kj4 =>
     have H := HA.out; clear HA; simp only [spec_l2Same.j1] at H
     by_cases c12 : x17_4 = true
     ·subst c12
      rw [if_pos rfl] at H
      by_cases c13 : 0 ≤ x5_1
      ·rw [if_pos c13] at H
       have c13b0 := decide_eq_true c13; clear c13
       by_cases c14 : x5_1 < (l0_0.length : Int)
       ·rw [if_pos c14] at H
        have c14b0 := decide_eq_true c14; clear c14
        by_cases c15 : x5_1 < (l1_0.length : Int)
        ·rw [if_pos c15] at H
         have c15b0 := decide_eq_true c15; clear c15
         by_cases c16 : (!(((rd_T74 l0_0 x5_1).f0) == ((rd_T74 l1_0 x5_1).f0)) || (!(((rd_T74 l0_0 x5_1).f1) == ((rd_T74 l1_0 x5_1).f1)) || (!(((rd_T74 l0_0 x5_1).f2) == ((rd_T74 l1_0 x5_1).f2))))) = true
         ·rw [if_pos c16] at H
          have c16b0 : (!(((rd_T74 l0_0 x5_1).f0) == ((rd_T74 l1_0 x5_1).f0)) || (!(((rd_T74 l0_0 x5_1).f1) == ((rd_T74 l1_0 x5_1).f1)) || (!(((rd_T74 l0_0 x5_1).f2) == ((rd_T74 l1_0 x5_1).f2))))) = true := c16; clear c16; obtain rfl := Option.some.inj H; obtain ⟨hnb17, hnc17⟩ := nk NB499_500; obtain ⟨hcz18_0, hfz18_0⟩ := bz (.slice A0_0 l0_0.length c0_0) BK499; have p501 : 0 ≤ (x5_1 : Int) := of_decide_eq_true ax23; have q501 : x5_1 < (l0_0.length : Int) := of_decide_eq_true ax23; obtain ⟨ad501, e501, hx501_0, hx501_1, hx501_2⟩ := at_T74 HR0_0.out x5_1 p501 q501
          cases e501
          replace hx501_0 := uC HB hx501_0; replace hx501_1 := uC HB hx501_1; replace hx501_2 := uC HB hx501_2; replace p501 := eq_true p501; replace q501 := eq_true q501; obtain ⟨hcz19_0, hfz19_0⟩ := bz (.slice A1_0 l1_0.length c1_0) BK500; have p502 : 0 ≤ (x5_1 : Int) := of_decide_eq_true ax23; have q502 : x5_1 < (l1_0.length : Int) := of_decide_eq_true ax23; obtain ⟨ad502, e502, hx502_0, hx502_1, hx502_2⟩ := at_T74 HR1_0.out x5_1 p502 q502
          cases e502
          replace hx502_0 := uC HB hx502_0; replace hx502_1 := uC HB hx502_1; replace hx502_2 := uC HB hx502_2; replace p502 := eq_true p502; replace q502 := eq_true q502
          go_wp2
          repeat (go_quiet (fail); try go_wp2)
          go_ret
          exact ⟨ax21, aL⟩
         ·rw [if_neg c16] at H
          have c16b0 : (!(((rd_T74 l0_0 x5_1).f0) == ((rd_T74 l1_0 x5_1).f0)) || (!(((rd_T74 l0_0 x5_1).f1) == ((rd_T74 l1_0 x5_1).f1)) || (!(((rd_T74 l0_0 x5_1).f2) == ((rd_T74 l1_0 x5_1).f2))))) = false := by simpa using c16
          clear c16; have H' := am H; clear H; obtain ⟨hnb20, hnc20⟩ := nk NB499_500; obtain ⟨hcz21_0, hfz21_0⟩ := bz (.slice A0_0 l0_0.length c0_0) BK499; have p501 : 0 ≤ (x5_1 : Int) := of_decide_eq_true ax23; have q501 : x5_1 < (l0_0.length : Int) := of_decide_eq_true ax23; obtain ⟨ad501, e501, hx501_0, hx501_1, hx501_2⟩ := at_T74 HR0_0.out x5_1 p501 q501
          cases e501
          replace hx501_0 := uC HB hx501_0; replace hx501_1 := uC HB hx501_1; replace hx501_2 := uC HB hx501_2; replace p501 := eq_true p501; replace q501 := eq_true q501; obtain ⟨hcz22_0, hfz22_0⟩ := bz (.slice A1_0 l1_0.length c1_0) BK500; have p502 : 0 ≤ (x5_1 : Int) := of_decide_eq_true ax23; have q502 : x5_1 < (l1_0.length : Int) := of_decide_eq_true ax23; obtain ⟨ad502, e502, hx502_0, hx502_1, hx502_2⟩ := at_T74 HR1_0.out x5_1 p502 q502
          cases e502
          replace hx502_0 := uC HB hx502_0; replace hx502_1 := uC HB hx502_1; replace hx502_2 := uC HB hx502_2; replace p502 := eq_true p502; replace q502 := eq_true q502
          go_wp2
          repeat (go_quiet (fail); try go_wp2)
          go_roundg kj4
          case measure => have := HK1.out; have := HJ4.out; omega
          case rel => exact ⟨(wrap64 (x5_1 + 1)), ax18, H', ⟨(by have := HK1.out; have := HJ4.out; omega)⟩, ⟨aU⟩, ⟨aU⟩, ⟨aL⟩⟩
        ·rw [if_neg c15] at H
         exact absurd H (by simp)
       ·exact ax3
      ·rw [if_neg c13] at H
       exact absurd H (by simp)
     ·replace c12 := Bool.eq_false_iff.mpr c12
      subst c12; rw [if_neg (show ¬ (false = true) by decide)] at H; obtain rfl := Option.some.inj H; obtain ⟨hnb23, hnc23⟩ := nk NB499_500; obtain ⟨hcz24_0, hfz24_0⟩ := bz (.slice A0_0 l0_0.length c0_0) BK499; obtain ⟨hcz25_0, hfz25_0⟩ := bz (.slice A1_0 l1_0.length c1_0) BK500
      go_wp2
      repeat (go_quiet (fail); try go_wp2)
      go_ret
      exact ⟨ax21, aL⟩

/-! ### spec_l2Trie: function 113 -/
def spec_l2Trie.f (k : Nat) (l0_0 : List (S74)) : Option (Bool) := (spec_l1In.f (l0_0.length : Int) 1 481).bind fun t504 => (if t504 = true then ((spec_l2Words.f k l0_0).bind fun t505 => ((spec_l2Set.f k t505).bind fun bt508 => (if bt508.2 = true then ((spec_l2Of.f k bt508.1).bind fun t512 => ((spec_l2Same.f k t512 l0_0).bind fun t515 => (some t515))) else (some false)))) else (some false))
def spec_l2Trie.T4 : Bool × List (List Nat × List Nat) := (true, [([], []), ([0], [0]), ([1], [1]), ([2, 1, 1], [1, 2]), ([1], [1]), ([3, 4, 3, 1], [1, 3, 4]), ([1, 5], [1, 5]), ([6, 5, 0, 1, 2, 3, 4, 5, 6], [6])])
def spec_l2Trie.B4 : List Nat := [0, 1, 3, 7, 3, 31, 63, 127]
theorem spec_l2Trie.tab4 : rtab .any (opsOf Tryz.f113 4) = spec_l2Trie.T4 := by kernel_rfl
theorem spec_l2Trie.bits4 : waitsOk spec_l2Trie.T4.2 spec_l2Trie.B4 = true := by kernel_rfl
theorem spec_l2Trie.calls (k : Nat) (A0_0 : Option Addr) (c0_0 : Nat) (l0_0 : List (S74)) (r : Bool) (w : World) (hr0_0 : Kd.C k74 w A0_0 l0_0.length l0_0) (hc0_0 : l0_0.length ≤ c0_0) (h : spec_l2Trie.f k l0_0 = some r) :
  Calls Tryz.prog 113 #[.agg #[.slice A0_0 l0_0.length c0_0]] w fun e w' => e = .returned (.bool r) ∧ Below w.heap.size w w' := by
 have hu26 := Tryz.underlying26; have HR0_0 := am hr0_0; have HC0_0 := am hc0_0; clear hr0_0 hc0_0; have HB := am (Below.refl w.heap.size w)
 unfold spec_l2Trie.f at h
 have H := h; clear h; obtain ⟨t504, A2, H⟩ := bs H
 by_cases c3 : t504 = true
 ·subst c3
  rw [if_pos rfl] at H; obtain ⟨t505, A4, H⟩ := bs H; obtain ⟨⟨t508, t511⟩, A5, H⟩ := bs H
  by_cases c6 : t511 = true
  ·subst c6
   rw [if_pos rfl] at H; obtain ⟨t512, A7, H⟩ := bs H; obtain ⟨t515, A8, H⟩ := bs H; obtain rfl := Option.some.inj H
   go_enter Tryz.func113, Tryz.ntmps113
   try go_wp2_with (first | ((with_reducible refine gt 1 ?_); refine bx 1 #[.slice A0_0 l0_0.length c0_0] 26 ?_; intro gb503 hg w9 hbox hb; have BK503 := am (hbox); have GW503 := uG hg HB; have GE503 := uG hg HB; replace HB := uB HB hb; clear hb hbox hg; obtain ⟨hcz10_0, hfz10_0⟩ := bz (.slice A0_0 l0_0.length c0_0) BK503) | ((with_reducible refine gd 8 132 ?_); refine gc 8 Tryz.func132 #[.int .i64 (l0_0.length : Int), .int .i64 1, .int .i64 481] (spec_l1In.calls (l0_0.length : Int) 1 481 true _ A2.out) ?_; rintro e w' ⟨rfl, ⟨nd, rfl⟩⟩; refine ⟨_, rfl, ?_⟩) | ((with_reducible refine gd 12 115 ?_); refine gc 12 Tryz.func115 #[.agg #[.slice A0_0 l0_0.length c0_0]] (spec_l2Words.calls k _ _ l0_0 t505 _ (by repeat (first | exact (Kd.C_below HR0_0.out (by repeat (first | (with_reducible first | exact HB.out | apply below_alloc | apply pw_below_drewN | apply below_drew1 | refine below_set ?_ GE503.out) | exact HB.out))) | (with_reducible refine Kd.C_alloc ?_ _) | (with_reducible refine Kd.C_drewN ?_ _) | (with_reducible refine Kd.C_drew ?_))) (HC0_0.out) A4.out) ?_; rintro e w11 ⟨v506, rfl, ho0, hb⟩; refine ⟨_, rfl, ?_⟩; have HO507 := am (Kd.R_lower ho0 (bS HB)); replace BK503 := ub BK503 hb; replace HB := uS HB hb; (try clear hb ho0); obtain ⟨Ao12, co12, rfl⟩ := Kd.R_slice HO507.out) | ((with_reducible refine gd 13 144 ?_); refine gc 13 Tryz.func144 #[.slice Ao12 t505.length co12] (spec_l2Set.calls k _ _ t505 t508 true _ (rd2 HO507) (rl HO507) A5.out) ?_; rintro e w13 ⟨v509, rfl, ho0, hb⟩; refine ⟨_, rfl, ?_⟩; have HO510 := am (Kd.V_lower (Kd.V_mono (ok' := fun k_ => some k_ ≠ (.slice Ao12 t505.length co12 : Value).ownBlock ∧ k_ ≠ gb503) ho0 (fun k_ hk_ => ⟨(Kd.fresh' (Kd.R_lt (rX HO507)) k_ hk_), (Kd.freshB (g := gb503) (o := .cells #[.slice A0_0 l0_0.length c0_0] 26 (0, 0)) aU k_ hk_)⟩)) (bS HB)); replace HO507 := uR HO507 hb; replace BK503 := ub BK503 hb; replace HB := uS HB hb; (try clear hb ho0)))
   replace HO507 := am (Kd.R_drew HO507.out); replace HO510 := am (Kd.V_drew HO510.out); replace BK503 := am (blk_drew BK503.out); replace HB := am (below_drew1 HB.out); obtain ⟨Ao15, co15, eo15⟩ := Kd.V_slice HO510.out; (first | subst eo15 | (injection eo15 with f1_ f2_ f3_; have f4_ := f1_.symm; have f5_ := f3_.symm; clear f1_ f2_ f3_; subst f4_; subst f5_)); refine start_ (n := 8) (S := fun w' => w'.cell? ⟨gb503, 0, none⟩ = some (.slice A0_0 l0_0.length c0_0)) (ds := []) (ob 8 0) (by kernel_rfl) rfl rfl ((blk_cell BK503.out 0).trans rfl) (fun hHeld => ?_); refine with_tabW spec_l2Trie.tab4 spec_l2Trie.bits4 (fun HT_ HW_ => ?_); generalize w13.drew = w14 at HO507 HO510 BK503 HB hHeld ⊢; refine pu 0 16 ?_; refine pu 1 17 ?_; refine pu 2 18 ?_; refine take_ (i := 4) (N := some 20) (v := ?_) (a' := ?_) (ob 8 23) rfl rfl (take_ofW HT_.out HW_.out (by kernel_rfl)) (fun _ _ _ h => h) (Or.inl ⟨by rfl, ?_⟩) hHeld ?_ ?_
   rotate_left
   ·exact ax10
   rotate_left
   ·exact ax11
   refine one_ (i := 3) (N := some 19) (ob 8 31) rfl rfl (one_of HT_.out (by kernel_rfl)) (by decide) (fun K hK => ?_); refine goes_ Tryz.func123 (by kernel_rfl) rfl #[.slice Ao15 t508.length co15] (by rfl) rfl rfl ax26 ?_
   with_reducible refine (spec_l2Of.calls k _ _ t508 t512 _ ?side1 ?side2 A7.out).mono ?_
   (case side1 => repeat (first | exact (Kd.V_reads' HO510.out).2.2 | (with_reducible refine Kd.C_alloc ?_ _) | (with_reducible refine Kd.C_drewN ?_ _) | (with_reducible refine Kd.C_drew ?_)))
   (case side2 => exact (Kd.V_reads' HO510.out).2.1)
   rintro e w16 ⟨v513, rfl, ho0, hb⟩; refine ⟨_, rfl, ?_⟩; replace HO507 := uR HO507 hb; replace HO510 := am (Kd.V_elder' ax116 (Kd.R_base ho0) hb); have HO514 := am (Kd.R_lower ho0 (bS HB)); replace BK503 := ub BK503 hb; replace HB := uS HB hb; (try clear hb); (try clear hb2); (try clear hk); (try clear hi); (try clear ho0); obtain ⟨Ao17, co17, eo17⟩ := Kd.R_slice HO514.out; (first | subst eo17 | (injection eo17 with f1_ f2_ f3_; have f4_ := f1_.symm; have f5_ := f3_.symm; clear f1_ f2_ f3_; subst f4_; subst f5_)); refine hK.out _ _ ((blk_cell BK503.out 0).trans rfl) (fun hHeld => ?_); clear hK K; refine nm 19 ?_; refine one_ (i := 5) (N := some 21) (ob 8 63) rfl rfl (one_of HT_.out (by kernel_rfl)) (by decide) (fun K hK => ?_); refine goes_ Tryz.func193 (by kernel_rfl) rfl #[.agg #[.slice Ao17 t512.length co17], .agg #[.slice A0_0 l0_0.length c0_0]] (by rfl) rfl rfl ax26 ?_
   with_reducible refine (spec_l2Same.calls k _ _ t512 _ _ l0_0 t515 _ ?side1 ?side2 ?side3 ?side4 A8.out).mono ?_
   (case side1 => repeat (first | exact (Kd.R_reads' HO514.out).2.2 | (with_reducible refine Kd.C_alloc ?_ _) | (with_reducible refine Kd.C_drewN ?_ _) | (with_reducible refine Kd.C_drew ?_)))
   (case side2 => exact (Kd.R_reads' HO514.out).2.1)
   (case side3 => exact ax30)
   (case side4 => exact HC0_0.out)
   rintro e w18 ⟨rfl, hb⟩; refine ⟨_, rfl, ?_⟩; replace HO507 := uR HO507 hb; replace HO510 := am (Kd.V_below ax116 hb); replace HO514 := uR HO514 hb; replace BK503 := ub BK503 hb; replace HB := uS HB hb; (try clear hb); (try clear hb2); (try clear hk); (try clear hi); refine hK.out _ _ ((blk_cell BK503.out 0).trans rfl) (fun hHeld => ?_); clear hK K; refine nm 21 ?_; refine pu 6 22 ?_; refine pu 7 2 ?_; refine dn ?_
   try go_wp2
   go_ret
   exact ⟨ax21, aL⟩
  ·replace c6 := Bool.eq_false_iff.mpr c6
   subst c6; rw [if_neg (show ¬ (false = true) by decide)] at H; obtain rfl := Option.some.inj H
   go_enter Tryz.func113, Tryz.ntmps113
   try go_wp2_with (first | ((with_reducible refine gt 1 ?_); refine bx 1 #[.slice A0_0 l0_0.length c0_0] 26 ?_; intro gb503 hg w19 hbox hb; have BK503 := am (hbox); have GW503 := uG hg HB; have GE503 := uG hg HB; replace HB := uB HB hb; clear hb hbox hg; obtain ⟨hcz20_0, hfz20_0⟩ := bz (.slice A0_0 l0_0.length c0_0) BK503) | ((with_reducible refine gd 8 132 ?_); refine gc 8 Tryz.func132 #[.int .i64 (l0_0.length : Int), .int .i64 1, .int .i64 481] (spec_l1In.calls (l0_0.length : Int) 1 481 true _ A2.out) ?_; rintro e w' ⟨rfl, ⟨nd, rfl⟩⟩; refine ⟨_, rfl, ?_⟩) | ((with_reducible refine gd 12 115 ?_); refine gc 12 Tryz.func115 #[.agg #[.slice A0_0 l0_0.length c0_0]] (spec_l2Words.calls k _ _ l0_0 t505 _ (by repeat (first | exact (Kd.C_below HR0_0.out (by repeat (first | (with_reducible first | exact HB.out | apply below_alloc | apply pw_below_drewN | apply below_drew1) | exact HB.out))) | (with_reducible refine Kd.C_alloc ?_ _) | (with_reducible refine Kd.C_drewN ?_ _) | (with_reducible refine Kd.C_drew ?_))) (HC0_0.out) A4.out) ?_; rintro e w21 ⟨v506, rfl, ho0, hb⟩; refine ⟨_, rfl, ?_⟩; have HO507 := uL ho0 HB; replace HB := uB HB hb; (try clear hb ho0); obtain ⟨Ao22, co22, rfl⟩ := Kd.R_slice HO507.out) | ((with_reducible refine gd 13 144 ?_); refine gc 13 Tryz.func144 #[.slice Ao22 t505.length co22] (spec_l2Set.calls k _ _ t505 t508 false _ (rd2 HO507) (rl HO507) A5.out) ?_; rintro e w23 ⟨v509, rfl, ho0, hb⟩; refine ⟨_, rfl, ?_⟩; have HO510 := am (Kd.V_lower (Kd.V_mono (ok' := fun k_ => some k_ ≠ (.slice Ao22 t505.length co22 : Value).ownBlock) ho0 (fun k_ hk_ => (Kd.fresh' (Kd.R_lt (rX HO507)) k_ hk_))) (bS HB)); replace HO507 := uR HO507 hb; replace HB := uB HB hb; (try clear hb ho0)))
   replace HB := am (below_drew1 HB.out); refine start_ (n := 8) (S := fun w' => True) (ds := []) (ob 8 0) (by kernel_rfl) rfl rfl trivial (fun hHeld => ?_); refine with_tabW spec_l2Trie.tab4 spec_l2Trie.bits4 (fun HT_ HW_ => ?_); generalize w23.drew = w24 at HB hHeld ⊢; refine pu 0 16 ?_; refine pu 1 17 ?_; refine pu 2 18 ?_; refine pu 3 19 ?_; refine pu 4 20 ?_; refine pu 5 21 ?_; refine pu 6 22 ?_; refine pu 7 2 ?_; refine dn ?_
   try go_wp2
   go_ret
   exact ⟨ax21, aL⟩
 ·replace c3 := Bool.eq_false_iff.mpr c3
  subst c3; rw [if_neg (show ¬ (false = true) by decide)] at H; obtain rfl := Option.some.inj H
  go_enter Tryz.func113, Tryz.ntmps113
  go_wp2_with (first | ((with_reducible refine gt 1 ?_); refine bx 1 #[.slice A0_0 l0_0.length c0_0] 26 ?_; intro gb503 hg w25 hbox hb; have BK503 := am (hbox); have GW503 := uG hg HB; have GE503 := uG hg HB; replace HB := uB HB hb; clear hb hbox hg; obtain ⟨hcz26_0, hfz26_0⟩ := bz (.slice A0_0 l0_0.length c0_0) BK503) | ((with_reducible refine gd 8 132 ?_); refine gc 8 Tryz.func132 #[.int .i64 (l0_0.length : Int), .int .i64 1, .int .i64 481] (spec_l1In.calls (l0_0.length : Int) 1 481 false _ A2.out) ?_; rintro e w' ⟨rfl, ⟨nd, rfl⟩⟩; refine ⟨_, rfl, ?_⟩))
  go_ret
  exact ⟨ax21, aL⟩

/-! ### spec_WordsOf: function 52 -/
def spec_WordsOf.f (k : Nat) (l0_0 : List (S74)) : Option (List ByteArray × Bool) := (spec_l2Trie.f k l0_0).bind fun t517 => (if t517 = true then ((spec_l2Words.f k l0_0).bind fun t518 => (some (t518, true))) else (some ((([] : List ByteArray)), false)))
theorem spec_WordsOf.calls (k : Nat) (A0_0 : Option Addr) (c0_0 : Nat) (l0_0 : List (S74)) (r1 : List ByteArray) (r2 : Bool) (w : World) (hr0_0 : Kd.C k74 w A0_0 l0_0.length l0_0) (hc0_0 : l0_0.length ≤ c0_0) (h : spec_WordsOf.f k l0_0 = some (r1, r2)) :
  Calls Tryz.prog 52 #[.agg #[.slice A0_0 l0_0.length c0_0]] w fun e w' => ∃ v0_ : Value, e = .returned (.tuple #[v0_, .bool r2]) ∧ Kd.R Kd.string 9 w' w.heap.size (fun _ => True) v0_ r1 ∧ Below w.heap.size w w' := by
 have hu26 := Tryz.underlying26; have HR0_0 := am hr0_0; have HC0_0 := am hc0_0; clear hr0_0 hc0_0; have HB := am (Below.refl w.heap.size w)
 unfold spec_WordsOf.f at h
 have H := h; clear h; obtain ⟨t517, A2, H⟩ := bs H
 by_cases c3 : t517 = true
 ·subst c3
  rw [if_pos rfl] at H; obtain ⟨t518, A4, H⟩ := bs H; simp only [Option.some.injEq, Prod.mk.injEq] at H; obtain ⟨rfl, rfl⟩ := H
  go_enter Tryz.func52, Tryz.ntmps52
  go_wp2_with (first | ((with_reducible refine gt 1 ?_); refine bx 1 #[.slice A0_0 l0_0.length c0_0] 26 ?_; intro gb516 hg w5 hbox hb; have BK516 := am (hbox); have GW516 := uG hg HB; have GE516 := uG hg HB; replace HB := uB HB hb; clear hb hbox hg; obtain ⟨hcz6_0, hfz6_0⟩ := bz (.slice A0_0 l0_0.length c0_0) BK516) | ((with_reducible refine gd 5 113 ?_); refine gc 5 Tryz.func113 #[.agg #[.slice A0_0 l0_0.length c0_0]] (spec_l2Trie.calls k _ _ l0_0 true _ ax30 (HC0_0.out) A2.out) ?_; rintro e w7 ⟨rfl, hb⟩; refine ⟨_, rfl, ?_⟩; replace BK516 := ub BK516 hb; replace HB := uS HB hb; (try clear hb); obtain ⟨hcz8_0, hfz8_0⟩ := bz (.slice A0_0 l0_0.length c0_0) BK516) | ((with_reducible refine gd 9 115 ?_); refine gc 9 Tryz.func115 #[.agg #[.slice A0_0 l0_0.length c0_0]] (spec_l2Words.calls k _ _ l0_0 t518 _ ax30 (HC0_0.out) A4.out) ?_; rintro e w9 ⟨v519, rfl, ho0, hb⟩; refine ⟨_, rfl, ?_⟩; have HO520 := uL ho0 HB; replace HB := uB HB hb; (try clear hb ho0)))
  go_ret2
  exact ⟨_, ax21, aU, aL⟩
 ·replace c3 := Bool.eq_false_iff.mpr c3
  subst c3; rw [if_neg (show ¬ (false = true) by decide)] at H; obtain ⟨y521, hy521⟩ : ∃ y_ : List ByteArray, y_ = (([] : List ByteArray)) := ⟨_, rfl⟩
  replace H : (some (y521, false)) = some (r1, r2) := by first | (rw [hy521]; with_reducible exact H) | (have H2_ := (Option.bind_some _ _).symm.trans H; rw [hy521]; with_reducible exact H2_) | (have H2_ := (Option.bind_some _ _).symm.trans H; with_reducible exact H2_) | with_reducible exact H | (rw [hy521]; exact H) | exact H
  have Ny521 := am hy521; clear hy521; simp only [Option.some.injEq, Prod.mk.injEq] at H; obtain ⟨rfl, rfl⟩ := H
  go_enter Tryz.func52, Tryz.ntmps52
  go_wp2_with (first | ((with_reducible refine gt 1 ?_); refine bx 1 #[.slice A0_0 l0_0.length c0_0] 26 ?_; intro gb516 hg w10 hbox hb; have BK516 := am (hbox); have GW516 := uG hg HB; have GE516 := uG hg HB; replace HB := uB HB hb; clear hb hbox hg; obtain ⟨hcz11_0, hfz11_0⟩ := bz (.slice A0_0 l0_0.length c0_0) BK516) | ((with_reducible refine gd 5 113 ?_); refine gc 5 Tryz.func113 #[.agg #[.slice A0_0 l0_0.length c0_0]] (spec_l2Trie.calls k _ _ l0_0 false _ ax30 (HC0_0.out) A2.out) ?_; rintro e w12 ⟨rfl, hb⟩; refine ⟨_, rfl, ?_⟩; replace HB := uB HB hb; (try clear hb)) | ((with_reducible refine gt 7 ?_); refine Kd.R_lit Kd.string _ 9 ?hg (N := 7) ?hd (xs := ([] : List ByteArray)) (inner := []) (ok := fun _ => True) (okp := fun _ => True) ?hr ?hp (fun _ hk => hk) trivial (Below.refl _ _) (Nat.le_refl _) (by simp) ?_; (case hd => rfl); (case hg => rfl); (case hr => exact ax20); (case hp => exact ax31); intro v522 w13 ho14 hb hg_ hnew_; clear hg_ hnew_; (first | rw [← Ny521.out] at ho14 | (simp only [Int.reduceToNat] at ho14; rw [← Ny521.out] at ho14)); have HO523 := uL ho14 HB; replace HB := uB HB hb; clear hb ho14))
  go_ret2
  exact ⟨_, ax21, aU, aL⟩

/-! ### impl_IsTrie: function 53 -/
def impl_IsTrie.f (k : Nat) (l0_0 : List (S74)) : Option (Bool) := (impl_isTrie.f k l0_0).bind fun t525 => (some t525)
theorem impl_IsTrie.calls (k : Nat) (A0_0 : Option Addr) (c0_0 : Nat) (l0_0 : List (S74)) (r : Bool) (w : World) (hr0_0 : Kd.C k74 w A0_0 l0_0.length l0_0) (hc0_0 : l0_0.length ≤ c0_0) (h : impl_IsTrie.f k l0_0 = some r) :
  Calls Tryz.prog 53 #[.agg #[.slice A0_0 l0_0.length c0_0]] w fun e w' => e = .returned (.bool r) ∧ Below w.heap.size w w' := by
 have hu26 := Tryz.underlying26; have HR0_0 := am hr0_0; have HC0_0 := am hc0_0; clear hr0_0 hc0_0; have HB := am (Below.refl w.heap.size w)
 unfold impl_IsTrie.f at h
 have H := h; clear h; obtain ⟨t525, A2, H⟩ := bs H; obtain rfl := Option.some.inj H
 go_enter Tryz.func53, Tryz.ntmps53
 go_wp2_with (first | ((with_reducible refine gt 1 ?_); refine bx 1 #[.slice A0_0 l0_0.length c0_0] 26 ?_; intro gb524 hg w3 hbox hb; have BK524 := am (hbox); have GW524 := uG hg HB; have GE524 := uG hg HB; replace HB := uB HB hb; clear hb hbox hg; obtain ⟨hcz4_0, hfz4_0⟩ := bz (.slice A0_0 l0_0.length c0_0) BK524) | ((with_reducible refine gd 4 124 ?_); refine gc 4 Tryz.func124 #[.agg #[.slice A0_0 l0_0.length c0_0]] (impl_isTrie.calls k _ _ l0_0 t525 _ ax30 (HC0_0.out) A2.out) ?_; rintro e w5 ⟨rfl, hb⟩; refine ⟨_, rfl, ?_⟩; replace HB := uB HB hb; (try clear hb)))
 go_ret
 exact ⟨ax21, aL⟩

end Go.Proofs.YtcplbbflfgckbaaGreatDoor.X

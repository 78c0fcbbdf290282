-- By gen.py (the session's own program over the kit's printer): functions of the program, each with its contract. Lean checks it.
import Derived.Test.YtcplbbflfgckbaaGreatDoorX0
import Derived.Test.YtcplbbflfgckbaaGreatDoorX2
import Derived.Test.YtcplbbflfgckbaaGreatDoorX7
import Derived.Test.YtcplbbflfgckbaaGreatDoorX9
import Derived.Test.YtcplbbflfgckbaaGreatDoorX14
namespace Go.Proofs.YtcplbbflfgckbaaGreatDoor.X
open Go.RowKit Go.Proofs.YtcplbbflfgckbaaGreatDoorW.PrintWords Go.Proofs.YtcplbbflfgckbaaGreatDoorW.PrintLast Go.Proofs.YtcplbbflfgckbaaGreatDoorW.PrintMore
attribute [local go_sem] max2_int min2_int max_two min_two max_three min_three max_four min_four   -- for this text's walks alone
set_option linter.unusedVariables false
set_option linter.unusedSimpArgs false

/-! ### laws_rBig: function 45 -/
def laws_rBig.f (l0 : List Int) : Option (Bool) := some (decide ((l0.length : Int) > 65536))
set_option maxHeartbeats 8000000 in
set_option maxRecDepth 100000 in
theorem laws_rBig.calls (A0 : Option Addr) (c0 : Nat) (l0 : List Int) (r : Bool) (w : World) (hr0 : Kd.C (Kd.int .u8) w A0 l0.length l0) (hc0 : l0.length ≤ c0) (h : laws_rBig.f l0 = some r) :
  Calls Tryz.prog 45 #[.slice A0 l0.length c0] w fun e w' => e = .returned (.bool r) ∧ Drawn0 w w' := by
 have HR0 := am hr0; have HC0 := am hc0; clear hr0 hc0
 unfold laws_rBig.f at h
 have H := h; clear h; obtain rfl := Option.some.inj H
 go_enter Tryz.func45, Tryz.ntmps45
 go_wp2
 go_ret
 exact ⟨ax31, ax32⟩

/-! ### impl_IsTrie: function 53 -/
def impl_IsTrie.f (k : Nat) (l0_0 : List (S74)) : Option (Bool) := (impl_isTrie.f k l0_0).bind fun t758 => (some t758)
set_option maxHeartbeats 8000000 in
set_option maxRecDepth 100000 in
theorem impl_IsTrie.calls (k : Nat) (A0_0 : Option Addr) (c0_0 : Nat) (l0_0 : List (S74)) (r : Bool) (w : World) (hr0_0 : Kd.C k74 w A0_0 l0_0.length l0_0) (hc0_0 : l0_0.length ≤ c0_0) (h : impl_IsTrie.f k l0_0 = some r) :
  Calls Tryz.prog 53 #[.agg #[.slice A0_0 l0_0.length c0_0]] w fun e w' => e = .returned (.bool r) ∧ Below w.heap.size w w' := by
 have hu26 := Tryz.underlying26; have HR0_0 := am hr0_0; have HC0_0 := am hc0_0; clear hr0_0 hc0_0; have HB := am (Below.refl w.heap.size w)
 unfold impl_IsTrie.f at h
 have H := h; clear h; obtain ⟨t758, A2, H⟩ := bs H; obtain rfl := Option.some.inj H
 go_enter Tryz.func53, Tryz.ntmps53
 go_wp2_with (first | ((with_reducible refine gate_dst (N := 1) rfl ?_); refine bx 1 #[.slice A0_0 l0_0.length c0_0] 26 ?_; intro gb757 hg w3 hbox hb; have BK757 := am (hbox); have GW757 := uG hg HB; have GE757 := uG hg HB; replace HB := uB HB hb; clear hb hbox hg; have hcz4_0 := bc (.slice A0_0 l0_0.length c0_0) BK757 0; have hfz4_0 := blk_frozen BK757.out 0) | ((with_reducible refine gd 4 124 ?_); refine gc 4 Tryz.func124 #[.agg #[.slice A0_0 l0_0.length c0_0]] (impl_isTrie.calls k _ _ l0_0 t758 _ ax145 (HC0_0.out) A2.out) ?_; rintro e w5 ⟨rfl, hb⟩; refine ⟨_, rfl, ?_⟩; replace BK757 := ub BK757 hb; replace HB := am (below_step ax222 hb); (try clear hb)))
 go_ret
 exact ⟨ax27, ax222⟩

/-! ### spec_DrawHasWord: function 148 -/
def spec_DrawHasWord.f (k : Nat) (l0 : List Int) : Option ((List (S74)) × ByteArray) := (spec_l1Cur_trie.f k l0 0 0).bind fun bt779 => ((spec_l1Cur_wordOf.f k l0 bt779.2.1 bt779.2.2 bt779.1).bind fun bt785 => (some (bt779.1, bt785.1)))
set_option maxHeartbeats 8000000 in
set_option maxRecDepth 100000 in
theorem spec_DrawHasWord.calls (k : Nat) (A0 : Option Addr) (c0 : Nat) (l0 : List Int) (r1 : List (S74)) (r2 : ByteArray) (w : World) (hr0 : Kd.C (Kd.int .u8) w A0 l0.length l0) (hc0 : l0.length ≤ c0) (h : spec_DrawHasWord.f k l0 = some (r1, r2)) :
  Calls Tryz.prog 148 #[.slice A0 l0.length c0] w fun e w' => ∃ v0_ : Value, e = .returned (.tuple #[.agg #[v0_], .string r2]) ∧ Kd.R k74 74 w' w.heap.size (fun _ => True) v0_ r1 ∧ Below w.heap.size w w' := by
 have hu26 := Tryz.underlying26; have hu82 := Tryz.underlying82; have HR0 := am hr0; have HC0 := am hc0; clear hr0 hc0; have HB := am (Below.refl w.heap.size w)
 unfold spec_DrawHasWord.f at h
 have H := h; clear h; obtain ⟨⟨t779, t782, t783⟩, A2, H⟩ := bs H; obtain ⟨⟨t785, t786, t787⟩, A3, H⟩ := bs H; simp only [Option.some.injEq, Prod.mk.injEq] at H; obtain ⟨rfl, rfl⟩ := H
 go_enter Tryz.func148, Tryz.ntmps148
 try go_wp2_with (first | ((with_reducible refine gate_dst (N := 2) rfl ?_); refine bx 2 #[.slice none 0 0] 26 ?_; intro gb777 hg w4 hbox hb; have BK777 := am (hbox); have GW777 := uG hg HB; have GE777 := uG hg HB; replace HB := uB HB hb; clear hb hbox hg) | ((with_reducible refine gate_dst (N := 8) rfl ?_); refine bx 8 #[.slice A0 l0.length c0, .int .i64 0, .int .u64 0] 82 ?_; intro gb778 hg w5 hbox hb; have BK778 := am (hbox); have GW778 := am ((ax223 : w.heap.size ≤ gb778)); have GE778 := am ((ax223 : w.heap.size ≤ gb778)); have NB777_778 := uN hg BK777; have NB778_777 := uM hg BK777; replace BK777 := ub BK777 hb; have HI778 := am ((⟨_, _, hbox, ax223, HR0.out⟩ : IsS82 w w5 gb778 l0 0 0)); replace HB := am (below_step ax224 hb); clear hb hbox hg) | ((with_reducible refine gd 10 108 ?_); refine gc 10 Tryz.func108 #[.pointer (some ⟨gb778, 0, none⟩)] (spec_l1Cur_trie.calls k gb778 l0 0 0 t779 t782 t783 w _ ax225 ax226 A2.out) ?_; rintro e w6 ⟨v780, rfl, ho0, hi, hb, hk⟩; refine ⟨_, rfl, ?_⟩; replace BK777 := am (KeepBut.blk hk (g' := gb777) (o := .cells #[.slice none 0 0] 26 (0, 0)) ax227 NB777_778.out (by simp)); have HO781 := am (Kd.R_lower ho0 (below_size ax226)); replace HB := am (hb); replace HI778 := am (hi); (try clear hb hk hi ho0)) | ((with_reducible refine gate_dst (N := 5) rfl ?_); refine bx 5 #[.slice none 0 0] 26 ?_; intro gb784 hg w7 hbox hb; replace HO781 := uR HO781 hb; have BK784 := am (hbox); have GW784 := am ((ax228 : w.heap.size ≤ gb784)); have GE784 := am ((ax228 : w.heap.size ≤ gb784)); replace HB := am (below_step ax226 hb); have NB777_784 := uN hg BK777; have NB784_777 := uM hg BK777; replace BK777 := ub BK777 hb; have NB778_784 := am ((by rw [hg]; exact Nat.ne_of_lt (IsS82.lt (show IsS82 w _ gb778 l0 t782 t783 from by repeat (first | (with_reducible first | exact HI778.out | apply IsS82.alloc | apply IsS82.drewN | apply IsS82.drew | apply IsS82.set_1 | apply IsS82.set_2 | refine IsS82.far ?_ NB778_777.out _) | exact HI778.out))) : gb778 ≠ gb784)); have NB784_778 := am ((by rw [hg]; exact Nat.ne_of_gt (IsS82.lt (show IsS82 w _ gb778 l0 t782 t783 from by repeat (first | (with_reducible first | exact HI778.out | apply IsS82.alloc | apply IsS82.drewN | apply IsS82.drew | apply IsS82.set_1 | apply IsS82.set_2 | refine IsS82.far ?_ NB778_777.out _) | exact HI778.out))) : gb784 ≠ gb778)); replace HI778 := am (IsS82.below ax225 hb); clear hb hbox hg; obtain ⟨Ao8, co8, eo8⟩ := Kd.R_slice HO781.out; subst eo8; have hnb9 := NB784_777.out; have hnc9 := NB777_784.out; have hnb10 := NB784_778.out; have hnc10 := NB778_784.out; have hcz11_0 := bc (.slice none 0 0) BK784 0; have hfz11_0 := blk_frozen BK784.out 0))
 have n0_ : Aside0 (Kd.R k74 74 (w7.setCell ⟨gb784, 0, none⟩ (.slice Ao8 t779.length co8)) w.heap.size (fun _ => True) (.slice Ao8 t779.length co8) t779) := ⟨(by (with_reducible repeat (first | apply Kd.R_alloc | apply Kd.R_drewN | apply Kd.R_drew)); exact Kd.R_mono (Kd.R_far (p := ⟨gb784, 0, none⟩) (Kd.R_types HO781.out BK784.out (by decide)) (fun _ hk => hk.2) (.slice Ao8 t779.length co8)) (fun _ hk => trivial))⟩; have n1_ : Aside0 ((w7.setCell ⟨gb784, 0, none⟩ (.slice Ao8 t779.length co8)).heap[gb777]? = some (.cells #[.slice none 0 0] 26 (0, 0))) := ⟨(by (with_reducible repeat (first | refine blk_drewN ?_ _ | refine blk_drew ?_ | refine blk_alloc ?_ _)); refine blk_far ?_ NB777_784.out _; (with_reducible repeat (first | refine blk_drewN ?_ _ | refine blk_drew ?_ | refine blk_alloc ?_ _)); exact BK777.out)⟩; have n2_ : Aside0 ((w7.setCell ⟨gb784, 0, none⟩ (.slice Ao8 t779.length co8)).heap[gb784]? = some (.cells #[.slice Ao8 t779.length co8] 26 (0, 0))) := ⟨(by (with_reducible repeat (first | refine blk_drewN ?_ _ | refine blk_drew ?_ | refine blk_alloc ?_ _)); refine blk_put (cs := #[.slice none 0 0]) ?_ 0 _ rfl; (with_reducible repeat (first | refine blk_drewN ?_ _ | refine blk_drew ?_ | refine blk_alloc ?_ _)); exact BK784.out)⟩; have n3_ : Aside0 (IsS82 w (w7.setCell ⟨gb784, 0, none⟩ (.slice Ao8 t779.length co8)) gb778 l0 t782 t783) := ⟨ax229⟩; have n4_ : Aside0 (Below w.heap.size w (w7.setCell ⟨gb784, 0, none⟩ (.slice Ao8 t779.length co8))) := ⟨ax230⟩; (try clear HO781); (try clear BK777); (try clear BK784); (try clear HI778); (try clear HB); generalize (w7.setCell ⟨gb784, 0, none⟩ (.slice Ao8 t779.length co8)) = w12 at n0_ n1_ n2_ n3_ n4_ ⊢; have HO781 := n0_; have BK777 := n1_; have BK784 := n2_; have HI778 := n3_; have HB := n4_; clear n0_ n1_ n2_ n3_ n4_; replace HO781 := am (Kd.R_drew HO781.out); replace BK777 := am (blk_drew BK777.out); replace BK784 := am (blk_drew BK784.out); replace HI778 := am (IsS82.drew HI778.out); replace HB := am (below_drew1 HB.out); refine start_ (n := 6) (S := fun w' => w'.cell? ⟨gb784, 0, none⟩ = some (.slice Ao8 t779.length co8)) (ds := []) (ob 6 0) (by kernel_rfl) rfl rfl ((blk_cell BK784.out 0).trans rfl) (fun hHeld => ?_); generalize w12.drew = w13 at HO781 BK777 BK784 HI778 HB hHeld ⊢; refine pure_ (i := 1) (N := some 12) (v := ?_) (a' := ?_) (ob 6 2) rfl rfl (by kernel_rfl) (fun _ _ _ h => h) (Or.inl ⟨by rfl, ?_⟩) ?_ ?_
 rotate_left
 ·exact ax20
 rotate_left
 ·exact ax15
 refine take_ (i := 0) (N := some 11) (v := ?_) (a' := ?_) (ob 6 3) rfl rfl (by kernel_rfl) (fun _ _ _ h => h) (Or.inl ⟨by rfl, ?_⟩) hHeld ?_ ?_; rotate_left; exact ax14; rotate_left; exact ax15
 refine take_ (i := 2) (N := some 13) (v := ?_) (a' := ?_) (ob 6 7) rfl rfl (by kernel_rfl) (fun _ _ _ h => h) (Or.inl ⟨by rfl, ?_⟩) hHeld ?_ ?_; rotate_left; exact ax14; rotate_left; exact ax15
 refine one_ (i := 3) (N := some 14) (ob 6 15) rfl rfl (by kernel_rfl) (by decide) (fun K hK => ?_); refine goes_ Tryz.func109 (by kernel_rfl) rfl #[.pointer (some ⟨gb778, 0, none⟩), .agg #[.slice Ao8 t779.length co8]] (by rfl) rfl rfl ax42 ?_
 with_reducible refine (spec_l1Cur_wordOf.calls k gb778 l0 t782 t783 _ _ t779 t785 t786 t787 w _ ?side1 ?side2 ?side3 ?side4 A3.out).mono ?_
 (case side1 => exact ax229)
 (case side2 => exact ax230)
 (case side3 => exact Kd.C_foot_own (IsS82.apart (show IsS82 w _ gb778 l0 t782 t783 from by repeat (first | (with_reducible first | exact HI778.out | apply IsS82.alloc | apply IsS82.drewN | apply IsS82.drew | apply IsS82.set_1 | apply IsS82.set_2 | refine IsS82.far ?_ NB778_777.out _ | refine IsS82.far ?_ NB778_784.out _) | exact HI778.out)) ax231 (by decide)) (fun _ h_ => h_.2))
 (case side4 => exact (Kd.R_reads' HO781.out).2.1)
 rintro e w14 ⟨rfl, hi, hb, hk⟩; refine ⟨_, rfl, ?_⟩; replace BK777 := am (KeepBut.blk hk (g' := gb777) (o := .cells #[.slice none 0 0] 26 (0, 0)) ax227 NB777_778.out (by simp)); replace HO781 := am (Kd.R_mono (Kd.R_keep (IsS82.apart (show IsS82 w _ gb778 l0 t782 t783 from by repeat (first | (with_reducible first | exact HI778.out | apply IsS82.alloc | apply IsS82.drewN | apply IsS82.drew | apply IsS82.set_1 | apply IsS82.set_2 | refine IsS82.far ?_ NB778_777.out _ | refine IsS82.far ?_ NB778_784.out _) | exact HI778.out)) ax231 (by decide)) hk (fun _ h => h.2)) (fun _ h => h.1)); replace BK784 := am (KeepBut.blk hk (g' := gb784) (o := .cells #[.slice Ao8 t779.length co8] 26 (0, 0)) (by (with_reducible repeat (first | refine blk_drewN ?_ _ | refine blk_drew ?_ | refine blk_alloc ?_ _)); exact BK784.out) NB784_778.out (by simp)); replace HB := am (hb); replace HI778 := am (hi); (try clear hb); (try clear hb2); (try clear hk); (try clear hi); refine hK.out _ _ ((blk_cell BK784.out 0).trans rfl) (fun hHeld => ?_); clear hK K; refine nm 14 ?_; refine one_ (i := 4) (N := none) (ob 6 31) rfl rfl (by kernel_rfl) (by decide) (fun K hK => ?_); have hs15 : w14.cell? ⟨gb777, 0, none⟩ = some (.slice none 0 0) := (blk_cell BK777.out 0).trans rfl; have hfs15 := blk_frozen BK777.out 0; have hns15_1 := NB784_777.out; have hms15_1 := NB777_784.out; refine skip_ (w1 := ?_) (by rfl) rfl ?_ ?_
 rotate_left
 ·go_simp
  rfl
 refine hK.out _ _ (((cell_far (p := ⟨gb777, _, none⟩) NB784_777.out _).trans (hHeld))) (fun hHeld => ?_); clear hK K; refine pure_ (i := 5) (N := some 3) (v := ?_) (a' := ?_) (ob 6 63) rfl rfl (by kernel_rfl) (fun _ _ _ h => h) (Or.inl ⟨by rfl, ?_⟩) ?_ ?_
 rotate_left
 ·exact ax20
 rotate_left
 ·exact ax15
 refine done_ (by kernel_rfl) ?_
 try go_wp2
 refine bodyPost_ret (results_ct rfl _ _ gb777 26 #[.slice Ao8 t779.length co8] (0, 0) _ rfl (by (with_reducible repeat (first | refine blk_drewN ?_ _ | refine blk_drew ?_ | refine blk_alloc ?_ _)); refine blk_put (cs := #[.slice none 0 0]) ?_ 0 _ rfl; (with_reducible repeat (first | refine blk_drewN ?_ _ | refine blk_drew ?_ | refine blk_alloc ?_ _)); exact BK777.out) Tryz.underlying26 rfl (by kernel_rfl)) rfl ?_
 exact ⟨_, ax27, (by (with_reducible repeat (first | apply Kd.R_alloc | apply Kd.R_drewN | apply Kd.R_drew)); exact Kd.R_mono (Kd.R_far (p := ⟨gb777, 0, none⟩) (Kd.R_types HO781.out BK777.out (by decide)) (fun _ hk => hk.2) (.slice Ao8 t779.length co8)) (fun _ hk => trivial)), ax230⟩

/-! ### impl_IsWord: function 62 -/
def impl_IsWord.f (a0 : ByteArray) : Option (Bool) := (impl_isWord.f a0).bind fun t882 => (some t882)
set_option maxHeartbeats 8000000 in
set_option maxRecDepth 100000 in
theorem impl_IsWord.calls (a0 : ByteArray) (r : Bool) (w : World) (h : impl_IsWord.f a0 = some r) :
  Calls Tryz.prog 62 #[.string a0] w fun e w' => e = .returned (.bool r) ∧ Below w.heap.size w w' := by
 have HB := am (Below.refl w.heap.size w)
 unfold impl_IsWord.f at h
 have H := h; clear h; obtain ⟨t882, A2, H⟩ := bs H; obtain rfl := Option.some.inj H
 go_enter Tryz.func62, Tryz.ntmps62
 go_wp2_with (first | ((with_reducible refine gd 4 142 ?_); refine gc 4 Tryz.func142 #[.string a0] (impl_isWord.calls a0 t882 _ A2.out) ?_; rintro e w3 ⟨rfl, hb⟩; refine ⟨_, rfl, ?_⟩; replace HB := uB HB hb; (try clear hb)))
 go_ret
 exact ⟨ax27, ax39⟩

/-! ### impl_Trie_kids: function 161 -/
def impl_Trie_kids.l0 : Nat → Int → List Int → List (S74) → Int → Int → Option (List Int)
 | 0, _, _, _, _, _ => none
 | k + 1, x1, x5, x10, x11, x12 => if x12 < x11 then (if 0 ≤ x12 then (if x12 < (x10.length : Int) then (if ((rd_T74 x10 x12).f1) = x1 then (if x5.length < 17592186044416 then (impl_Trie_kids.l0 k x1 (x5 ++ [x12]) x10 x11 (wrap64 (x12 + 1))) else (none)) else (impl_Trie_kids.l0 k x1 x5 x10 x11 (wrap64 (x12 + 1)))) else (none)) else (none)) else (some x5)
def impl_Trie_kids.f (k : Nat) (l0_0 : List (S74)) (a1 : Int) : Option (List Int) := impl_Trie_kids.l0 k a1 (([] : List Int)) l0_0 (l0_0.length : Int) 0
set_option maxHeartbeats 8000000 in
set_option maxRecDepth 100000 in
theorem impl_Trie_kids.calls (k : Nat) (A0_0 : Option Addr) (c0_0 : Nat) (l0_0 : List (S74)) (a1 : Int) (r : List Int) (w : World) (hr0_0 : Kd.C k74 w A0_0 l0_0.length l0_0) (hc0_0 : l0_0.length ≤ c0_0) (h : impl_Trie_kids.f k l0_0 a1 = some r) :
  Calls Tryz.prog 161 #[.agg #[.slice A0_0 l0_0.length c0_0], .int .i64 a1] w fun e w' => ∃ v0_ : Value, e = .returned (v0_) ∧ Kd.R (Kd.int .i64) 3 w' w.heap.size (fun _ => True) v0_ r ∧ Below w.heap.size w w' := by
 have hu26 := Tryz.underlying26; have hu74 := Tryz.underlying74; have HR0_0 := am hr0_0; have HC0_0 := am hc0_0; clear hr0_0 hc0_0; have HB := am (Below.refl w.heap.size w)
 unfold impl_Trie_kids.f at h
 have H := h; clear h; obtain ⟨y889, hy889⟩ : ∃ y_ : List Int, y_ = (([] : List Int)) := ⟨_, rfl⟩
 replace H : (impl_Trie_kids.l0 k a1 y889 l0_0 (l0_0.length : Int) 0) = some r := by first | (rw [hy889]; with_reducible exact H) | (have H2_ := (Option.bind_some _ _).symm.trans H; rw [hy889]; with_reducible exact H2_) | (have H2_ := (Option.bind_some _ _).symm.trans H; with_reducible exact H2_) | with_reducible exact H | (rw [hy889]; exact H) | exact H
 have Ny889 := am hy889; clear hy889; have H' := am H; clear H
 go_enter Tryz.func161, Tryz.ntmps161
 go_wp2_with (first | ((with_reducible refine gate_dst (N := 2) rfl ?_); refine bx 2 #[.slice A0_0 l0_0.length c0_0] 26 ?_; intro gb888 hg w3 hbox hb; have BK888 := am (hbox); have GW888 := uG hg HB; have GE888 := uG hg HB; replace HB := uB HB hb; clear hb hbox hg) | ((with_reducible refine gate_dst (N := 8) rfl ?_); refine Kd.R_lit (Kd.int .i64) _ 3 ?hg (N := 8) ?hd (xs := ([] : List Int)) (inner := []) (ok := fun _ => True) (okp := fun _ => True) ?hr ?hp (fun _ hk => hk) trivial (Below.refl _ _) (Nat.le_refl _) (by simp) ?_; (case hd => rfl); (case hg => rfl); (case hr => exact ax33); (case hp => exact ax34); intro v890 w4 ho5 hb hg_ hnew_; clear hg_ hnew_; (first | rw [← Ny889.out] at ho5 | (simp only [Int.reduceToNat] at ho5; rw [← Ny889.out] at ho5)); have HO891 := am (Kd.R_lower ho5 (below_size ax232)); replace BK888 := ub BK888 hb; replace HB := am (below_step ax232 hb); clear hb ho5; have hcz6_0 := bc (.slice A0_0 l0_0.length c0_0) BK888 0; have hfz6_0 := blk_frozen BK888.out 0))
 go_loopg [5, 12] k (fun kq v5 v12 w' => ∃ (x5_1 : List Int) (x12_1 : Int), v12 = .int .i64 x12_1 ∧ Aside0 (impl_Trie_kids.l0 kq a1 x5_1 l0_0 (l0_0.length : Int) x12_1 = some r) ∧ Aside0 (kq ≤ k) ∧ Aside0 (Kd.R (Kd.int .i64) 3 w' w.heap.size (fun _ => True) v5 x5_1) ∧ Aside0 (w'.heap[gb888]? = some (.cells #[(.slice A0_0 l0_0.length c0_0)] 26 (0, 0))) ∧ Aside0 (Below w.heap.size w w'))
 case atStart => exact ⟨(y889), (0), ax31, H', ⟨Nat.le_refl _⟩, ⟨(by (with_reducible repeat (first | apply Kd.R_alloc | apply Kd.R_drewN | apply Kd.R_drew)); exact HO891.out)⟩, ⟨ax233⟩, ⟨ax232⟩⟩
 case round =>
  clear H'; (try clear hcz6_0);(try clear hfz6_0); obtain ⟨x5_1, x12_1, rfl, HA, HK1, HO_5, BK888, HB⟩ := hrel
  cases gk with
  | zero => exact absurd HA.out (by simp [impl_Trie_kids.l0])
  | succ k1 =>
   have H := HA.out; clear HA; simp only [impl_Trie_kids.l0] at H
   by_cases c7 : x12_1 < (l0_0.length : Int)
   ·rw [if_pos c7] at H
    have c7b0 := decide_eq_true c7; clear c7
    by_cases c8 : 0 ≤ x12_1
    ·rw [if_pos c8] at H
     have c8b0 := decide_eq_true c8; clear c8
     by_cases c9 : x12_1 < (l0_0.length : Int)
     ·rw [if_pos c9] at H
      have c9b0 := decide_eq_true c9; clear c9
      by_cases c10 : ((rd_T74 l0_0 x12_1).f1) = a1
      ·rw [if_pos c10] at H
       have c10b0 := beq_iff_eq.mpr c10; have c10b1 := bne_eq_false_iff_eq.mpr c10; clear c10
       by_cases c11 : x5_1.length < 17592186044416
       ·rw [if_pos c11] at H
        have LMc11 := am c11; clear c11; obtain ⟨y894, hy894⟩ : ∃ y_ : List Int, y_ = (x5_1 ++ [x12_1]) := ⟨_, rfl⟩
        replace H : (impl_Trie_kids.l0 k1 a1 y894 l0_0 (l0_0.length : Int) (wrap64 (x12_1 + 1))) = some r := by first | (rw [hy894]; with_reducible exact H) | (have H2_ := (Option.bind_some _ _).symm.trans H; rw [hy894]; with_reducible exact H2_) | (have H2_ := (Option.bind_some _ _).symm.trans H; with_reducible exact H2_) | with_reducible exact H | (rw [hy894]; exact H) | exact H
        have Ny894 := am hy894; clear hy894; have H' := am H; clear H; have p892 : 0 ≤ (x12_1 : Int) := of_decide_eq_true ax26; have q892 : x12_1 < (l0_0.length : Int) := of_decide_eq_true ax26; obtain ⟨ad892, e892, hx892_0, hx892_1, hx892_2⟩ := at_T74 HR0_0.out x12_1 p892 q892
        cases e892
        replace hx892_0 := (HB.out.cell (World.block_lt_of_cell? w _ hx892_0)).trans hx892_0; replace hx892_1 := (HB.out.cell (World.block_lt_of_cell? w _ hx892_1)).trans hx892_1; replace hx892_2 := (HB.out.cell (World.block_lt_of_cell? w _ hx892_2)).trans hx892_2; replace p892 := eq_true p892; replace q892 := eq_true q892
        go_wp2_with (first | ((with_reducible refine gate_dst (N := 7) rfl ?_); refine bx 7 #[.int .i64 0, .int .i64 0, .bool false] 74 ?_; intro gb893 hg w12 hbox hb; replace HO_5 := uR HO_5 hb; have BK893 := am (hbox); have GW893 := am ((ax234 : w.heap.size ≤ gb893)); have GE893 := am ((ax234 : w.heap.size ≤ gb893)); replace HB := am (below_step ax232 hb); have NB888_893 := uN hg BK888; have NB893_888 := uM hg BK888; replace BK888 := ub BK888 hb; clear hb hbox hg; have hnb13 := NB893_888.out; have hnc13 := NB888_893.out; have hcz14_0 := bc (.int .i64 0) BK893 0; have hcz14_1 := bc (.int .i64 0) BK893 1; have hcz14_2 := bc (.bool false) BK893 2; have hfz14_0 := blk_frozen BK893.out 0; have hfz14_1 := blk_frozen BK893.out 1; have hfz14_2 := blk_frozen BK893.out 2) | ((with_reducible refine gate_builtin (b := .append) (xs := #[.tmp 21, .tmp 23]) rfl ?_); at_builtin; refine Kd.R_append (Kd.int .i64) (w0 := w) w.heap.size rfl (.tmp 21) (.tmp 23) 42 3 (.int .i64 0) 8 rfl Tryz.underlying42 info3 rfl (by decide) (by omega) u5 x5_1 x12_1 [.int .i64 x12_1] (fun _ => True) (fun _ => False) rfl ax33 ?aP (fun _ hk => hk.elim) ?aF ?aO ?aB ?aS ?aL ?_; (case aP => exact rfl); (case aB => exact ax235); (case aF => exact ax37); (case aO => exact ax236); (case aS => exact (below_size ax235)); (case aL => have := LMc11.out; omega); intro v895 w15 ho hb hg hat; rw [← Ny894.out] at ho; have n0_ := am (blk_grown (g := gb888) (o := .cells #[.slice (some ad892) l0_0.length c0_0] 26 (0, 0)) ax237 hg (Kd.R_ne HO_5.out BK888.out (by decide))); have n1_ := am (blk_grown (g := gb893) (o := .cells #[.int .i64 ((rd_T74 l0_0 x12_1).f0), .int .i64 ((rd_T74 l0_0 x12_1).f1), .bool ((rd_T74 l0_0 x12_1).f2)] 74 (0, 0)) (by (with_reducible repeat (first | refine blk_drewN ?_ _ | refine blk_drew ?_ | refine blk_alloc ?_ _)); refine blk_put (cs := #[.int .i64 ((rd_T74 l0_0 x12_1).f0), .int .i64 ((rd_T74 l0_0 x12_1).f1), .bool false]) ?_ 2 _ rfl; (with_reducible repeat (first | refine blk_drewN ?_ _ | refine blk_drew ?_ | refine blk_alloc ?_ _)); refine blk_put (cs := #[.int .i64 ((rd_T74 l0_0 x12_1).f0), .int .i64 0, .bool false]) ?_ 1 _ rfl; (with_reducible repeat (first | refine blk_drewN ?_ _ | refine blk_drew ?_ | refine blk_alloc ?_ _)); refine blk_put (cs := #[.int .i64 0, .int .i64 0, .bool false]) ?_ 0 _ rfl; (with_reducible repeat (first | refine blk_drewN ?_ _ | refine blk_drew ?_ | refine blk_alloc ?_ _)); exact BK893.out) hg (Kd.R_ne HO_5.out BK893.out (by decide))); have n2_ := am (hb); have n3_ := am (ho); clear BK888; clear BK893; clear HB; clear HO_5; have BK888 := n0_; have BK893 := n1_; have HB := n2_; have HO896 := n3_; clear n0_ n1_ n2_ n3_; clear ho hb hg hat))
        go_roundg k1
        case measure => have := HK1.out; omega
        case rel => exact ⟨(y894), (wrap64 (x12_1 + 1)), ax31, H', ⟨by have := HK1.out; omega⟩, ⟨(by (with_reducible repeat (first | apply Kd.R_alloc | apply Kd.R_drewN | apply Kd.R_drew)); exact HO896.out)⟩, ⟨ax233⟩, ⟨ax235⟩⟩
       ·exact ax8
      ·rw [if_neg c10] at H
       have c10b0 := beq_eq_false_iff_ne.mpr c10; have c10b1 := bne_iff_ne.mpr c10; have H' := am H; clear H; have p892 : 0 ≤ (x12_1 : Int) := of_decide_eq_true ax26; have q892 : x12_1 < (l0_0.length : Int) := of_decide_eq_true ax26; obtain ⟨ad892, e892, hx892_0, hx892_1, hx892_2⟩ := at_T74 HR0_0.out x12_1 p892 q892
       cases e892
       replace hx892_0 := (HB.out.cell (World.block_lt_of_cell? w _ hx892_0)).trans hx892_0; replace hx892_1 := (HB.out.cell (World.block_lt_of_cell? w _ hx892_1)).trans hx892_1; replace hx892_2 := (HB.out.cell (World.block_lt_of_cell? w _ hx892_2)).trans hx892_2; replace p892 := eq_true p892; replace q892 := eq_true q892
       go_wp2_with (first | ((with_reducible refine gate_dst (N := 7) rfl ?_); refine bx 7 #[.int .i64 0, .int .i64 0, .bool false] 74 ?_; intro gb893 hg w16 hbox hb; replace HO_5 := uR HO_5 hb; have BK893 := am (hbox); have GW893 := am ((ax234 : w.heap.size ≤ gb893)); have GE893 := am ((ax234 : w.heap.size ≤ gb893)); replace HB := am (below_step ax232 hb); have NB888_893 := uN hg BK888; have NB893_888 := uM hg BK888; replace BK888 := ub BK888 hb; clear hb hbox hg; have hnb17 := NB893_888.out; have hnc17 := NB888_893.out; have hcz18_0 := bc (.int .i64 0) BK893 0; have hcz18_1 := bc (.int .i64 0) BK893 1; have hcz18_2 := bc (.bool false) BK893 2; have hfz18_0 := blk_frozen BK893.out 0; have hfz18_1 := blk_frozen BK893.out 1; have hfz18_2 := blk_frozen BK893.out 2))
       go_roundg k1
       case measure => have := HK1.out; omega
       case rel => exact ⟨(x5_1), (wrap64 (x12_1 + 1)), ax31, H', ⟨by have := HK1.out; omega⟩, ⟨ax236⟩, ⟨ax237⟩, ⟨ax235⟩⟩
     ·exact ax3
    ·exact ax17
   ·rw [if_neg c7] at H
    have c7b0 := decide_eq_false c7; clear c7; obtain rfl := Option.some.inj H
    go_wp2
    go_ret
    exact ⟨_, ax27, ax238, ax232⟩

/-! ### spec_l2Kids: function 163 -/
def spec_l2Kids.l0 : Nat → Int → List Int → Int → List (S74) → Option (List Int)
 | 0, _, _, _, _ => none
 | k + 1, x1, x5, x6, x910000 => if x6 < (x910000.length : Int) then (if 0 ≤ x6 then (if ((rd_T74 x910000 x6).f1) = x1 then (if x5.length < 17592186044416 then (spec_l2Kids.l0 k x1 (x5 ++ [x6]) (wrap64 (x6 + 1)) x910000) else (none)) else (spec_l2Kids.l0 k x1 x5 (wrap64 (x6 + 1)) x910000)) else (none)) else (some x5)
def spec_l2Kids.f (k : Nat) (l0_0 : List (S74)) (a1 : Int) : Option (List Int) := spec_l2Kids.l0 k a1 (([] : List Int)) (wrap64 (a1 + 1)) l0_0
set_option maxHeartbeats 8000000 in
set_option maxRecDepth 100000 in
theorem spec_l2Kids.calls (k : Nat) (A0_0 : Option Addr) (c0_0 : Nat) (l0_0 : List (S74)) (a1 : Int) (r : List Int) (w : World) (hr0_0 : Kd.C k74 w A0_0 l0_0.length l0_0) (hc0_0 : l0_0.length ≤ c0_0) (h : spec_l2Kids.f k l0_0 a1 = some r) :
  Calls Tryz.prog 163 #[.agg #[.slice A0_0 l0_0.length c0_0], .int .i64 a1] w fun e w' => ∃ v0_ : Value, e = .returned (v0_) ∧ Kd.R (Kd.int .i64) 3 w' w.heap.size (fun _ => True) v0_ r ∧ Below w.heap.size w w' := by
 have hu26 := Tryz.underlying26; have HR0_0 := am hr0_0; have HC0_0 := am hc0_0; clear hr0_0 hc0_0; have HB := am (Below.refl w.heap.size w)
 unfold spec_l2Kids.f at h
 have H := h; clear h; obtain ⟨y910, hy910⟩ : ∃ y_ : List Int, y_ = (([] : List Int)) := ⟨_, rfl⟩
 replace H : (spec_l2Kids.l0 k a1 y910 (wrap64 (a1 + 1)) l0_0) = some r := by first | (rw [hy910]; with_reducible exact H) | (have H2_ := (Option.bind_some _ _).symm.trans H; rw [hy910]; with_reducible exact H2_) | (have H2_ := (Option.bind_some _ _).symm.trans H; with_reducible exact H2_) | with_reducible exact H | (rw [hy910]; exact H) | exact H
 have Ny910 := am hy910; clear hy910; have H' := am H; clear H
 go_enter Tryz.func163, Tryz.ntmps163
 go_wp2_with (first | ((with_reducible refine gate_dst (N := 2) rfl ?_); refine bx 2 #[.slice A0_0 l0_0.length c0_0] 26 ?_; intro gb909 hg w3 hbox hb; have BK909 := am (hbox); have GW909 := uG hg HB; have GE909 := uG hg HB; replace HB := uB HB hb; clear hb hbox hg) | ((with_reducible refine gate_dst (N := 7) rfl ?_); refine Kd.R_lit (Kd.int .i64) _ 3 ?hg (N := 7) ?hd (xs := ([] : List Int)) (inner := []) (ok := fun _ => True) (okp := fun _ => True) ?hr ?hp (fun _ hk => hk) trivial (Below.refl _ _) (Nat.le_refl _) (by simp) ?_; (case hd => rfl); (case hg => rfl); (case hr => exact ax33); (case hp => exact ax34); intro v911 w4 ho5 hb hg_ hnew_; clear hg_ hnew_; (first | rw [← Ny910.out] at ho5 | (simp only [Int.reduceToNat] at ho5; rw [← Ny910.out] at ho5)); have HO912 := am (Kd.R_lower ho5 (below_size ax239)); replace BK909 := ub BK909 hb; replace HB := am (below_step ax239 hb); clear hb ho5))
 go_loopg [5, 6] k (fun kq v5 v6 w' => ∃ (x5_1 : List Int) (x6_1 : Int), v6 = .int .i64 x6_1 ∧ Aside0 (spec_l2Kids.l0 kq a1 x5_1 x6_1 l0_0 = some r) ∧ Aside0 (kq ≤ k) ∧ Aside0 (Kd.R (Kd.int .i64) 3 w' w.heap.size (fun _ => True) v5 x5_1) ∧ Aside0 (w'.heap[gb909]? = some (.cells #[(.slice A0_0 l0_0.length c0_0)] 26 (0, 0))) ∧ Aside0 (Below w.heap.size w w'))
 case atStart => exact ⟨(y910), (wrap64 (a1 + 1)), ax31, H', ⟨Nat.le_refl _⟩, ⟨(by (with_reducible repeat (first | apply Kd.R_alloc | apply Kd.R_drewN | apply Kd.R_drew)); exact HO912.out)⟩, ⟨ax240⟩, ⟨ax239⟩⟩
 case round =>
  clear H'; obtain ⟨x5_1, x6_1, rfl, HA, HK1, HO_5, BK909, HB⟩ := hrel
  cases gk with
  | zero => exact absurd HA.out (by simp [spec_l2Kids.l0])
  | succ k1 =>
   have H := HA.out; clear HA; simp only [spec_l2Kids.l0] at H
   by_cases c6 : x6_1 < (l0_0.length : Int)
   ·rw [if_pos c6] at H
    have c6b0 := decide_eq_true c6; clear c6
    by_cases c7 : 0 ≤ x6_1
    ·rw [if_pos c7] at H
     have c7b0 := decide_eq_true c7; clear c7
     by_cases c8 : ((rd_T74 l0_0 x6_1).f1) = a1
     ·rw [if_pos c8] at H
      have c8b0 := beq_iff_eq.mpr c8; have c8b1 := bne_eq_false_iff_eq.mpr c8; clear c8
      by_cases c9 : x5_1.length < 17592186044416
      ·rw [if_pos c9] at H
       have LMc9 := am c9; clear c9; obtain ⟨y914, hy914⟩ : ∃ y_ : List Int, y_ = (x5_1 ++ [x6_1]) := ⟨_, rfl⟩
       replace H : (spec_l2Kids.l0 k1 a1 y914 (wrap64 (x6_1 + 1)) l0_0) = some r := by first | (rw [hy914]; with_reducible exact H) | (have H2_ := (Option.bind_some _ _).symm.trans H; rw [hy914]; with_reducible exact H2_) | (have H2_ := (Option.bind_some _ _).symm.trans H; with_reducible exact H2_) | with_reducible exact H | (rw [hy914]; exact H) | exact H
       have Ny914 := am hy914; clear hy914; have H' := am H; clear H; have hcz10_0 := bc (.slice A0_0 l0_0.length c0_0) BK909 0; have hfz10_0 := blk_frozen BK909.out 0; have p913 : 0 ≤ (x6_1 : Int) := of_decide_eq_true ax26; have q913 : x6_1 < (l0_0.length : Int) := of_decide_eq_true ax26; obtain ⟨ad913, e913, hx913_0, hx913_1, hx913_2⟩ := at_T74 HR0_0.out x6_1 p913 q913
       cases e913
       replace hx913_0 := (HB.out.cell (World.block_lt_of_cell? w _ hx913_0)).trans hx913_0; replace hx913_1 := (HB.out.cell (World.block_lt_of_cell? w _ hx913_1)).trans hx913_1; replace hx913_2 := (HB.out.cell (World.block_lt_of_cell? w _ hx913_2)).trans hx913_2; replace p913 := eq_true p913; replace q913 := eq_true q913
       go_wp2_with (first | ((with_reducible refine gate_builtin (b := .append) (xs := #[.tmp 25, .tmp 27]) rfl ?_); at_builtin; refine Kd.R_append (Kd.int .i64) (w0 := w) w.heap.size rfl (.tmp 25) (.tmp 27) 42 3 (.int .i64 0) 8 rfl Tryz.underlying42 info3 rfl (by decide) (by omega) u5 x5_1 x6_1 [.int .i64 x6_1] (fun _ => True) (fun _ => False) rfl rfl ?aP (fun _ hk => hk.elim) ?aF ?aO ?aB ?aS ?aL ?_; (case aP => exact rfl); (case aB => exact ax239); (case aF => exact ax37); (case aO => exact ax241); (case aS => exact (below_size ax239)); (case aL => have := LMc9.out; omega); intro v915 w11 ho hb hg hat; rw [← Ny914.out] at ho; have n0_ := am (blk_grown (g := gb909) (o := .cells #[.slice (some ad913) l0_0.length c0_0] 26 (0, 0)) ax240 hg (Kd.R_ne HO_5.out BK909.out (by decide))); have n1_ := am (hb); have n2_ := am (ho); clear BK909; clear HB; clear HO_5; have BK909 := n0_; have HB := n1_; have HO916 := n2_; clear n0_ n1_ n2_; clear ho hb hg hat))
       go_roundg k1
       case measure => have := HK1.out; omega
       case rel => exact ⟨(y914), (wrap64 (x6_1 + 1)), ax31, H', ⟨by have := HK1.out; omega⟩, ⟨(by (with_reducible repeat (first | apply Kd.R_alloc | apply Kd.R_drewN | apply Kd.R_drew)); exact HO916.out)⟩, ⟨ax240⟩, ⟨ax239⟩⟩
      ·exact ax3
     ·rw [if_neg c8] at H
      have c8b0 := beq_eq_false_iff_ne.mpr c8; have c8b1 := bne_iff_ne.mpr c8; have H' := am H; clear H; have hcz12_0 := bc (.slice A0_0 l0_0.length c0_0) BK909 0; have hfz12_0 := blk_frozen BK909.out 0; have p913 : 0 ≤ (x6_1 : Int) := of_decide_eq_true ax26; have q913 : x6_1 < (l0_0.length : Int) := of_decide_eq_true ax26; obtain ⟨ad913, e913, hx913_0, hx913_1, hx913_2⟩ := at_T74 HR0_0.out x6_1 p913 q913
      cases e913
      replace hx913_0 := (HB.out.cell (World.block_lt_of_cell? w _ hx913_0)).trans hx913_0; replace hx913_1 := (HB.out.cell (World.block_lt_of_cell? w _ hx913_1)).trans hx913_1; replace hx913_2 := (HB.out.cell (World.block_lt_of_cell? w _ hx913_2)).trans hx913_2; replace p913 := eq_true p913; replace q913 := eq_true q913
      go_wp2
      go_roundg k1
      case measure => have := HK1.out; omega
      case rel => exact ⟨(x5_1), (wrap64 (x6_1 + 1)), ax31, H', ⟨by have := HK1.out; omega⟩, ⟨ax238⟩, ⟨ax240⟩, ⟨ax239⟩⟩
    ·exact ax4
   ·rw [if_neg c6] at H
    have c6b0 := decide_eq_false c6; clear c6; obtain rfl := Option.some.inj H; have hcz13_0 := bc (.slice A0_0 l0_0.length c0_0) BK909 0; have hfz13_0 := blk_frozen BK909.out 0
    go_wp2
    go_ret
    exact ⟨_, ax27, ax238, ax239⟩

end Go.Proofs.YtcplbbflfgckbaaGreatDoor.X


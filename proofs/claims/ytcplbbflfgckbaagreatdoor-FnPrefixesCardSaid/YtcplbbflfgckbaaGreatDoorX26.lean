-- By gen.py (the session's own program over the kit's printer): functions of the program, each with its contract. Lean checks it.
import Derived.Test.YtcplbbflfgckbaaGreatDoorX0
import Derived.Test.YtcplbbflfgckbaaGreatDoorX2
import Derived.Test.YtcplbbflfgckbaaGreatDoorX7
import Derived.Test.YtcplbbflfgckbaaGreatDoorX9
import Derived.Test.YtcplbbflfgckbaaGreatDoorX15
import Derived.Test.YtcplbbflfgckbaaGreatDoorX16
import Derived.Test.YtcplbbflfgckbaaGreatDoorX18
namespace Go.Proofs.YtcplbbflfgckbaaGreatDoor.X
open Go.RowKit Go.Proofs.YtcplbbflfgckbaaGreatDoorW.PrintWords Go.Proofs.YtcplbbflfgckbaaGreatDoorW.PrintLast Go.Proofs.YtcplbbflfgckbaaGreatDoorW.PrintMore
attribute [local go_sem] max2_int min2_int max_two min_two max_three min_three max_four min_four   -- for this text's walks alone
set_option linter.unusedVariables false
set_option linter.unusedSimpArgs false

/-! ### laws_vBig: function 9 -/
def laws_vBig.f (l0 : List Int) : Option (Bool) := some (decide ((l0.length : Int) > 65536))
set_option maxHeartbeats 8000000 in
set_option maxRecDepth 100000 in
theorem laws_vBig.calls (A0 : Option Addr) (c0 : Nat) (l0 : List Int) (r : Bool) (w : World) (hr0 : Kd.C (Kd.int .u8) w A0 l0.length l0) (hc0 : l0.length ≤ c0) (h : laws_vBig.f l0 = some r) :
  Calls Tryz.prog 9 #[.slice A0 l0.length c0] w fun e w' => e = .returned (.bool r) ∧ Drawn0 w w' := by
 have HR0 := Aside0.mk hr0; have HC0 := Aside0.mk hc0; clear hr0 hc0
 have H : (some (decide ((l0.length : Int) > 65536))) = some r := h
 clear h
 obtain rfl := Option.some.inj H
 go_enter Tryz.func9, Tryz.ntmps9
 go_wp2
 go_ret
 exact ⟨ax30, by repeat (first | exact Drawn0.refl _ | apply Drawn0.step)⟩

/-! ### spec_DrawUniquePrefix: function 10 -/
def spec_DrawUniquePrefix.f (k : Nat) (l0 : List Int) : Option ((List (S74)) × ByteArray) := (spec_l1Cur_trie.f k l0 0 0).bind fun bt385 => ((spec_l1Cur_wordOf.f k l0 bt385.2.1 bt385.2.2 bt385.1).bind fun bt391 => (some (bt385.1, bt391.1)))
theorem spec_DrawUniquePrefix.mono : ∀ a0 k, LeO (spec_DrawUniquePrefix.f k a0) (spec_DrawUniquePrefix.f (k + 1) a0) := by
 intro a0 k
 unfold spec_DrawUniquePrefix.f
 repeat' first | (with_reducible first | exact spec_l1Cur_trie.mono .. | exact spec_l1Cur_wordOf.mono .. | exact LeO.refl _ | exact LeO.none _ | refine LeO.ite ?_ ?_ | refine LeO.bind ?_ (fun _ => ?_)) | exact spec_l1Cur_trie.mono .. | exact spec_l1Cur_wordOf.mono .. | exact LeO.none _ | refine LeO.ite ?_ ?_ | refine LeO.bind ?_ (fun _ => ?_)
set_option maxHeartbeats 8000000 in
set_option maxRecDepth 100000 in
theorem spec_DrawUniquePrefix.calls (k : Nat) (A0 : Option Addr) (c0 : Nat) (l0 : List Int) (r1 : List (S74)) (r2 : ByteArray) (w : World) (hr0 : Kd.C (Kd.int .u8) w A0 l0.length l0) (hc0 : l0.length ≤ c0) (h : spec_DrawUniquePrefix.f k l0 = some (r1, r2)) :
  Calls Tryz.prog 10 #[.slice A0 l0.length c0] w fun e w' => ∃ v0_ : Value, e = .returned (.tuple #[.agg #[v0_], .string r2]) ∧ Kd.R k74 74 w' w.heap.size (fun _ => True) v0_ r1 ∧ Below w.heap.size w w' := by
 have hu26 := Tryz.underlying26; have hu82 := Tryz.underlying82; have HR0 := Aside0.mk hr0; have HC0 := Aside0.mk hc0; clear hr0 hc0; have HB := Aside0.mk (Below.refl w.heap.size w)
 have H : ((spec_l1Cur_trie.f k l0 0 0).bind fun bt385 => ((spec_l1Cur_wordOf.f k l0 bt385.2.1 bt385.2.2 bt385.1).bind fun bt391 => (some (bt385.1, bt391.1)))) = some (r1, r2) := h
 clear h
 obtain ⟨⟨t385, t388, t389⟩, A2, H⟩ := bs H
 obtain ⟨⟨t391, t392, t393⟩, A3, H⟩ := bs H
 simp only [Option.some.injEq, Prod.mk.injEq] at H
 obtain ⟨rfl, rfl⟩ := H
 go_enter Tryz.func10, Tryz.ntmps10
 try go_wp2_with (first | ((with_reducible refine gate_dst (N := 2) rfl ?_); refine box_event ?hg (N := 2) ?hd (cs := #[.slice none 0 0]) (t := 26) ?hr ?_; (case hd => rfl); (case hg => rfl); (case hr => exact ax31); intro gb383 hg w4 hbox hb; have BK383 := Aside0.mk (hbox); have GW383 := uG hg HB; have GE383 := uG hg HB; replace HB := uB HB hb; clear hb hbox hg) | ((with_reducible refine gate_dst (N := 8) rfl ?_); refine box_event ?hg (N := 8) ?hd (cs := #[.slice A0 l0.length c0, .int .i64 0, .int .u64 0]) (t := 82) ?hr ?_; (case hd => rfl); (case hg => rfl); (case hr => exact ax31); intro gb384 hg w5 hbox hb; have BK384 := Aside0.mk (hbox); have GW384 := Aside0.mk ((ax334 : w.heap.size ≤ gb384)); have GE384 := Aside0.mk ((ax334 : w.heap.size ≤ gb384)); have NB383_384 := uN hg BK383; have NB384_383 := uM hg BK383; replace BK383 := ub BK383 hb; have HI384 := Aside0.mk ((⟨_, _, hbox, ax334, HR0.out⟩ : IsS82 w w5 gb384 l0 0 0)); replace HB := Aside0.mk (below_step ax335 hb); clear hb hbox hg) | ((with_reducible refine gd 10 108 ?_); refine gc 10 Tryz.func108 #[.pointer (some ⟨gb384, 0, none⟩)] (spec_l1Cur_trie.calls k gb384 l0 0 0 t385 t388 t389 w _ ax336 ax337 A2.out) ?_; rintro e w6 ⟨v386, rfl, ho0, hi, hb, hk⟩; refine ⟨_, rfl, ?_⟩; replace BK383 := Aside0.mk (KeepBut.blk hk (g' := gb383) (o := .cells #[.slice none 0 0] 26 (0, 0)) ax338 NB383_384.out (by simp)); have HO387 := Aside0.mk (Kd.R_lower ho0 (below_size ax337)); replace HB := Aside0.mk (hb); replace HI384 := Aside0.mk (hi); (try clear hb); (try clear hb2); (try clear hk); (try clear hi); (try clear ho0)) | ((with_reducible refine gate_dst (N := 5) rfl ?_); refine box_event ?hg (N := 5) ?hd (cs := #[.slice none 0 0]) (t := 26) ?hr ?_; (case hd => rfl); (case hg => rfl); (case hr => exact ax31); intro gb390 hg w7 hbox hb; replace HO387 := uR HO387 hb; have BK390 := Aside0.mk (hbox); have GW390 := Aside0.mk ((ax339 : w.heap.size ≤ gb390)); have GE390 := Aside0.mk ((ax339 : w.heap.size ≤ gb390)); replace HB := Aside0.mk (below_step ax337 hb); have NB383_390 := uN hg BK383; have NB390_383 := uM hg BK383; replace BK383 := ub BK383 hb; have NB384_390 := Aside0.mk ((by rw [hg]; exact Nat.ne_of_lt (IsS82.lt (show IsS82 w _ gb384 l0 t388 t389 from by repeat (first | (with_reducible first | exact HI384.out | apply IsS82.alloc | apply IsS82.drewN | apply IsS82.drew | apply IsS82.set_1 | apply IsS82.set_2 | refine IsS82.far ?_ NB384_383.out _) | exact HI384.out))) : gb384 ≠ gb390)); have NB390_384 := Aside0.mk ((by rw [hg]; exact Nat.ne_of_gt (IsS82.lt (show IsS82 w _ gb384 l0 t388 t389 from by repeat (first | (with_reducible first | exact HI384.out | apply IsS82.alloc | apply IsS82.drewN | apply IsS82.drew | apply IsS82.set_1 | apply IsS82.set_2 | refine IsS82.far ?_ NB384_383.out _) | exact HI384.out))) : gb390 ≠ gb384)); replace HI384 := Aside0.mk (IsS82.below ax336 hb); clear hb hbox hg; obtain ⟨Ao8, co8, eo8⟩ := Kd.R_slice HO387.out; subst eo8; have hnb9 := NB390_383.out; have hnc9 := NB383_390.out; have hnb10 := NB390_384.out; have hnc10 := NB384_390.out; have hcz11_0 := bc (.slice none 0 0) BK390 0; have hfz11_0 := blk_frozen BK390.out 0))
 have n0_ : Aside0 (Kd.R k74 74 (w7.setCell ⟨gb390, 0, none⟩ (.slice Ao8 t385.length co8)) w.heap.size (fun _ => True) (.slice Ao8 t385.length co8) t385) := ⟨(by (with_reducible repeat (first | apply Kd.R_alloc | apply Kd.R_drewN | apply Kd.R_drew)); exact Kd.R_mono (Kd.R_far (p := ⟨gb390, 0, none⟩) (Kd.R_types HO387.out BK390.out (by decide)) (fun _ hk => hk.2) (.slice Ao8 t385.length co8)) (fun _ hk => trivial))⟩
 have n1_ : Aside0 ((w7.setCell ⟨gb390, 0, none⟩ (.slice Ao8 t385.length co8)).heap[gb383]? = some (.cells #[.slice none 0 0] 26 (0, 0))) := ⟨(by (with_reducible repeat (first | refine blk_drewN ?_ _ | refine blk_drew ?_ | refine blk_alloc ?_ _)); refine blk_far ?_ NB383_390.out _; (with_reducible repeat (first | refine blk_drewN ?_ _ | refine blk_drew ?_ | refine blk_alloc ?_ _)); exact BK383.out)⟩
 have n2_ : Aside0 ((w7.setCell ⟨gb390, 0, none⟩ (.slice Ao8 t385.length co8)).heap[gb390]? = some (.cells #[.slice Ao8 t385.length co8] 26 (0, 0))) := ⟨(by (with_reducible repeat (first | refine blk_drewN ?_ _ | refine blk_drew ?_ | refine blk_alloc ?_ _)); refine blk_put (cs := #[.slice none 0 0]) ?_ 0 _ rfl; (with_reducible repeat (first | refine blk_drewN ?_ _ | refine blk_drew ?_ | refine blk_alloc ?_ _)); exact BK390.out)⟩
 have n3_ : Aside0 (IsS82 w (w7.setCell ⟨gb390, 0, none⟩ (.slice Ao8 t385.length co8)) gb384 l0 t388 t389) := ⟨ax340⟩
 have n4_ : Aside0 (Below w.heap.size w (w7.setCell ⟨gb390, 0, none⟩ (.slice Ao8 t385.length co8))) := ⟨ax341⟩
 (try clear HO387); (try clear BK383); (try clear BK390); (try clear HI384); (try clear HB); generalize (w7.setCell ⟨gb390, 0, none⟩ (.slice Ao8 t385.length co8)) = w12 at n0_ n1_ n2_ n3_ n4_ ⊢; have HO387 := n0_; have BK383 := n1_; have BK390 := n2_; have HI384 := n3_; have HB := n4_; clear n0_ n1_ n2_ n3_ n4_; replace HO387 := Aside0.mk (Kd.R_drew HO387.out); replace BK383 := Aside0.mk (blk_drew BK383.out); replace BK390 := Aside0.mk (blk_drew BK390.out); replace HI384 := Aside0.mk (IsS82.drew HI384.out); replace HB := Aside0.mk (below_drew1 HB.out)
 refine start_ (n := 6) (S := fun w' => w'.cell? ⟨gb390, 0, none⟩ = some (.slice Ao8 t385.length co8)) (ds := []) (ob 6 0) (by kernel_rfl) rfl rfl ((blk_cell BK390.out 0).trans rfl) (fun hHeld => ?_)
 generalize w12.drew = w13 at HO387 BK383 BK390 HI384 HB hHeld ⊢
 refine pure_ (i := 1) (N := some 12) (v := ?_) (a' := ?_) (ob 6 2) rfl rfl (by kernel_rfl) (fun _ _ _ h => h) (Or.inl ⟨by rfl, ?_⟩) ?_ ?_; rotate_left; exact ax19; rotate_left; exact ax14
 refine take_ (i := 0) (N := some 11) (v := ?_) (a' := ?_) (ob 6 3) rfl rfl (by kernel_rfl) (fun _ _ _ h => h) (Or.inl ⟨by rfl, ?_⟩) hHeld ?_ ?_; rotate_left; exact ax13; rotate_left; exact ax14
 refine take_ (i := 2) (N := some 13) (v := ?_) (a' := ?_) (ob 6 7) rfl rfl (by kernel_rfl) (fun _ _ _ h => h) (Or.inl ⟨by rfl, ?_⟩) hHeld ?_ ?_; rotate_left; exact ax13; rotate_left; exact ax14
 refine one_ (i := 3) (N := some 14) (ob 6 15) rfl rfl (by kernel_rfl) (by decide) (fun K hK => ?_)
 refine goes_ Tryz.func109 (by kernel_rfl) rfl #[.pointer (some ⟨gb384, 0, none⟩), .agg #[.slice Ao8 t385.length co8]] (by rfl) rfl rfl ax40 ?_
 with_reducible refine (spec_l1Cur_wordOf.calls k gb384 l0 t388 t389 _ _ t385 t391 t392 t393 w _ ?side1 ?side2 ?side3 ?side4 A3.out).mono ?_
 (case side1 => exact ax340)
 (case side2 => exact ax341)
 (case side3 => exact Kd.C_foot_own (IsS82.apart (show IsS82 w _ gb384 l0 t388 t389 from by repeat (first | (with_reducible first | exact HI384.out | apply IsS82.alloc | apply IsS82.drewN | apply IsS82.drew | apply IsS82.set_1 | apply IsS82.set_2 | refine IsS82.far ?_ NB384_383.out _ | refine IsS82.far ?_ NB384_390.out _) | exact HI384.out)) ax342 (by decide)) (fun _ h_ => h_.2))
 (case side4 => exact (Kd.R_reads' HO387.out).2.1)
 rintro e w14 ⟨rfl, hi, hb, hk⟩
 refine ⟨_, rfl, ?_⟩
 replace BK383 := Aside0.mk (KeepBut.blk hk (g' := gb383) (o := .cells #[.slice none 0 0] 26 (0, 0)) ax338 NB383_384.out (by simp))
 replace HO387 := Aside0.mk (Kd.R_mono (Kd.R_keep (IsS82.apart (show IsS82 w _ gb384 l0 t388 t389 from by repeat (first | (with_reducible first | exact HI384.out | apply IsS82.alloc | apply IsS82.drewN | apply IsS82.drew | apply IsS82.set_1 | apply IsS82.set_2 | refine IsS82.far ?_ NB384_383.out _ | refine IsS82.far ?_ NB384_390.out _) | exact HI384.out)) ax342 (by decide)) hk (fun _ h => h.2)) (fun _ h => h.1))
 replace BK390 := Aside0.mk (KeepBut.blk hk (g' := gb390) (o := .cells #[.slice Ao8 t385.length co8] 26 (0, 0)) (by (with_reducible repeat (first | refine blk_drewN ?_ _ | refine blk_drew ?_ | refine blk_alloc ?_ _)); exact BK390.out) NB390_384.out (by simp))
 replace HB := Aside0.mk (hb); replace HI384 := Aside0.mk (hi); (try clear hb); (try clear hb2); (try clear hk); (try clear hi)
 refine hK.out _ _ ((blk_cell BK390.out 0).trans rfl) (fun hHeld => ?_)
 clear hK K
 refine nm 14 ?_
 refine one_ (i := 4) (N := none) (ob 6 31) rfl rfl (by kernel_rfl) (by decide) (fun K hK => ?_)
 have hs15 : w14.cell? ⟨gb383, 0, none⟩ = some (.slice none 0 0) := (blk_cell BK383.out 0).trans rfl
 have hfs15 := blk_frozen BK383.out 0; have hns15_1 := NB390_383.out; have hms15_1 := NB383_390.out
 refine skip_ (w1 := ?_) (by rfl) rfl ?_ ?_
 rotate_left
 ·go_simp
  rfl
 refine hK.out _ _ (((cell_far (p := ⟨gb383, _, none⟩) NB390_383.out _).trans (hHeld))) (fun hHeld => ?_)
 clear hK K
 refine pure_ (i := 5) (N := some 3) (v := ?_) (a' := ?_) (ob 6 63) rfl rfl (by kernel_rfl) (fun _ _ _ h => h) (Or.inl ⟨by rfl, ?_⟩) ?_ ?_; rotate_left; exact ax19; rotate_left; exact ax14
 refine done_ (by kernel_rfl) ?_
 try go_wp2
 refine bodyPost_ret (results_ct rfl _ _ gb383 26 #[.slice Ao8 t385.length co8] (0, 0) _ rfl (by (with_reducible repeat (first | refine blk_drewN ?_ _ | refine blk_drew ?_ | refine blk_alloc ?_ _)); refine blk_put (cs := #[.slice none 0 0]) ?_ 0 _ rfl; (with_reducible repeat (first | refine blk_drewN ?_ _ | refine blk_drew ?_ | refine blk_alloc ?_ _)); exact BK383.out) Tryz.underlying26 rfl (by kernel_rfl)) rfl ?_
 exact ⟨_, by first | rfl | (simp [errW_none, errW_some] <;> rfl) | (simp [*, errW_none, errW_some] <;> rfl), by (with_reducible repeat (first | apply Kd.R_alloc | apply Kd.R_drewN | apply Kd.R_drew)); exact Kd.R_mono (Kd.R_far (p := ⟨gb383, 0, none⟩) (Kd.R_types HO387.out BK383.out (by decide)) (fun _ hk => hk.2) (.slice Ao8 t385.length co8)) (fun _ hk => trivial), by repeat (first | (with_reducible first | exact HB.out | apply below_alloc | apply pw_below_drewN | apply below_drew1 | refine below_set ?_ (IsS82.ge HI384.out) | refine below_set ?_ GE383.out | refine below_set ?_ GE390.out) | exact HB.out)⟩

/-! ### impl_UniquePrefix: function 11 -/
mutual
def impl_UniquePrefix.j0 : Nat → ByteArray → Bool → List (S74) → Option (ByteArray × Bool)
 | 0, _, _, _ => none
 | k + 1, x1, x16, x502000 => if x16 = true then (some ((⟨#[]⟩ : ByteArray), false)) else (impl_UniquePrefix.l0 k x1 (x1.size : Int) 0 x502000)
def impl_UniquePrefix.l0 : Nat → ByteArray → Int → Int → List (S74) → Option (ByteArray × Bool)
 | 0, _, _, _, _ => none
 | k + 1, x1, x18, x19, x502000 => if x19 < x18 then (if 0 ≤ x19 then (if x19 ≤ (x1.size : Int) then ((impl_Trie_under.f k x502000 (x1.extract 0 (x19 : Int).toNat)).bind fun t504 => (if (t504.length : Int) = 1 then (some (x1.extract 0 (x19 : Int).toNat, true)) else (impl_UniquePrefix.l0 k x1 x18 (wrap64 (x19 + 1)) x502000))) else (none)) else (none)) else (some (x1, true))
end
def impl_UniquePrefix.f (k : Nat) (l0_0 : List (S74)) (a1 : ByteArray) : Option (ByteArray × Bool) := (impl_areKept.f k l0_0 a1).bind fun t502 => (if t502 = true then ((impl_Trie_has.f k l0_0 a1).bind fun t503 => (impl_UniquePrefix.j0 k a1 (!t503) l0_0)) else (impl_UniquePrefix.j0 k a1 true l0_0))
theorem impl_UniquePrefix.mono_l : ∀ k, (∀ y0 y1 y2, LeO (impl_UniquePrefix.j0 k y0 y1 y2) (impl_UniquePrefix.j0 (k + 1) y0 y1 y2)) ∧ (∀ y0 y1 y2 y3, LeO (impl_UniquePrefix.l0 k y0 y1 y2 y3) (impl_UniquePrefix.l0 (k + 1) y0 y1 y2 y3))
 | 0 => ⟨fun _ _ _ r h => by simp [impl_UniquePrefix.j0] at h, fun _ _ _ _ r h => by simp [impl_UniquePrefix.l0] at h⟩
 | k + 1 => by
  obtain ⟨ih0, ih1⟩ := impl_UniquePrefix.mono_l k
  refine ⟨?_, ?_⟩ <;> intros
  all_goals (first | unfold impl_UniquePrefix.j0 | unfold impl_UniquePrefix.l0)
  all_goals (repeat' first | (with_reducible first | exact ih0 .. | exact ih1 .. | exact impl_Trie_has.mono .. | exact impl_Trie_under.mono .. | exact impl_areKept.mono .. | exact LeO.refl _ | exact LeO.none _ | refine LeO.ite ?_ ?_ | refine LeO.bind ?_ (fun _ => ?_)) | exact ih0 .. | exact ih1 .. | exact impl_Trie_has.mono .. | exact impl_Trie_under.mono .. | exact impl_areKept.mono .. | exact LeO.none _ | refine LeO.ite ?_ ?_ | refine LeO.bind ?_ (fun _ => ?_))
theorem impl_UniquePrefix.mono : ∀ a0 a1 k, LeO (impl_UniquePrefix.f k a0 a1) (impl_UniquePrefix.f (k + 1) a0 a1) := by
 intro a0 a1 k
 obtain ⟨ih0, ih1⟩ := impl_UniquePrefix.mono_l k
 unfold impl_UniquePrefix.f
 repeat' first | (with_reducible first | exact ih0 .. | exact ih1 .. | exact impl_Trie_has.mono .. | exact impl_Trie_under.mono .. | exact impl_areKept.mono .. | exact LeO.refl _ | exact LeO.none _ | refine LeO.ite ?_ ?_ | refine LeO.bind ?_ (fun _ => ?_)) | exact ih0 .. | exact ih1 .. | exact impl_Trie_has.mono .. | exact impl_Trie_under.mono .. | exact impl_areKept.mono .. | exact LeO.none _ | refine LeO.ite ?_ ?_ | refine LeO.bind ?_ (fun _ => ?_)
set_option maxHeartbeats 8000000 in
set_option maxRecDepth 100000 in
theorem impl_UniquePrefix.calls (k : Nat) (A0_0 : Option Addr) (c0_0 : Nat) (l0_0 : List (S74)) (a1 : ByteArray) (r1 : ByteArray) (r2 : Bool) (w : World) (hr0_0 : Kd.C k74 w A0_0 l0_0.length l0_0) (hc0_0 : l0_0.length ≤ c0_0) (h : impl_UniquePrefix.f k l0_0 a1 = some (r1, r2)) :
  Calls Tryz.prog 11 #[.agg #[.slice A0_0 l0_0.length c0_0], .string a1] w fun e w' => e = .returned (.tuple #[.string r1, .bool r2]) ∧ Below w.heap.size w w' := by
 have hu26 := Tryz.underlying26; have HR0_0 := Aside0.mk hr0_0; have HC0_0 := Aside0.mk hc0_0; clear hr0_0 hc0_0; have HB := Aside0.mk (Below.refl w.heap.size w)
 have H : ((impl_areKept.f k l0_0 a1).bind fun t502 => (if t502 = true then ((impl_Trie_has.f k l0_0 a1).bind fun t503 => (impl_UniquePrefix.j0 k a1 (!t503) l0_0)) else (impl_UniquePrefix.j0 k a1 true l0_0))) = some (r1, r2) := h
 clear h; have HC3 := Aside0.mk H; clear H
 go_enter Tryz.func11, Tryz.ntmps11
 go_upto_region 1 with (first | ((with_reducible refine gate_dst (N := 2) rfl ?_); refine box_event ?hg (N := 2) ?hd (cs := #[.slice A0_0 l0_0.length c0_0]) (t := 26) ?hr ?_; (case hd => rfl); (case hg => rfl); (case hr => exact ax31); intro gb501 hg w4 hbox hb; have BK501 := Aside0.mk (hbox); have GW501 := uG hg HB; have GE501 := uG hg HB; replace HB := uB HB hb; clear hb hbox hg))
 (try simp only [Act.put, List.setIfInBounds_toArray, List.set_cons_zero, List.set_cons_succ])
 go_cut [16] (fun v16 wc => ∃ (kq : Nat) (x16_2 : Bool), v16 = .bool x16_2 ∧ Aside0 (impl_UniquePrefix.j0 kq a1 x16_2 l0_0 = some (r1, r2)) ∧ Aside0 (kq ≤ k) ∧ Aside0 (wc.heap[gb501]? = some (.cells #[(.slice A0_0 l0_0.length c0_0)] 26 (0, 0))) ∧ Aside0 (Below w.heap.size w wc))
 case first =>
  have H := HC3.out; clear HC3
  obtain ⟨t502, A5, H⟩ := bs H
  by_cases c6 : t502 = true
  ·subst c6
   rw [if_pos rfl] at H
   obtain ⟨t503, A7, H⟩ := bs H
   have H' := Aside0.mk H
   clear H; have hcz8_0 := bc (.slice A0_0 l0_0.length c0_0) BK501 0; have hfz8_0 := blk_frozen BK501.out 0
   go_wp2_with (first | ((with_reducible refine gd 9 110 ?_); refine gc 9 Tryz.func110 #[.agg #[.slice A0_0 l0_0.length c0_0], .string a1] (impl_areKept.calls k _ _ l0_0 a1 true _ ax142 (HC0_0.out) A5.out) ?_; rintro e w9 ⟨rfl, hb⟩; refine ⟨_, rfl, ?_⟩; replace BK501 := ub BK501 hb; replace HB := Aside0.mk (below_step ax343 hb); (try clear hb); (try clear hb2); (try clear hk); (try clear hi); have hcz10_0 := bc (.slice A0_0 l0_0.length c0_0) BK501 0; have hfz10_0 := blk_frozen BK501.out 0) | (go_at_call 111; (with_reducible refine (impl_Trie_has.calls k _ _ l0_0 a1 t503 _ ?side1 ?side2 A7.out).mono ?_); (case side1 => exact ax142); (case side2 => exact ax157); rintro e w11 ⟨rfl, hb⟩; replace BK501 := ub BK501 hb; replace HB := Aside0.mk (below_step ax343 hb); (try clear hb); (try clear hb2); (try clear hk); (try clear hi)))
   go_meet
   case rel => exact ⟨_, (!t503), ax30, H', ⟨by first | omega | exact Nat.le_refl _⟩, ⟨ax344⟩, ⟨ax343⟩⟩
  ·replace c6 := Bool.eq_false_iff.mpr c6
   subst c6
   rw [if_neg (show ¬ (false = true) by decide)] at H
   have H' := Aside0.mk H
   clear H; have hcz12_0 := bc (.slice A0_0 l0_0.length c0_0) BK501 0; have hfz12_0 := blk_frozen BK501.out 0
   go_wp2_with (first | ((with_reducible refine gd 9 110 ?_); refine gc 9 Tryz.func110 #[.agg #[.slice A0_0 l0_0.length c0_0], .string a1] (impl_areKept.calls k _ _ l0_0 a1 false _ ax142 (HC0_0.out) A5.out) ?_; rintro e w13 ⟨rfl, hb⟩; refine ⟨_, rfl, ?_⟩; replace BK501 := ub BK501 hb; replace HB := Aside0.mk (below_step ax343 hb); (try clear hb); (try clear hb2); (try clear hk); (try clear hi)))
   go_meet
   case rel => exact ⟨_, (true), ax30, H', ⟨by first | omega | exact Nat.le_refl _⟩, ⟨ax344⟩, ⟨ax343⟩⟩
 case rest =>
  clear HC3
  obtain ⟨kq, x16_2, rfl, HA, HJ2, BK501, HB⟩ := hcut
  cases kq with
  | zero => exact absurd HA.out (by simp [impl_UniquePrefix.j0])
  | succ kj2 =>
   have H := HA.out; clear HA
   simp only [impl_UniquePrefix.j0] at H
   by_cases c14 : x16_2 = true
   ·subst c14
    rw [if_pos rfl] at H
    simp only [Option.some.injEq, Prod.mk.injEq] at H
    obtain ⟨rfl, rfl⟩ := H
    go_wp2
    go_ret2
    exact ⟨ax26, by repeat (first | (with_reducible first | exact HB.out | apply below_alloc | apply pw_below_drewN | apply below_drew1 | refine below_set ?_ GE501.out) | exact HB.out)⟩
   ·replace c14 := Bool.eq_false_iff.mpr c14
    subst c14
    rw [if_neg (show ¬ (false = true) by decide)] at H
    have H' := Aside0.mk H
    clear H
    go_wp2
    go_loopg [19] kj2 (fun kq v19 w' => ∃ (x19_2 : Int), v19 = .int .i64 x19_2 ∧ Aside0 (impl_UniquePrefix.l0 kq a1 (a1.size : Int) x19_2 l0_0 = some (r1, r2)) ∧ Aside0 (kq ≤ kj2) ∧ Aside0 (w'.heap[gb501]? = some (.cells #[(.slice A0_0 l0_0.length c0_0)] 26 (0, 0))) ∧ Aside0 (Below w.heap.size w w'))
    case atStart => exact ⟨(0), ax30, H', ⟨Nat.le_refl _⟩, ⟨ax344⟩, ⟨ax343⟩⟩
    case round =>
     clear H'
     (try clear c14)
     obtain ⟨x19_2, rfl, HA, HK2, BK501, HB⟩ := hrel
     cases gk with
     | zero => exact absurd HA.out (by simp [impl_UniquePrefix.l0])
     | succ k2 =>
      have H := HA.out; clear HA
      simp only [impl_UniquePrefix.l0] at H
      by_cases c15 : x19_2 < (a1.size : Int)
      ·rw [if_pos c15] at H
       have c15b0 : decide (x19_2 < (a1.size : Int)) = true := decide_eq_true c15
       clear c15
       by_cases c16 : 0 ≤ x19_2
       ·rw [if_pos c16] at H
        have c16b0 := eq_true c16
        have c16b1 : decide (0 ≤ x19_2) = true := decide_eq_true c16
        clear c16
        by_cases c17 : x19_2 ≤ (a1.size : Int)
        ·rw [if_pos c17] at H
         have c17b0 := eq_true c17
         have c17b1 : decide (x19_2 ≤ (a1.size : Int)) = true := decide_eq_true c17
         clear c17
         obtain ⟨js18, hjs18⟩ : ∃ j_ : ByteArray, (a1.extract 0 (x19_2 : Int).toNat) = j_ := ⟨_, rfl⟩
         replace H : ((impl_Trie_under.f k2 l0_0 js18).bind fun t504 => (if (t504.length : Int) = 1 then (some (js18, true)) else (impl_UniquePrefix.l0 k2 a1 (a1.size : Int) (wrap64 (x19_2 + 1)) l0_0))) = some (r1, r2) := by first | (rw [hjs18] at H; exact H) | (simp only [hjs18] at H ⊢; exact H)
         obtain ⟨t504, A19, H⟩ := bs H
         by_cases c20 : (t504.length : Int) = 1
         ·rw [if_pos c20] at H
          have c20b0 : ((t504.length : Int) == 1) = true := beq_iff_eq.mpr c20
          have c20b1 : ((t504.length : Int) != 1) = false := bne_eq_false_iff_eq.mpr c20
          clear c20; have c21b0 := eq_true (of_decide_eq_true ax25 : 0 ≤ x19_2); have c22b0 := eq_true (of_decide_eq_true ax25 : x19_2 ≤ (a1.size : Int))
          simp only [Option.some.injEq, Prod.mk.injEq] at H
          obtain ⟨rfl, rfl⟩ := H
          try go_wp2
          replace BK501 := Aside0.mk (blk_drew BK501.out); replace HB := Aside0.mk (below_drew1 HB.out)
          refine start_ (n := 7) (S := fun w' => w'.cell? ⟨gb501, 0, none⟩ = some (.slice A0_0 l0_0.length c0_0)) (ds := []) (ob 7 0) (by kernel_rfl) rfl rfl ((blk_cell BK501.out 0).trans rfl) (fun hHeld => ?_)
          generalize wr.drew = w23 at BK501 HB hHeld ⊢
          refine pure_ (i := 1) (N := some 23) (v := ?_) (a' := ?_) (ob 7 2) rfl rfl (by kernel_rfl) (fun _ _ _ h => h) (Or.inl ⟨by rfl, ?_⟩) ?_ ?_; rotate_left; exact ax19; rotate_left; exact ax14
          refine pure_ (i := 2) (N := some 24) (v := ?_) (a' := ?_) (ob 7 6) rfl rfl (by kernel_rfl) (fun _ _ _ h => h) (Or.inl ⟨by rfl, ?_⟩) ?_ ?_; rotate_left; exact ax19; rotate_left; exact ax14
          refine pure_ (i := 3) (N := some 25) (v := ?_) (a' := ?_) (ob 7 14) rfl rfl (by kernel_rfl) (fun _ _ _ h => h) (Or.inl ⟨by rfl, ?_⟩) ?_ ?_; rotate_left; exact ax19; rotate_left; exact ax14
          refine take_ (i := 0) (N := some 22) (v := ?_) (a' := ?_) (ob 7 15) rfl rfl (by kernel_rfl) (fun _ _ _ h => h) (Or.inl ⟨by rfl, ?_⟩) hHeld ?_ ?_; rotate_left; exact ax13; rotate_left; exact ax14
          refine one_ (i := 4) (N := some 26) (ob 7 31) rfl rfl (by kernel_rfl) (by decide) (fun K hK => ?_)
          refine goes_ Tryz.func112 (by kernel_rfl) rfl #[.agg #[.slice A0_0 l0_0.length c0_0], .string js18] (by rfl) rfl rfl ax40 ?_
          with_reducible refine (impl_Trie_under.calls k2 _ _ l0_0 js18 t504 _ ?side1 ?side2 A19.out).mono ?_
          (case side1 => exact ax142)
          (case side2 => exact ax157)
          rintro e w24 ⟨v505, rfl, ho0, hb⟩
          refine ⟨_, rfl, ?_⟩
          have HO506 := Aside0.mk (Kd.R_lower ho0 (below_size ax343)); replace BK501 := ub BK501 hb; replace HB := Aside0.mk (below_step ax343 hb); (try clear hb); (try clear hb2); (try clear hk); (try clear hi); (try clear ho0)
          obtain ⟨Ao25, co25, eo25⟩ := Kd.R_slice HO506.out
          (first | subst eo25 | (injection eo25 with f1_ f2_ f3_; have f4_ := f1_.symm; have f5_ := f3_.symm; clear f1_ f2_ f3_; subst f4_; subst f5_))
          refine hK.out _ _ ((blk_cell BK501.out 0).trans rfl) (fun hHeld => ?_)
          clear hK K
          refine nm 26 ?_
          refine pure_ (i := 5) (N := some 27) (v := ?_) (a' := ?_) (ob 7 63) rfl rfl (by kernel_rfl) (fun _ _ _ h => h) (Or.inl ⟨by rfl, ?_⟩) ?_ ?_; rotate_left; exact ax19; rotate_left; exact ax14
          refine pure_ (i := 6) (N := some 28) (v := ?_) (a' := ?_) (ob 7 127) rfl rfl (by kernel_rfl) (fun _ _ _ h => h) (Or.inl ⟨by rfl, ?_⟩) ?_ ?_; rotate_left; exact ax19; rotate_left; exact ax14
          refine done_ (by kernel_rfl) ?_
          try go_wp2
          go_ret2
          exact ⟨(by first | rfl | (simp [errW_none, errW_some] <;> rfl) | (simp only [← hjs18]; first | rfl | (simp [errW_none, errW_some] <;> rfl)) | (simp [*, errW_none, errW_some] <;> rfl)), by repeat (first | (with_reducible first | exact HB.out | apply below_alloc | apply pw_below_drewN | apply below_drew1 | refine below_set ?_ GE501.out) | exact HB.out)⟩
         ·rw [if_neg c20] at H
          have c20b0 : ((t504.length : Int) == 1) = false := beq_eq_false_iff_ne.mpr c20
          have c20b1 : ((t504.length : Int) != 1) = true := bne_iff_ne.mpr c20
          have H' := Aside0.mk H
          clear H
          try go_wp2
          replace BK501 := Aside0.mk (blk_drew BK501.out); replace HB := Aside0.mk (below_drew1 HB.out)
          refine start_ (n := 7) (S := fun w' => w'.cell? ⟨gb501, 0, none⟩ = some (.slice A0_0 l0_0.length c0_0)) (ds := []) (ob 7 0) (by kernel_rfl) rfl rfl ((blk_cell BK501.out 0).trans rfl) (fun hHeld => ?_)
          generalize wr.drew = w26 at BK501 HB hHeld ⊢
          refine pure_ (i := 1) (N := some 23) (v := ?_) (a' := ?_) (ob 7 2) rfl rfl (by kernel_rfl) (fun _ _ _ h => h) (Or.inl ⟨by rfl, ?_⟩) ?_ ?_; rotate_left; exact ax19; rotate_left; exact ax14
          refine pure_ (i := 2) (N := some 24) (v := ?_) (a' := ?_) (ob 7 6) rfl rfl (by kernel_rfl) (fun _ _ _ h => h) (Or.inl ⟨by rfl, ?_⟩) ?_ ?_; rotate_left; exact ax19; rotate_left; exact ax14
          refine pure_ (i := 3) (N := some 25) (v := ?_) (a' := ?_) (ob 7 14) rfl rfl (by kernel_rfl) (fun _ _ _ h => h) (Or.inl ⟨by rfl, ?_⟩) ?_ ?_; rotate_left; exact ax19; rotate_left; exact ax14
          refine take_ (i := 0) (N := some 22) (v := ?_) (a' := ?_) (ob 7 15) rfl rfl (by kernel_rfl) (fun _ _ _ h => h) (Or.inl ⟨by rfl, ?_⟩) hHeld ?_ ?_; rotate_left; exact ax13; rotate_left; exact ax14
          refine one_ (i := 4) (N := some 26) (ob 7 31) rfl rfl (by kernel_rfl) (by decide) (fun K hK => ?_)
          refine goes_ Tryz.func112 (by kernel_rfl) rfl #[.agg #[.slice A0_0 l0_0.length c0_0], .string js18] (by rfl) rfl rfl ax40 ?_
          with_reducible refine (impl_Trie_under.calls k2 _ _ l0_0 js18 t504 _ ?side1 ?side2 A19.out).mono ?_
          (case side1 => exact ax142)
          (case side2 => exact ax157)
          rintro e w27 ⟨v505, rfl, ho0, hb⟩
          refine ⟨_, rfl, ?_⟩
          have HO506 := Aside0.mk (Kd.R_lower ho0 (below_size ax343)); replace BK501 := ub BK501 hb; replace HB := Aside0.mk (below_step ax343 hb); (try clear hb); (try clear hb2); (try clear hk); (try clear hi); (try clear ho0)
          obtain ⟨Ao28, co28, eo28⟩ := Kd.R_slice HO506.out
          (first | subst eo28 | (injection eo28 with f1_ f2_ f3_; have f4_ := f1_.symm; have f5_ := f3_.symm; clear f1_ f2_ f3_; subst f4_; subst f5_))
          refine hK.out _ _ ((blk_cell BK501.out 0).trans rfl) (fun hHeld => ?_)
          clear hK K
          refine nm 26 ?_
          refine pure_ (i := 5) (N := some 27) (v := ?_) (a' := ?_) (ob 7 63) rfl rfl (by kernel_rfl) (fun _ _ _ h => h) (Or.inl ⟨by rfl, ?_⟩) ?_ ?_; rotate_left; exact ax19; rotate_left; exact ax14
          refine pure_ (i := 6) (N := some 28) (v := ?_) (a' := ?_) (ob 7 127) rfl rfl (by kernel_rfl) (fun _ _ _ h => h) (Or.inl ⟨by rfl, ?_⟩) ?_ ?_; rotate_left; exact ax19; rotate_left; exact ax14
          refine done_ (by kernel_rfl) ?_
          try go_wp2
          go_roundg k2
          case measure => have := HJ2.out; have := HK2.out; omega
          case rel => exact ⟨(wrap64 (x19_2 + 1)), ax30, H', ⟨ax279⟩, ⟨ax344⟩, ⟨ax343⟩⟩
        ·exact ax20
       ·exact ax23
      ·rw [if_neg c15] at H
       have c15b0 : decide (x19_2 < (a1.size : Int)) = false := decide_eq_false c15
       clear c15
       simp only [Option.some.injEq, Prod.mk.injEq] at H
       obtain ⟨rfl, rfl⟩ := H
       go_wp2
       go_ret2
       exact ⟨ax26, by repeat (first | (with_reducible first | exact HB.out | apply below_alloc | apply pw_below_drewN | apply below_drew1 | refine below_set ?_ GE501.out) | exact HB.out)⟩

end Go.Proofs.YtcplbbflfgckbaaGreatDoor.X


-- By gen.py (the session's own program over the kit's printer): functions of the program, each with its contract. Lean checks it.
import Derived.Test.YtnjjchbhbicmoaaDoorX0
import Derived.Test.YtnjjchbhbicmoaaDoorX4
import Derived.Test.YtnjjchbhbicmoaaDoorX6
import Derived.Test.YtnjjchbhbicmoaaDoorX8
import Derived.Test.YtnjjchbhbicmoaaDoorX10
import Derived.Test.YtnjjchbhbicmoaaDoorX11
import Derived.Test.YtnjjchbhbicmoaaDoorX12
import Derived.Test.YtnjjchbhbicmoaaDoorX13
namespace Go.Proofs.YtnjjchbhbicmoaaDoor.X
open Go.RowKit Go.Proofs.YtnjjchbhbicmoaaDoorW.PrintWords Go.Proofs.YtnjjchbhbicmoaaDoorW.PrintLast Go.Proofs.YtnjjchbhbicmoaaDoorW.PrintMore
attribute [local go_sem] max2_int min2_int max_two min_two max_three min_three max_four min_four   -- for this text's walks alone
set_option linter.unusedVariables false
set_option linter.unusedSimpArgs false

/-! ### spec_DrawCrashLog: function 29 -/
def spec_DrawCrashLog.f (k : Nat) (l0 : List Int) : Option (ByteArray × ByteArray × Int × Int × Bool) := (spec_l1Cur_anyLog.f k l0 0 0).bind fun bt522 => ((spec_l1Cur_pick.f l0 bt522.2.2.2.1 bt522.2.2.2.2 (wrap64 ((bt522.2.1.size : Int) + 3))).bind fun bt528 => ((spec_l1Cur_one.f l0 bt528.2.1 bt528.2.2 2).bind fun bt531 => (some (bt522.1, bt522.2.1, bt522.2.2.1, wrap64 (bt528.1 - 1), bt531.1))))
theorem spec_DrawCrashLog.mono : ∀ a0 k, LeO (spec_DrawCrashLog.f k a0) (spec_DrawCrashLog.f (k + 1) a0) := by
 intro a0 k
 unfold spec_DrawCrashLog.f
 repeat' first | (with_reducible first | exact spec_l1Cur_anyLog.mono .. | exact LeO.refl _ | exact LeO.none _ | refine LeO.ite ?_ ?_ | refine LeO.bind ?_ (fun _ => ?_)) | exact spec_l1Cur_anyLog.mono .. | exact LeO.none _ | refine LeO.ite ?_ ?_ | refine LeO.bind ?_ (fun _ => ?_)
set_option maxHeartbeats 8000000 in
set_option maxRecDepth 100000 in
theorem spec_DrawCrashLog.calls (k : Nat) (A0 : Option Addr) (c0 : Nat) (l0 : List Int) (r1 : ByteArray) (r2 : ByteArray) (r3 : Int) (r4 : Int) (r5 : Bool) (w : World) (hr0 : Kd.C (Kd.int .u8) w A0 l0.length l0) (hc0 : l0.length ≤ c0) (h : spec_DrawCrashLog.f k l0 = some (r1, r2, r3, r4, r5)) :
  Calls Tryd.prog 29 #[.slice A0 l0.length c0] w fun e w' => e = .returned (.tuple #[.agg #[.string r1, .string r2, .int .i64 r3], .int .i64 r4, .bool r5]) ∧ Below w.heap.size w w' := by
 have hu27 := Tryd.underlying27; have hu60 := Tryd.underlying60; have HR0 := Aside0.mk hr0; have HC0 := Aside0.mk hc0; clear hr0 hc0; have HB := Aside0.mk (Below.refl w.heap.size w)
 have H : ((spec_l1Cur_anyLog.f k l0 0 0).bind fun bt522 => ((spec_l1Cur_pick.f l0 bt522.2.2.2.1 bt522.2.2.2.2 (wrap64 ((bt522.2.1.size : Int) + 3))).bind fun bt528 => ((spec_l1Cur_one.f l0 bt528.2.1 bt528.2.2 2).bind fun bt531 => (some (bt522.1, bt522.2.1, bt522.2.2.1, wrap64 (bt528.1 - 1), bt531.1))))) = some (r1, r2, r3, r4, r5) := h
 clear h
 obtain ⟨⟨t522, t523, t524, t525, t526⟩, A2, H⟩ := bs H
 obtain ⟨⟨t528, t529, t530⟩, A3, H⟩ := bs H
 obtain ⟨⟨t531, t532, t533⟩, A4, H⟩ := bs H
 simp only [Option.some.injEq, Prod.mk.injEq] at H
 obtain ⟨rfl, rfl, rfl, rfl, rfl⟩ := H
 go_enter Tryd.func29, Tryd.ntmps29
 try go_wp2_with (first | ((with_reducible refine gate_dst (N := 2) rfl ?_); refine box_event ?hg (N := 2) ?hd (cs := #[.string (⟨#[]⟩ : ByteArray), .string (⟨#[]⟩ : ByteArray), .int .i64 0]) (t := 27) ?hr ?_; (case hd => rfl); (case hg => rfl); (case hr => exact ax9); intro gb520 hg w5 hbox hb; have BK520 := Aside0.mk (hbox); have GW520 := uG hg HB; have GE520 := uG hg HB; replace HB := uB HB hb; clear hb hbox hg) | ((with_reducible refine gate_dst (N := 10) rfl ?_); refine box_event ?hg (N := 10) ?hd (cs := #[.slice A0 l0.length c0, .int .i64 0, .int .u64 0]) (t := 60) ?hr ?_; (case hd => rfl); (case hg => rfl); (case hr => exact ax9); intro gb521 hg w6 hbox hb; have BK521 := Aside0.mk (hbox); have GW521 := Aside0.mk ((ax120 : w.heap.size ≤ gb521)); have GE521 := Aside0.mk ((ax120 : w.heap.size ≤ gb521)); have NB520_521 := uN hg BK520; have NB521_520 := uM hg BK520; replace BK520 := ub BK520 hb; have HI521 := Aside0.mk ((⟨_, _, hbox, ax120, HR0.out⟩ : IsS60 w w6 gb521 l0 0 0)); replace HB := Aside0.mk (below_step ax121 hb); clear hb hbox hg) | (refine gd 12 42 ?_; refine gc 12 Tryd.func42 #[.pointer (some ⟨gb521, 0, none⟩)] (spec_l1Cur_anyLog.calls k gb521 l0 0 0 t522 t523 t524 t525 t526 w _ ax122 ax123 A2.out) ?_; rintro e w7 ⟨rfl, hi, hb, hk⟩; refine ⟨_, rfl, ?_⟩; replace BK520 := Aside0.mk (KeepBut.blk hk (g' := gb520) (o := .cells #[.string (⟨#[]⟩ : ByteArray), .string (⟨#[]⟩ : ByteArray), .int .i64 0] 27 (0, 0)) ax124 NB520_521.out (by simp)); replace HB := Aside0.mk (hb); replace HI521 := Aside0.mk (hi); (try clear hb); (try clear hb2); (try clear hk); (try clear hi)) | ((with_reducible refine gate_dst (N := 6) rfl ?_); refine box_event ?hg (N := 6) ?hd (cs := #[.string (⟨#[]⟩ : ByteArray), .string (⟨#[]⟩ : ByteArray), .int .i64 0]) (t := 27) ?hr ?_; (case hd => rfl); (case hg => rfl); (case hr => exact ax9); intro gb527 hg w8 hbox hb; have BK527 := Aside0.mk (hbox); have GW527 := Aside0.mk ((ax125 : w.heap.size ≤ gb527)); have GE527 := Aside0.mk ((ax125 : w.heap.size ≤ gb527)); replace HB := Aside0.mk (below_step ax123 hb); have NB520_527 := uN hg BK520; have NB527_520 := uM hg BK520; replace BK520 := ub BK520 hb; have NB521_527 := Aside0.mk ((by rw [hg]; exact Nat.ne_of_lt (IsS60.lt (show IsS60 w _ gb521 l0 t525 t526 from by repeat (first | (with_reducible first | exact HI521.out | apply IsS60.alloc | apply IsS60.drewN | apply IsS60.drew | apply IsS60.set_1 | apply IsS60.set_2 | refine IsS60.far ?_ NB521_520.out _) | exact HI521.out))) : gb521 ≠ gb527)); have NB527_521 := Aside0.mk ((by rw [hg]; exact Nat.ne_of_gt (IsS60.lt (show IsS60 w _ gb521 l0 t525 t526 from by repeat (first | (with_reducible first | exact HI521.out | apply IsS60.alloc | apply IsS60.drewN | apply IsS60.drew | apply IsS60.set_1 | apply IsS60.set_2 | refine IsS60.far ?_ NB521_520.out _) | exact HI521.out))) : gb527 ≠ gb521)); replace HI521 := Aside0.mk (IsS60.below ax122 hb); clear hb hbox hg; have hnb9 := NB527_520.out; have hnc9 := NB520_527.out; have hnb10 := NB527_521.out; have hnc10 := NB521_527.out; have hcz11_0 := bc (.string (⟨#[]⟩ : ByteArray)) BK527 0; have hcz11_1 := bc (.string (⟨#[]⟩ : ByteArray)) BK527 1; have hcz11_2 := bc (.int .i64 0) BK527 2; have hfz11_0 := blk_frozen BK527.out 0; have hfz11_1 := blk_frozen BK527.out 1; have hfz11_2 := blk_frozen BK527.out 2) | (refine gd 18 44 ?_; refine gc 18 Tryd.func44 #[.pointer (some ⟨gb521, 0, none⟩), .int .i64 (wrap64 ((t523.size : Int) + 3))] (spec_l1Cur_pick.calls gb521 l0 t525 t526 (wrap64 ((t523.size : Int) + 3)) t528 t529 t530 w _ ax126 ax127 A3.out) ?_; rintro e w12 ⟨rfl, hi, hb, hk⟩; refine ⟨_, rfl, ?_⟩; replace BK520 := Aside0.mk (KeepBut.blk hk (g' := gb520) (o := .cells #[.string (⟨#[]⟩ : ByteArray), .string (⟨#[]⟩ : ByteArray), .int .i64 0] 27 (0, 0)) (by (with_reducible repeat (first | refine blk_drewN ?_ _ | refine blk_drew ?_ | refine blk_alloc ?_ _)); refine blk_far ?_ NB520_527.out _; (with_reducible repeat (first | refine blk_drewN ?_ _ | refine blk_drew ?_ | refine blk_alloc ?_ _)); refine blk_far ?_ NB520_527.out _; (with_reducible repeat (first | refine blk_drewN ?_ _ | refine blk_drew ?_ | refine blk_alloc ?_ _)); refine blk_far ?_ NB520_527.out _; (with_reducible repeat (first | refine blk_drewN ?_ _ | refine blk_drew ?_ | refine blk_alloc ?_ _)); exact BK520.out) NB520_521.out (by simp)); replace BK527 := Aside0.mk (KeepBut.blk hk (g' := gb527) (o := .cells #[.string t522, .string t523, .int .i64 t524] 27 (0, 0)) (by (with_reducible repeat (first | refine blk_drewN ?_ _ | refine blk_drew ?_ | refine blk_alloc ?_ _)); refine blk_put (cs := #[.string t522, .string t523, .int .i64 0]) ?_ 2 _ rfl; (with_reducible repeat (first | refine blk_drewN ?_ _ | refine blk_drew ?_ | refine blk_alloc ?_ _)); refine blk_put (cs := #[.string t522, .string (⟨#[]⟩ : ByteArray), .int .i64 0]) ?_ 1 _ rfl; (with_reducible repeat (first | refine blk_drewN ?_ _ | refine blk_drew ?_ | refine blk_alloc ?_ _)); refine blk_put (cs := #[.string (⟨#[]⟩ : ByteArray), .string (⟨#[]⟩ : ByteArray), .int .i64 0]) ?_ 0 _ rfl; (with_reducible repeat (first | refine blk_drewN ?_ _ | refine blk_drew ?_ | refine blk_alloc ?_ _)); exact BK527.out) NB527_521.out (by simp)); replace HB := Aside0.mk (hb); replace HI521 := Aside0.mk (hi); (try clear hb); (try clear hb2); (try clear hk); (try clear hi)))
 replace BK520 := Aside0.mk (blk_drew BK520.out); replace BK527 := Aside0.mk (blk_drew BK527.out); replace HI521 := Aside0.mk (IsS60.drew HI521.out); replace HB := Aside0.mk (below_drew1 HB.out)
 refine start_ (n := 7) (S := fun w' => w'.cell? ⟨gb527, 0, none⟩ = some (.string t522) ∧ w'.cell? ⟨gb527, 1, none⟩ = some (.string t523) ∧ w'.cell? ⟨gb527, 2, none⟩ = some (.int .i64 t524)) (ds := []) (ob 7 0) (by kernel_rfl) rfl rfl ⟨(blk_cell BK527.out 0).trans rfl, (blk_cell BK527.out 1).trans rfl, (blk_cell BK527.out 2).trans rfl⟩ (fun hHeld => ?_)
 generalize w12.drew = w13 at BK520 BK527 HI521 HB hHeld ⊢
 refine pure_ (i := 1) (N := some 21) (v := ?_) (a' := ?_) (ob 7 2) rfl rfl (by kernel_rfl) (fun _ _ _ h => h) (Or.inl ⟨by rfl, ?_⟩) ?_ ?_; rotate_left; exact ax6; rotate_left; exact ax7
 refine pure_ (i := 2) (N := some 22) (v := ?_) (a' := ?_) (ob 7 6) rfl rfl (by kernel_rfl) (fun _ _ _ h => h) (Or.inl ⟨by rfl, ?_⟩) ?_ ?_; rotate_left; exact ax6; rotate_left; exact ax7
 refine take_ (i := 0) (N := some 20) (v := ?_) (a' := ?_) (ob 7 7) rfl rfl (by kernel_rfl) (fun _ _ _ h => h) (Or.inl ⟨by rfl, ?_⟩) hHeld ?_ ?_
 rotate_left
 ·rintro w' ⟨s0, s1, s2⟩
  go_simp
  with_reducible rfl
 rotate_left
 ·exact ax7
 refine one_ (i := 3) (N := some 23) (ob 7 15) rfl rfl (by kernel_rfl) (by decide) (fun K hK => ?_)
 refine goes_ Tryd.func43 (by kernel_rfl) rfl #[.pointer (some ⟨gb521, 0, none⟩), .int .i64 2] (by rfl) rfl rfl ax20 ?_
 with_reducible refine (spec_l1Cur_one.calls gb521 l0 t529 t530 2 t531 t532 t533 w _ ?side1 ?side2 A4.out).mono ?_
 (case side1 => exact ax126)
 (case side2 => exact ax127)
 rintro e w14 ⟨rfl, hi, hb, hk⟩
 refine ⟨_, rfl, ?_⟩
 replace BK520 := Aside0.mk (KeepBut.blk hk (g' := gb520) (o := .cells #[.string (⟨#[]⟩ : ByteArray), .string (⟨#[]⟩ : ByteArray), .int .i64 0] 27 (0, 0)) ax124 NB520_521.out (by simp))
 replace BK527 := Aside0.mk (KeepBut.blk hk (g' := gb527) (o := .cells #[.string t522, .string t523, .int .i64 t524] 27 (0, 0)) (by (with_reducible repeat (first | refine blk_drewN ?_ _ | refine blk_drew ?_ | refine blk_alloc ?_ _)); exact BK527.out) NB527_521.out (by simp))
 replace HB := Aside0.mk (hb); replace HI521 := Aside0.mk (hi); (try clear hb); (try clear hb2); (try clear hk); (try clear hi)
 refine hK.out _ _ ⟨(blk_cell BK527.out 0).trans rfl, (blk_cell BK527.out 1).trans rfl, (blk_cell BK527.out 2).trans rfl⟩ (fun hHeld => ?_)
 clear hK K
 refine nm 23 ?_
 refine one_ (i := 4) (N := none) (ob 7 31) rfl rfl (by kernel_rfl) (by decide) (fun K hK => ?_)
 have hs15 : w14.cell? ⟨gb520, 0, none⟩ = some (.string (⟨#[]⟩ : ByteArray)) := (blk_cell BK520.out 0).trans rfl
 have hfs15 := blk_frozen BK520.out 0; have hns15_1 := NB527_520.out; have hms15_1 := NB520_527.out
 have hs16 : w14.cell? ⟨gb520, 1, none⟩ = some (.string (⟨#[]⟩ : ByteArray)) := (blk_cell BK520.out 1).trans rfl
 have hfs16 := blk_frozen BK520.out 1; have hns16_1 := NB527_520.out; have hms16_1 := NB520_527.out
 have hs17 : w14.cell? ⟨gb520, 2, none⟩ = some (.int .i64 0) := (blk_cell BK520.out 2).trans rfl
 have hfs17 := blk_frozen BK520.out 2; have hns17_1 := NB527_520.out; have hms17_1 := NB520_527.out
 refine skip_ (w1 := ?_) (by rfl) rfl ?_ ?_
 rotate_left
 ·go_simp
  rfl
 refine hK.out _ _ ⟨((cell_far (p := ⟨gb520, _, none⟩) NB527_520.out _).trans (((cell_far (p := ⟨gb520, _, none⟩) NB527_520.out _).trans (((cell_far (p := ⟨gb520, _, none⟩) NB527_520.out _).trans (hHeld.1)))))), ((cell_far (p := ⟨gb520, _, none⟩) NB527_520.out _).trans (((cell_far (p := ⟨gb520, _, none⟩) NB527_520.out _).trans (((cell_far (p := ⟨gb520, _, none⟩) NB527_520.out _).trans (hHeld.2.1)))))), ((cell_far (p := ⟨gb520, _, none⟩) NB527_520.out _).trans (((cell_far (p := ⟨gb520, _, none⟩) NB527_520.out _).trans (((cell_far (p := ⟨gb520, _, none⟩) NB527_520.out _).trans (hHeld.2.2))))))⟩ (fun hHeld => ?_)
 clear hK K
 refine pure_ (i := 5) (N := some 3) (v := ?_) (a' := ?_) (ob 7 63) rfl rfl (by kernel_rfl) (fun _ _ _ h => h) (Or.inl ⟨by rfl, ?_⟩) ?_ ?_; rotate_left; exact ax6; rotate_left; exact ax7
 refine pure_ (i := 6) (N := some 4) (v := ?_) (a' := ?_) (ob 7 127) rfl rfl (by kernel_rfl) (fun _ _ _ h => h) (Or.inl ⟨by rfl, ?_⟩) ?_ ?_; rotate_left; exact ax6; rotate_left; exact ax7
 refine done_ (by kernel_rfl) ?_
 try go_wp2
 refine bodyPost_ret (results_ctt rfl _ _ gb520 27 #[.string t522, .string t523, .int .i64 t524] (0, 0) _ rfl (by (with_reducible repeat (first | refine blk_drewN ?_ _ | refine blk_drew ?_ | refine blk_alloc ?_ _)); refine blk_put (cs := #[.string t522, .string t523, .int .i64 0]) ?_ 2 _ rfl; (with_reducible repeat (first | refine blk_drewN ?_ _ | refine blk_drew ?_ | refine blk_alloc ?_ _)); refine blk_put (cs := #[.string t522, .string (⟨#[]⟩ : ByteArray), .int .i64 0]) ?_ 1 _ rfl; (with_reducible repeat (first | refine blk_drewN ?_ _ | refine blk_drew ?_ | refine blk_alloc ?_ _)); refine blk_put (cs := #[.string (⟨#[]⟩ : ByteArray), .string (⟨#[]⟩ : ByteArray), .int .i64 0]) ?_ 0 _ rfl; (with_reducible repeat (first | refine blk_drewN ?_ _ | refine blk_drew ?_ | refine blk_alloc ?_ _)); exact BK520.out) Tryd.underlying27 rfl (by kernel_rfl)) rfl ?_
 exact ⟨ax18, by repeat (first | (with_reducible first | exact HB.out | apply below_alloc | apply pw_below_drewN | apply below_drew1 | refine below_set ?_ (IsS60.ge HI521.out) | refine below_set ?_ GE520.out | refine below_set ?_ GE527.out) | exact HB.out)⟩

/-! ### spec_DrawRecoverLog: function 30 -/
def spec_DrawRecoverLog.j0 : Nat → ByteArray → List Int → Int → Int → Option (ByteArray)
 | 0, _, _, _, _ => none
 | k + 1, x5, x535000, x535001, x535002 => (spec_l1Cur_one.f x535000 x535001 x535002 40).bind fun bt558 => (if bt558.1 = true then ((spec_l1Cur_pick.f x535000 bt558.2.1 bt558.2.2 2).bind fun bt561 => (if 0 ≤ (wrap64 (30000 + bt561.1)) then (if (wrap64 (30000 + bt561.1) : Int).toNat ≤ 281474976710656 then (some (strOfNums (List.replicate (wrap64 (30000 + bt561.1) : Int).toNat 0))) else (none)) else (none))) else (some x5))
def spec_DrawRecoverLog.f (k : Nat) (l0 : List Int) : Option (ByteArray) := (spec_l1Cur_log12.f k l0 0 0).bind fun bt535 => (if bt535.1.size + bt535.2.1.size ≤ 9223372036854775807 then ((spec_l1Cur_pick.f l0 bt535.2.2.2.1 bt535.2.2.2.2 4).bind fun bt541 => (if bt541.1 = 0 then ((spec_l1Cur_spoilt.f l0 bt541.2.1 bt541.2.2 (bt535.1 ++ bt535.2.1) (⟨#[35, 64, 10, 48, 49]⟩ : ByteArray)).bind fun bt544 => (spec_DrawRecoverLog.j0 k bt544.1 l0 bt544.2.1 bt544.2.2)) else (if bt541.1 = 1 then ((spec_l1Cur_pick.f l0 bt541.2.1 bt541.2.2 (wrap64 (((bt535.1 ++ bt535.2.1).size : Int) + 1))).bind fun bt547 => (if 0 ≤ bt547.1 then (if bt547.1 ≤ ((bt535.1 ++ bt535.2.1).size : Int) then (spec_DrawRecoverLog.j0 k ((bt535.1 ++ bt535.2.1).extract 0 (bt547.1 : Int).toNat) l0 bt547.2.1 bt547.2.2) else (none)) else (none))) else (if bt541.1 = 2 then ((spec_l1Cur_pick.f l0 bt541.2.1 bt541.2.2 4).bind fun bt550 => ((spec_l1Cur_logRecord.f l0 bt550.2.1 bt550.2.2).bind fun bt553 => ((spec_l12Line.f k bt550.1 bt553.1 bt553.2.1).bind fun t557 => (if (bt535.1 ++ bt535.2.1).size + t557.size ≤ 9223372036854775807 then (spec_DrawRecoverLog.j0 k ((bt535.1 ++ bt535.2.1) ++ t557) l0 bt553.2.2.1 bt553.2.2.2) else (none))))) else (spec_DrawRecoverLog.j0 k (bt535.1 ++ bt535.2.1) l0 bt541.2.1 bt541.2.2))))) else (none))
theorem spec_DrawRecoverLog.mono_l : ∀ k, (∀ y0 y1 y2 y3, LeO (spec_DrawRecoverLog.j0 k y0 y1 y2 y3) (spec_DrawRecoverLog.j0 (k + 1) y0 y1 y2 y3))
 | 0 => fun _ _ _ _ r h => by simp [spec_DrawRecoverLog.j0] at h
 | k + 1 => by
  have ih0 := spec_DrawRecoverLog.mono_l k
  ·intro y0 y1 y2 y3
   unfold spec_DrawRecoverLog.j0
   repeat' first | (with_reducible first | exact ih0 .. | exact spec_l12Line.mono .. | exact spec_l1Cur_log12.mono .. | exact LeO.refl _ | exact LeO.none _ | refine LeO.ite ?_ ?_ | refine LeO.bind ?_ (fun _ => ?_)) | exact ih0 .. | exact spec_l12Line.mono .. | exact spec_l1Cur_log12.mono .. | exact LeO.none _ | refine LeO.ite ?_ ?_ | refine LeO.bind ?_ (fun _ => ?_)
theorem spec_DrawRecoverLog.mono : ∀ a0 k, LeO (spec_DrawRecoverLog.f k a0) (spec_DrawRecoverLog.f (k + 1) a0) := by
 intro a0 k
 have ih0 := spec_DrawRecoverLog.mono_l k
 unfold spec_DrawRecoverLog.f
 repeat' first | (with_reducible first | exact ih0 .. | exact spec_l12Line.mono .. | exact spec_l1Cur_log12.mono .. | exact LeO.refl _ | exact LeO.none _ | refine LeO.ite ?_ ?_ | refine LeO.bind ?_ (fun _ => ?_)) | exact ih0 .. | exact spec_l12Line.mono .. | exact spec_l1Cur_log12.mono .. | exact LeO.none _ | refine LeO.ite ?_ ?_ | refine LeO.bind ?_ (fun _ => ?_)
set_option maxHeartbeats 8000000 in
set_option maxRecDepth 100000 in
theorem spec_DrawRecoverLog.calls (k : Nat) (A0 : Option Addr) (c0 : Nat) (l0 : List Int) (r : ByteArray) (w : World) (hr0 : Kd.C (Kd.int .u8) w A0 l0.length l0) (hc0 : l0.length ≤ c0) (h : spec_DrawRecoverLog.f k l0 = some r) :
  Calls Tryd.prog 30 #[.slice A0 l0.length c0] w fun e w' => e = .returned (.string r) ∧ Below w.heap.size w w' := by
 have hu60 := Tryd.underlying60; have hu27 := Tryd.underlying27; have HR0 := Aside0.mk hr0; have HC0 := Aside0.mk hc0; clear hr0 hc0; have HB := Aside0.mk (Below.refl w.heap.size w)
 have H : ((spec_l1Cur_log12.f k l0 0 0).bind fun bt535 => (if bt535.1.size + bt535.2.1.size ≤ 9223372036854775807 then ((spec_l1Cur_pick.f l0 bt535.2.2.2.1 bt535.2.2.2.2 4).bind fun bt541 => (if bt541.1 = 0 then ((spec_l1Cur_spoilt.f l0 bt541.2.1 bt541.2.2 (bt535.1 ++ bt535.2.1) (⟨#[35, 64, 10, 48, 49]⟩ : ByteArray)).bind fun bt544 => (spec_DrawRecoverLog.j0 k bt544.1 l0 bt544.2.1 bt544.2.2)) else (if bt541.1 = 1 then ((spec_l1Cur_pick.f l0 bt541.2.1 bt541.2.2 (wrap64 (((bt535.1 ++ bt535.2.1).size : Int) + 1))).bind fun bt547 => (if 0 ≤ bt547.1 then (if bt547.1 ≤ ((bt535.1 ++ bt535.2.1).size : Int) then (spec_DrawRecoverLog.j0 k ((bt535.1 ++ bt535.2.1).extract 0 (bt547.1 : Int).toNat) l0 bt547.2.1 bt547.2.2) else (none)) else (none))) else (if bt541.1 = 2 then ((spec_l1Cur_pick.f l0 bt541.2.1 bt541.2.2 4).bind fun bt550 => ((spec_l1Cur_logRecord.f l0 bt550.2.1 bt550.2.2).bind fun bt553 => ((spec_l12Line.f k bt550.1 bt553.1 bt553.2.1).bind fun t557 => (if (bt535.1 ++ bt535.2.1).size + t557.size ≤ 9223372036854775807 then (spec_DrawRecoverLog.j0 k ((bt535.1 ++ bt535.2.1) ++ t557) l0 bt553.2.2.1 bt553.2.2.2) else (none))))) else (spec_DrawRecoverLog.j0 k (bt535.1 ++ bt535.2.1) l0 bt541.2.1 bt541.2.2))))) else (none))) = some r := h
 clear h
 obtain ⟨⟨t535, t536, t537, t538, t539⟩, A2, H⟩ := bs H
 by_cases c3 : t535.size + t536.size ≤ 9223372036854775807
 ·rw [if_pos c3] at H
  have c3b0 := eq_true c3
  have c3b1 : decide (t535.size + t536.size ≤ 9223372036854775807) = true := decide_eq_true c3
  try have c3b2 : (9223372036854775807 < t535.size + t536.size) = False := eq_false (Nat.not_lt.2 c3)
  clear c3
  obtain ⟨js4, hjs4⟩ : ∃ j_ : ByteArray, (t535 ++ t536) = j_ := ⟨_, rfl⟩
  replace H : ((spec_l1Cur_pick.f l0 t538 t539 4).bind fun bt541 => (if bt541.1 = 0 then ((spec_l1Cur_spoilt.f l0 bt541.2.1 bt541.2.2 js4 (⟨#[35, 64, 10, 48, 49]⟩ : ByteArray)).bind fun bt544 => (spec_DrawRecoverLog.j0 k bt544.1 l0 bt544.2.1 bt544.2.2)) else (if bt541.1 = 1 then ((spec_l1Cur_pick.f l0 bt541.2.1 bt541.2.2 (wrap64 ((js4.size : Int) + 1))).bind fun bt547 => (if 0 ≤ bt547.1 then (if bt547.1 ≤ (js4.size : Int) then (spec_DrawRecoverLog.j0 k (js4.extract 0 (bt547.1 : Int).toNat) l0 bt547.2.1 bt547.2.2) else (none)) else (none))) else (if bt541.1 = 2 then ((spec_l1Cur_pick.f l0 bt541.2.1 bt541.2.2 4).bind fun bt550 => ((spec_l1Cur_logRecord.f l0 bt550.2.1 bt550.2.2).bind fun bt553 => ((spec_l12Line.f k bt550.1 bt553.1 bt553.2.1).bind fun t557 => (if js4.size + t557.size ≤ 9223372036854775807 then (spec_DrawRecoverLog.j0 k (js4 ++ t557) l0 bt553.2.2.1 bt553.2.2.2) else (none))))) else (spec_DrawRecoverLog.j0 k js4 l0 bt541.2.1 bt541.2.2))))) = some r := by first | (rw [hjs4] at H; exact H) | (simp only [hjs4] at H ⊢; exact H)
  obtain ⟨⟨t541, t542, t543⟩, A5, H⟩ := bs H
  have HC6 := Aside0.mk H; clear H
  go_enter Tryd.func30, Tryd.ntmps30
  go_upto_block 0 with (first | ((with_reducible refine gate_dst (N := 8) rfl ?_); refine box_event ?hg (N := 8) ?hd (cs := #[.slice A0 l0.length c0, .int .i64 0, .int .u64 0]) (t := 60) ?hr ?_; (case hd => rfl); (case hg => rfl); (case hr => exact ax9); intro gb534 hg w7 hbox hb; have n0_ := Aside0.mk (below_step ax11 hb); have n1_ := Aside0.mk (hbox); have n2_ := Aside0.mk ((ax128 : w.heap.size ≤ gb534)); have n3_ := Aside0.mk ((ax128 : w.heap.size ≤ gb534)); have n4_ := Aside0.mk ((⟨_, _, hbox, ax128, HR0.out⟩ : IsS60 w w7 gb534 l0 0 0)); clear HB; have HB := n0_; have BK534 := n1_; have GW534 := n2_; have GE534 := n3_; have HI534 := n4_; clear n0_ n1_ n2_ n3_ n4_; clear hb hbox hg) | ((with_reducible refine gate_callee (f := 48) rfl ?_); refine goesL_ (some 10) rfl rfl Tryd.func48 (by kernel_rfl) rfl #[.pointer (some ⟨gb534, 0, none⟩)] rfl ax20 ?_; (with_reducible refine (spec_l1Cur_log12.calls k gb534 l0 0 0 t535 t536 t537 t538 t539 w _ ?side1 ?side2 A2.out).mono ?_); (case side1 => exact ax129); (case side2 => exact ax130); rintro e w8 ⟨rfl, hi, hb, hk⟩; refine ⟨_, rfl, ?_⟩; have n0_ := Aside0.mk (hb); have n1_ := Aside0.mk (hi); clear HB; clear HI534; have HB := n0_; have HI534 := n1_; clear n0_ n1_; (try clear hb); (try clear hb2); (try clear hk); (try clear hi)) | ((with_reducible refine gate_dst (N := 4) rfl ?_); refine box_event ?hg (N := 4) ?hd (cs := #[.string (⟨#[]⟩ : ByteArray), .string (⟨#[]⟩ : ByteArray), .int .i64 0]) (t := 27) ?hr ?_; (case hd => rfl); (case hg => rfl); (case hr => exact ax9); intro gb540 hg w9 hbox hb; have n0_ := Aside0.mk (IsS60.below ax129 hb); have n1_ := Aside0.mk (below_step ax130 hb); have n2_ := Aside0.mk (hbox); have n3_ := Aside0.mk ((ax131 : w.heap.size ≤ gb540)); have n4_ := Aside0.mk ((ax131 : w.heap.size ≤ gb540)); have n5_ := Aside0.mk ((by rw [hg]; exact Nat.ne_of_lt (IsS60.lt (show IsS60 w _ gb534 l0 t538 t539 from by repeat (first | (with_reducible first | exact HI534.out | apply IsS60.alloc | apply IsS60.drewN | apply IsS60.drew | apply IsS60.set_1 | apply IsS60.set_2) | exact HI534.out))) : gb534 ≠ gb540)); have n6_ := Aside0.mk ((by rw [hg]; exact Nat.ne_of_gt (IsS60.lt (show IsS60 w _ gb534 l0 t538 t539 from by repeat (first | (with_reducible first | exact HI534.out | apply IsS60.alloc | apply IsS60.drewN | apply IsS60.drew | apply IsS60.set_1 | apply IsS60.set_2) | exact HI534.out))) : gb540 ≠ gb534)); clear HI534; clear HB; have HI534 := n0_; have HB := n1_; have BK540 := n2_; have GW540 := n3_; have GE540 := n4_; have NB534_540 := n5_; have NB540_534 := n6_; clear n0_ n1_ n2_ n3_ n4_ n5_ n6_; clear hb hbox hg; have hnb10 := NB540_534.out; have hnc10 := NB534_540.out; have hcz11_0 : w9.cell? ⟨gb540, 0, none⟩ = some (.string (⟨#[]⟩ : ByteArray)) := (blk_cell BK540.out 0).trans rfl; have hcz11_1 : w9.cell? ⟨gb540, 1, none⟩ = some (.string (⟨#[]⟩ : ByteArray)) := (blk_cell BK540.out 1).trans rfl; have hcz11_2 : w9.cell? ⟨gb540, 2, none⟩ = some (.int .i64 0) := (blk_cell BK540.out 2).trans rfl; have hfz11_0 := blk_frozen BK540.out 0; have hfz11_1 := blk_frozen BK540.out 1; have hfz11_2 := blk_frozen BK540.out 2) | ((with_reducible refine gate_callee (f := 44) rfl ?_); refine goesL_ (some 17) rfl rfl Tryd.func44 (by kernel_rfl) rfl #[.pointer (some ⟨gb534, 0, none⟩), .int .i64 4] rfl ax20 ?_; (with_reducible refine (spec_l1Cur_pick.calls gb534 l0 t538 t539 4 t541 t542 t543 w _ ?side1 ?side2 A5.out).mono ?_); (case side1 => exact ax132); (case side2 => exact ax133); rintro e w12 ⟨rfl, hi, hb, hk⟩; refine ⟨_, rfl, ?_⟩; have n0_ := Aside0.mk (KeepBut.blk hk (g' := gb540) (o := .cells #[.string t535, .string t536, .int .i64 t537] 27 (0, 0)) (by (with_reducible repeat (first | refine blk_drewN ?_ _ | refine blk_drew ?_ | refine blk_alloc ?_ _)); refine blk_put (cs := #[.string t535, .string t536, .int .i64 0]) ?_ 2 _ rfl; (with_reducible repeat (first | refine blk_drewN ?_ _ | refine blk_drew ?_ | refine blk_alloc ?_ _)); refine blk_put (cs := #[.string t535, .string (⟨#[]⟩ : ByteArray), .int .i64 0]) ?_ 1 _ rfl; (with_reducible repeat (first | refine blk_drewN ?_ _ | refine blk_drew ?_ | refine blk_alloc ?_ _)); refine blk_put (cs := #[.string (⟨#[]⟩ : ByteArray), .string (⟨#[]⟩ : ByteArray), .int .i64 0]) ?_ 0 _ rfl; (with_reducible repeat (first | refine blk_drewN ?_ _ | refine blk_drew ?_ | refine blk_alloc ?_ _)); exact BK540.out) NB540_534.out (by simp)); have n1_ := Aside0.mk (hb); have n2_ := Aside0.mk (hi); clear BK540; clear HB; clear HI534; have BK540 := n0_; have HB := n1_; have HI534 := n2_; clear n0_ n1_ n2_; (try clear hb); (try clear hb2); (try clear hk); (try clear hi)))
  (try simp only [Act.put, List.setIfInBounds_toArray, List.set_cons_zero, List.set_cons_succ])
  go_cut [5] (fun v5 wc => ∃ (kq : Nat) (x5_5 : ByteArray) (x535001_5 : Int) (x535002_5 : Int), v5 = .string x5_5 ∧ Aside0 (spec_DrawRecoverLog.j0 kq x5_5 l0 x535001_5 x535002_5 = some r) ∧ Aside0 (kq ≤ k) ∧ Aside0 (wc.heap[gb540]? = some (.cells #[.string t535, .string t536, .int .i64 t537] 27 (0, 0))) ∧ Aside0 (IsS60 w wc gb534 l0 x535001_5 x535002_5) ∧ Aside0 (Below w.heap.size w wc))
  case first =>
   have H := HC6.out; clear HC6
   by_cases c13 : t541 = 0
   ·rw [if_pos c13] at H
    have c13b0 : (t541 == 0) = true := beq_iff_eq.mpr c13
    have c13b1 : (t541 != 0) = false := bne_eq_false_iff_eq.mpr c13
    clear c13
    (first | rw [c13b0] | (simp only [i64_w, i32_w]; rw [c13b0]) | skip)
    obtain ⟨⟨t544, t545, t546⟩, A14, H⟩ := bs H
    have H' := Aside0.mk H
    clear H
    go_wp2_with (first | (refine gd 22 49 ?_; refine gc 22 Tryd.func49 #[.pointer (some ⟨gb534, 0, none⟩), .string js4, .string (⟨#[35, 64, 10, 48, 49]⟩ : ByteArray)] (spec_l1Cur_spoilt.calls gb534 l0 t542 t543 js4 (⟨#[35, 64, 10, 48, 49]⟩ : ByteArray) t544 t545 t546 w _ ax132 ax133 A14.out) ?_; rintro e w15 ⟨rfl, hi, hb, hk⟩; refine ⟨_, rfl, ?_⟩; replace BK540 := Aside0.mk (KeepBut.blk hk (g' := gb540) (o := .cells #[.string t535, .string t536, .int .i64 t537] 27 (0, 0)) ax134 NB540_534.out (by simp)); replace HB := Aside0.mk (hb); replace HI534 := Aside0.mk (hi); (try clear hb); (try clear hb2); (try clear hk); (try clear hi)))
    go_meet
    case rel => exact ⟨_, (t544), (t545), (t546), ax10, H', ⟨by first | omega | exact Nat.le_refl _⟩, ⟨ax134⟩, ⟨ax132⟩, ⟨ax133⟩⟩
   ·rw [if_neg c13] at H
    have c13b0 : (t541 == 0) = false := beq_eq_false_iff_ne.mpr c13
    have c13b1 : (t541 != 0) = true := bne_iff_ne.mpr c13
    (first | rw [c13b0] | (simp only [i64_w, i32_w]; rw [c13b0]) | skip)
    by_cases c16 : t541 = 1
    ·rw [if_pos c16] at H
     have c16b0 : (t541 == 1) = true := beq_iff_eq.mpr c16
     have c16b1 : (t541 != 1) = false := bne_eq_false_iff_eq.mpr c16
     clear c16
     obtain ⟨⟨t547, t548, t549⟩, A17, H⟩ := bs H
     by_cases c18 : 0 ≤ t547
     ·rw [if_pos c18] at H
      have c18b0 := eq_true c18
      have c18b1 : decide (0 ≤ t547) = true := decide_eq_true c18
      clear c18
      by_cases c19 : t547 ≤ (js4.size : Int)
      ·rw [if_pos c19] at H
       have c19b0 := eq_true c19
       have c19b1 : decide (t547 ≤ (js4.size : Int)) = true := decide_eq_true c19
       clear c19
       obtain ⟨js20, hjs20⟩ : ∃ j_ : ByteArray, (js4.extract 0 (t547 : Int).toNat) = j_ := ⟨_, rfl⟩
       replace H : (spec_DrawRecoverLog.j0 k js20 l0 t548 t549) = some r := by first | (rw [hjs20] at H; exact H) | (simp only [hjs20] at H ⊢; exact H)
       have H' := Aside0.mk H
       clear H
       go_wp2_with (first | (refine gd 30 44 ?_; refine gc 30 Tryd.func44 #[.pointer (some ⟨gb534, 0, none⟩), .int .i64 (wrap64 ((js4.size : Int) + 1))] (spec_l1Cur_pick.calls gb534 l0 t542 t543 (wrap64 ((js4.size : Int) + 1)) t547 t548 t549 w _ ax132 ax133 A17.out) ?_; rintro e w21 ⟨rfl, hi, hb, hk⟩; refine ⟨_, rfl, ?_⟩; replace BK540 := Aside0.mk (KeepBut.blk hk (g' := gb540) (o := .cells #[.string t535, .string t536, .int .i64 t537] 27 (0, 0)) ax134 NB540_534.out (by simp)); replace HB := Aside0.mk (hb); replace HI534 := Aside0.mk (hi); (try clear hb); (try clear hb2); (try clear hk); (try clear hi)))
       go_meet
       case rel => exact ⟨_, (js20), (t548), (t549), (by first | rfl | (simp; done) | (simp only [← hjs20] <;> (first | rfl | simp)) | (simp [*]; done)), H', ⟨by first | omega | exact Nat.le_refl _⟩, ⟨ax134⟩, ⟨ax132⟩, ⟨ax133⟩⟩
      ·rw [if_neg c19] at H
       exact absurd H (by simp)
     ·rw [if_neg c18] at H
      exact absurd H (by simp)
    ·rw [if_neg c16] at H
     have c16b0 : (t541 == 1) = false := beq_eq_false_iff_ne.mpr c16
     have c16b1 : (t541 != 1) = true := bne_iff_ne.mpr c16
     by_cases c22 : t541 = 2
     ·rw [if_pos c22] at H
      have c22b0 : (t541 == 2) = true := beq_iff_eq.mpr c22
      have c22b1 : (t541 != 2) = false := bne_eq_false_iff_eq.mpr c22
      clear c22
      obtain ⟨⟨t550, t551, t552⟩, A23, H⟩ := bs H
      obtain ⟨⟨t553, t554, t555, t556⟩, A24, H⟩ := bs H
      obtain ⟨t557, A25, H⟩ := bs H
      by_cases c26 : js4.size + t557.size ≤ 9223372036854775807
      ·rw [if_pos c26] at H
       have c26b0 := eq_true c26
       have c26b1 : decide (js4.size + t557.size ≤ 9223372036854775807) = true := decide_eq_true c26
       try have c26b2 : (9223372036854775807 < js4.size + t557.size) = False := eq_false (Nat.not_lt.2 c26)
       clear c26
       obtain ⟨js27, hjs27⟩ : ∃ j_ : ByteArray, (js4 ++ t557) = j_ := ⟨_, rfl⟩
       replace H : (spec_DrawRecoverLog.j0 k js27 l0 t555 t556) = some r := by first | (rw [hjs27] at H; exact H) | (simp only [hjs27] at H ⊢; exact H)
       have H' := Aside0.mk H
       clear H
       go_wp2_with (first | (refine gd 36 44 ?_; refine gc 36 Tryd.func44 #[.pointer (some ⟨gb534, 0, none⟩), .int .i64 4] (spec_l1Cur_pick.calls gb534 l0 t542 t543 4 t550 t551 t552 w _ ax132 ax133 A23.out) ?_; rintro e w28 ⟨rfl, hi, hb, hk⟩; refine ⟨_, rfl, ?_⟩; replace BK540 := Aside0.mk (KeepBut.blk hk (g' := gb540) (o := .cells #[.string t535, .string t536, .int .i64 t537] 27 (0, 0)) ax134 NB540_534.out (by simp)); replace HB := Aside0.mk (hb); replace HI534 := Aside0.mk (hi); (try clear hb); (try clear hb2); (try clear hk); (try clear hi)) | (refine gd 38 36 ?_; refine gc 38 Tryd.func36 #[.pointer (some ⟨gb534, 0, none⟩)] (spec_l1Cur_logRecord.calls gb534 l0 t551 t552 t553 t554 t555 t556 w _ ax132 ax133 A24.out) ?_; rintro e w29 ⟨rfl, hi, hb, hk⟩; refine ⟨_, rfl, ?_⟩; replace BK540 := Aside0.mk (KeepBut.blk hk (g' := gb540) (o := .cells #[.string t535, .string t536, .int .i64 t537] 27 (0, 0)) ax134 NB540_534.out (by simp)); replace HB := Aside0.mk (hb); replace HI534 := Aside0.mk (hi); (try clear hb); (try clear hb2); (try clear hk); (try clear hi)) | (refine gd 39 41 ?_; refine gc 39 Tryd.func41 #[.int .i64 t550, .agg #[.string t553, .string t554]] (spec_l12Line.calls k t550 t553 t554 t557 _ A25.out) ?_; rintro e w30 ⟨rfl, hb⟩; refine ⟨_, rfl, ?_⟩; replace BK540 := ub BK540 hb; replace HB := Aside0.mk (below_step ax133 hb); replace HI534 := Aside0.mk (IsS60.below ax132 hb); (try clear hb); (try clear hb2); (try clear hk); (try clear hi)))
       go_meet
       case rel => exact ⟨_, (js27), (t555), (t556), (by first | rfl | (simp; done) | (simp only [← hjs27] <;> (first | rfl | simp)) | (simp [*]; done)), H', ⟨by first | omega | exact Nat.le_refl _⟩, ⟨ax134⟩, ⟨ax132⟩, ⟨ax133⟩⟩
      ·rw [if_neg c26] at H
       exact absurd H (by simp)
     ·rw [if_neg c22] at H
      have c22b0 : (t541 == 2) = false := beq_eq_false_iff_ne.mpr c22
      have c22b1 : (t541 != 2) = true := bne_iff_ne.mpr c22
      have H' := Aside0.mk H
      clear H
      go_wp2
      go_meet
      case rel => exact ⟨_, (js4), (t542), (t543), (by first | rfl | (simp; done) | (simp only [← hjs4] <;> (first | rfl | simp)) | (simp [*]; done)), H', ⟨by first | omega | exact Nat.le_refl _⟩, ⟨ax134⟩, ⟨ax132⟩, ⟨ax133⟩⟩
  case rest =>
   clear HC6
   try clear c1
   try clear c2
   try clear p2
   try clear c3
   try clear c3b0
   try clear c3b1
   try clear c3b2
   try clear c4
   try clear p6
   try clear c10
   try clear c13
   try clear c13b0
   try clear c13b1
   try clear c16
   try clear c16b0
   try clear c16b1
   try clear c18
   try clear c18b0
   try clear c18b1
   try clear c19
   try clear c19b0
   try clear c19b1
   try clear c22
   try clear c22b0
   try clear c22b1
   try clear c26
   try clear c26b0
   try clear c26b1
   try clear c26b2
   try clear c30
   try clear hcz11_0
   try clear hcz11_1
   try clear hcz11_2
   try clear hfz11_0
   try clear hfz11_1
   try clear hfz11_2
   obtain ⟨kq, x5_5, x535001_5, x535002_5, rfl, HA, HJ5, BK540, HI534, HB⟩ := hcut
   cases kq with
   | zero => exact absurd HA.out (by simp [spec_DrawRecoverLog.j0])
   | succ kj5 =>
    have H := HA.out; clear HA
    simp only [spec_DrawRecoverLog.j0] at H
    obtain ⟨⟨t558, t559, t560⟩, A31, H⟩ := bs H
    by_cases c32 : t558 = true
    ·subst c32
     rw [if_pos rfl] at H
     obtain ⟨⟨t561, t562, t563⟩, A33, H⟩ := bs H
     obtain ⟨ji34, hji34⟩ : ∃ j_ : Int, (wrap64 (30000 + t561)) = j_ := ⟨_, rfl⟩
     replace H : (if 0 ≤ (ji34) then (if (ji34 : Int).toNat ≤ 281474976710656 then (some (strOfNums (List.replicate (ji34 : Int).toNat 0))) else (none)) else (none)) = some r := by first | (rw [hji34] at H; exact H) | (simp only [hji34] at H ⊢; exact H)
     (try rw [hji34] at A31)
     (try rw [hji34] at A33)
     have hji34w : (IntKind.i64.wrap (30000 + t561)) = ji34 := (i64_w _).trans hji34
     by_cases c35 : 0 ≤ (ji34)
     ·rw [if_pos c35] at H
      have c35b0 := eq_true c35
      have c35b1 : decide (0 ≤ (ji34)) = true := decide_eq_true c35
      clear c35
      by_cases c36 : (ji34 : Int).toNat ≤ 281474976710656
      ·rw [if_pos c36] at H
       have c36b0 := eq_true c36
       have c36b1 : decide ((ji34 : Int).toNat ≤ 281474976710656) = true := decide_eq_true c36
       clear c36
       obtain ⟨y564, hy564⟩ : ∃ y_ : List Int, y_ = (List.replicate (ji34 : Int).toNat 0) := ⟨_, rfl⟩
       replace H : (some (strOfNums y564)) = some r := by first | (rw [hy564]; with_reducible exact H) | (have H2_ := (Option.bind_some _ _).symm.trans H; rw [hy564]; with_reducible exact H2_) | (have H2_ := (Option.bind_some _ _).symm.trans H; with_reducible exact H2_) | with_reducible exact H | (rw [hy564]; exact H) | exact H
       have Ny564 := Aside0.mk hy564; clear hy564
       obtain rfl := Option.some.inj H
       go_wp2_with (first | (refine gd 42 43 ?_; refine gc 42 Tryd.func43 #[.pointer (some ⟨gb534, 0, none⟩), .int .i64 40] (spec_l1Cur_one.calls gb534 l0 x535001_5 x535002_5 40 true t559 t560 w _ ax132 ax133 A31.out) ?_; rintro e w37 ⟨rfl, hi, hb, hk⟩; refine ⟨_, rfl, ?_⟩; replace BK540 := Aside0.mk (KeepBut.blk hk (g' := gb540) (o := .cells #[.string t535, .string t536, .int .i64 t537] 27 (0, 0)) ax134 NB540_534.out (by simp)); replace HB := Aside0.mk (hb); replace HI534 := Aside0.mk (hi); (try clear hb); (try clear hb2); (try clear hk); (try clear hi)) | (refine gd 44 44 ?_; refine gc 44 Tryd.func44 #[.pointer (some ⟨gb534, 0, none⟩), .int .i64 2] (spec_l1Cur_pick.calls gb534 l0 t559 t560 2 t561 t562 t563 w _ ax132 ax133 A33.out) ?_; rintro e w38 ⟨rfl, hi, hb, hk⟩; refine ⟨_, rfl, ?_⟩; replace BK540 := Aside0.mk (KeepBut.blk hk (g' := gb540) (o := .cells #[.string t535, .string t536, .int .i64 t537] 27 (0, 0)) ax134 NB540_534.out (by simp)); replace HB := Aside0.mk (hb); replace HI534 := Aside0.mk (hi); (try clear hb); (try clear hb2); (try clear hk); (try clear hi)) | ((with_reducible refine gate_dst (N := 46) rfl ?_); refine Kd.R_make (Kd.int .u8) _ 5 rfl (N := 46) rfl 30 _ _ rfl ji34 rfl rfl Tryd.underlying30 (.int .u8 0) 1 info5 rfl (by decide) (by omega) 0 (ok := fun _ => True) (okp := fun _ => True) rfl (fun _ hk => hk) trivial (of_decide_eq_true ax12) (Nat.le_trans (Nat.mul_le_mul_right _ (of_decide_eq_true ax12 : ji34.toNat ≤ 281474976710656)) (by omega)) (Below.refl _ _) (Nat.le_refl _) ?_; intro v565 w39 ho40 hb hg_ hnew_; clear hg_ hnew_; (first | rw [← Ny564.out] at ho40 | (simp only [Int.reduceToNat] at ho40; rw [← Ny564.out] at ho40)); have HO566 := Aside0.mk (Kd.R_lower ho40 (below_size ax133)); replace BK540 := ub BK540 hb; replace HB := Aside0.mk (below_step ax133 hb); replace HI534 := Aside0.mk (IsS60.below ax132 hb); clear hb ho40; have hcv41 := own_string (P := Tryd.prog) Tryd.underlying30 Tryd.underlying5 Tryd.underlying9 (Kd.own_of_R HO566.out)))
       go_ret
       exact ⟨(by first | rfl | (simp [errW_none, errW_some] <;> rfl) | (simp only [← hjs4, ← hji34]; first | rfl | (simp [errW_none, errW_some] <;> rfl)) | (simp [*, errW_none, errW_some] <;> rfl)), by repeat (first | (with_reducible first | exact HB.out | apply below_alloc | apply pw_below_drewN | apply below_drew1 | refine below_set ?_ (IsS60.ge HI534.out) | refine below_set ?_ GE540.out) | exact HB.out)⟩
      ·rw [if_neg c36] at H
       exact absurd H (by simp)
     ·rw [if_neg c35] at H
      exact absurd H (by simp)
    ·replace c32 := Bool.eq_false_iff.mpr c32
     subst c32
     rw [if_neg (show ¬ (false = true) by decide)] at H
     obtain rfl := Option.some.inj H
     go_wp2_with (first | (refine gd 42 43 ?_; refine gc 42 Tryd.func43 #[.pointer (some ⟨gb534, 0, none⟩), .int .i64 40] (spec_l1Cur_one.calls gb534 l0 x535001_5 x535002_5 40 false t559 t560 w _ ax132 ax133 A31.out) ?_; rintro e w42 ⟨rfl, hi, hb, hk⟩; refine ⟨_, rfl, ?_⟩; replace BK540 := Aside0.mk (KeepBut.blk hk (g' := gb540) (o := .cells #[.string t535, .string t536, .int .i64 t537] 27 (0, 0)) ax134 NB540_534.out (by simp)); replace HB := Aside0.mk (hb); replace HI534 := Aside0.mk (hi); (try clear hb); (try clear hb2); (try clear hk); (try clear hi)))
     go_ret
     exact ⟨(by first | rfl | (simp [errW_none, errW_some] <;> rfl) | (simp only [← hjs4]; first | rfl | (simp [errW_none, errW_some] <;> rfl)) | (simp [*, errW_none, errW_some] <;> rfl)), by repeat (first | (with_reducible first | exact HB.out | apply below_alloc | apply pw_below_drewN | apply below_drew1 | refine below_set ?_ (IsS60.ge HI534.out) | refine below_set ?_ GE540.out) | exact HB.out)⟩
 ·rw [if_neg c3] at H
  exact absurd H (by simp)

/-! ### impl_RecoverLog: function 31 -/
def impl_RecoverLog.f (k : Nat) (a0 : ByteArray) : Option (ByteArray × ByteArray × Int × Int × Bool) := if (a0.size : Int) > 30000 then (some ((⟨#[]⟩ : ByteArray), (⟨#[]⟩ : ByteArray), 0, 0, false)) else ((impl_readRecords.f k a0).bind fun bt568 => (if 0 ≤ (bt568.1.length : Int) then (if (bt568.1.length : Int) < (bt568.2.length : Int) then (if 0 ≤ (rd bt568.2 (bt568.1.length : Int)) then (if (rd bt568.2 (bt568.1.length : Int)) ≤ (a0.size : Int) then (some (a0.extract 0 ((rd bt568.2 (bt568.1.length : Int)) : Int).toNat, (⟨#[]⟩ : ByteArray), (bt568.1.length : Int), rd bt568.2 (bt568.1.length : Int), true)) else (none)) else (none)) else (none)) else (none)))
theorem impl_RecoverLog.mono : ∀ a0 k, LeO (impl_RecoverLog.f k a0) (impl_RecoverLog.f (k + 1) a0) := by
 intro a0 k
 unfold impl_RecoverLog.f
 repeat' first | (with_reducible first | exact impl_readRecords.mono .. | exact LeO.refl _ | exact LeO.none _ | refine LeO.ite ?_ ?_ | refine LeO.bind ?_ (fun _ => ?_)) | exact impl_readRecords.mono .. | exact LeO.none _ | refine LeO.ite ?_ ?_ | refine LeO.bind ?_ (fun _ => ?_)
set_option maxHeartbeats 8000000 in
set_option maxRecDepth 100000 in
theorem impl_RecoverLog.calls (k : Nat) (a0 : ByteArray) (r1 : ByteArray) (r2 : ByteArray) (r3 : Int) (r4 : Int) (r5 : Bool) (w : World) (hG : GL w) (h : impl_RecoverLog.f k a0 = some (r1, r2, r3, r4, r5)) :
  Calls Tryd.prog 31 #[.string a0] w fun e w' => e = .returned (.tuple #[.agg #[.string r1, .string r2, .int .i64 r3], .int .i64 r4, .bool r5]) ∧ Below w.heap.size w w' := by
 have hu27 := Tryd.underlying27; have HB := Aside0.mk (Below.refl w.heap.size w); have HG := Aside0.mk hG; clear hG
 have H : (if (a0.size : Int) > 30000 then (some ((⟨#[]⟩ : ByteArray), (⟨#[]⟩ : ByteArray), 0, 0, false)) else ((impl_readRecords.f k a0).bind fun bt568 => (if 0 ≤ (bt568.1.length : Int) then (if (bt568.1.length : Int) < (bt568.2.length : Int) then (if 0 ≤ (rd bt568.2 (bt568.1.length : Int)) then (if (rd bt568.2 (bt568.1.length : Int)) ≤ (a0.size : Int) then (some (a0.extract 0 ((rd bt568.2 (bt568.1.length : Int)) : Int).toNat, (⟨#[]⟩ : ByteArray), (bt568.1.length : Int), rd bt568.2 (bt568.1.length : Int), true)) else (none)) else (none)) else (none)) else (none)))) = some (r1, r2, r3, r4, r5) := h
 clear h
 by_cases c2 : (a0.size : Int) > 30000
 ·rw [if_pos c2] at H
  have c2b0 : decide (30000 < (a0.size : Int)) = true := decide_eq_true c2
  have c2b1 : decide (30000 < a0.size) = true := decide_eq_true (by omega)
  clear c2
  simp only [Option.some.injEq, Prod.mk.injEq] at H
  obtain ⟨rfl, rfl, rfl, rfl, rfl⟩ := H
  go_enter Tryd.func31, Tryd.ntmps31
  go_wp2_with (first | ((with_reducible refine gate_dst (N := 2) rfl ?_); refine box_event ?hg (N := 2) ?hd (cs := #[.string (⟨#[]⟩ : ByteArray), .string (⟨#[]⟩ : ByteArray), .int .i64 0]) (t := 27) ?hr ?_; (case hd => rfl); (case hg => rfl); (case hr => exact ax9); intro gb567 hg w3 hbox hb; have BK567 := Aside0.mk (hbox); have GW567 := uG hg HB; have GE567 := uG hg HB; replace HB := uB HB hb; clear hb hbox hg; have hcz4_0 := bc (.string (⟨#[]⟩ : ByteArray)) BK567 0; have hcz4_1 := bc (.string (⟨#[]⟩ : ByteArray)) BK567 1; have hcz4_2 := bc (.int .i64 0) BK567 2; have hfz4_0 := blk_frozen BK567.out 0; have hfz4_1 := blk_frozen BK567.out 1; have hfz4_2 := blk_frozen BK567.out 2))
  refine bodyPost_ret (results_ctt rfl _ _ gb567 27 #[.string (⟨#[]⟩ : ByteArray), .string (⟨#[]⟩ : ByteArray), .int .i64 0] (0, 0) _ rfl (by (with_reducible repeat (first | refine blk_drewN ?_ _ | refine blk_drew ?_ | refine blk_alloc ?_ _)); refine blk_put (cs := #[.string (⟨#[]⟩ : ByteArray), .string (⟨#[]⟩ : ByteArray), .int .i64 0]) ?_ 2 _ rfl; (with_reducible repeat (first | refine blk_drewN ?_ _ | refine blk_drew ?_ | refine blk_alloc ?_ _)); refine blk_put (cs := #[.string (⟨#[]⟩ : ByteArray), .string (⟨#[]⟩ : ByteArray), .int .i64 0]) ?_ 1 _ rfl; (with_reducible repeat (first | refine blk_drewN ?_ _ | refine blk_drew ?_ | refine blk_alloc ?_ _)); refine blk_put (cs := #[.string (⟨#[]⟩ : ByteArray), .string (⟨#[]⟩ : ByteArray), .int .i64 0]) ?_ 0 _ rfl; (with_reducible repeat (first | refine blk_drewN ?_ _ | refine blk_drew ?_ | refine blk_alloc ?_ _)); exact BK567.out) Tryd.underlying27 rfl (by kernel_rfl)) rfl ?_
  exact ⟨ax18, by repeat (first | (with_reducible first | exact HB.out | apply below_alloc | apply pw_below_drewN | apply below_drew1 | refine below_set ?_ GE567.out) | exact HB.out)⟩
 ·rw [if_neg c2] at H
  have c2b0 : decide (30000 < (a0.size : Int)) = false := decide_eq_false c2
  have c2b1 : decide (30000 < a0.size) = false := decide_eq_false (by omega)
  clear c2
  obtain ⟨⟨t568, t569⟩, A5, H⟩ := bs H
  by_cases c6 : 0 ≤ (t568.length : Int)
  ·rw [if_pos c6] at H
   have c6b0 : decide (0 ≤ (t568.length : Int)) = true := decide_eq_true c6
   have c6b1 : decide (0 ≤ t568.length) = true := decide_eq_true (by omega)
   clear c6
   by_cases c7 : (t568.length : Int) < (t569.length : Int)
   ·rw [if_pos c7] at H
    have c7b0 : decide ((t568.length : Int) < (t569.length : Int)) = true := decide_eq_true c7
    have c7b1 : decide (t568.length < t569.length) = true := decide_eq_true (Int.ofNat_lt.mp c7)
    clear c7
    by_cases c8 : 0 ≤ (rd t569 (t568.length : Int))
    ·rw [if_pos c8] at H
     have c8b0 := eq_true c8
     have c8b1 : decide (0 ≤ (rd t569 (t568.length : Int))) = true := decide_eq_true c8
     clear c8
     by_cases c9 : (rd t569 (t568.length : Int)) ≤ (a0.size : Int)
     ·rw [if_pos c9] at H
      have c9b0 := eq_true c9
      have c9b1 : decide ((rd t569 (t568.length : Int)) ≤ (a0.size : Int)) = true := decide_eq_true c9
      clear c9
      obtain ⟨js10, hjs10⟩ : ∃ j_ : ByteArray, (a0.extract 0 ((rd t569 (t568.length : Int)) : Int).toNat) = j_ := ⟨_, rfl⟩
      replace H : (some (js10, (⟨#[]⟩ : ByteArray), (t568.length : Int), rd t569 (t568.length : Int), true)) = some (r1, r2, r3, r4, r5) := by first | (rw [hjs10] at H; exact H) | (simp only [hjs10] at H ⊢; exact H)
      simp only [Option.some.injEq, Prod.mk.injEq] at H
      obtain ⟨rfl, rfl, rfl, rfl, rfl⟩ := H
      go_enter Tryd.func31, Tryd.ntmps31
      go_wp2_with (first | ((with_reducible refine gate_dst (N := 2) rfl ?_); refine box_event ?hg (N := 2) ?hd (cs := #[.string (⟨#[]⟩ : ByteArray), .string (⟨#[]⟩ : ByteArray), .int .i64 0]) (t := 27) ?hr ?_; (case hd => rfl); (case hg => rfl); (case hr => exact ax9); intro gb567 hg w11 hbox hb; have BK567 := Aside0.mk (hbox); have GW567 := uG hg HB; have GE567 := uG hg HB; replace HB := uB HB hb; clear hb hbox hg) | (refine gd 14 50 ?_; refine gc 14 Tryd.func50 #[.string a0] (impl_readRecords.calls k a0 t568 t569 _ (GL.below HG.out ax135) A5.out) ?_; rintro e w12 ⟨v570, v572, rfl, ho0, ho1, hb⟩; refine ⟨_, rfl, ?_⟩; have HO571 := Aside0.mk (Kd.R_lower ho0 (below_size ax135)); have HO573 := Aside0.mk (Kd.R_lower ho1 (below_size ax135)); replace BK567 := ub BK567 hb; replace HB := Aside0.mk (below_step ax135 hb); (try clear hb); (try clear hb2); (try clear hk); (try clear hi); (try clear ho0); (try clear ho1); obtain ⟨Ao13, co13, eo13⟩ := Kd.R_slice HO571.out; subst eo13; obtain ⟨Ao14, co14, eo14⟩ := Kd.R_slice HO573.out; subst eo14; have p574 : 0 ≤ ((t568.length : Int) : Int) := of_decide_eq_true ax12; have q574 : (t568.length : Int) < (t569.length : Int) := of_decide_eq_true ax12; obtain ⟨ad574, e574, hx574_0⟩ := Kd.at_int (Kd.R_reads' HO573.out).2.2 (t568.length : Int) p574 q574; cases e574; (try simp only [Go.IntWalk.toNatUp] at hx574_0); replace p574 := eq_true p574; replace q574 := eq_true q574; have hcz15_0 := bc (.string (⟨#[]⟩ : ByteArray)) BK567 0; have hcz15_1 := bc (.string (⟨#[]⟩ : ByteArray)) BK567 1; have hcz15_2 := bc (.int .i64 0) BK567 2; have hfz15_0 := blk_frozen BK567.out 0; have hfz15_1 := blk_frozen BK567.out 1; have hfz15_2 := blk_frozen BK567.out 2))
      refine bodyPost_ret (results_ctt rfl _ _ gb567 27 #[.string js10, .string (⟨#[]⟩ : ByteArray), .int .i64 (t568.length : Int)] (0, 0) _ rfl (by (with_reducible repeat (first | refine blk_drewN ?_ _ | refine blk_drew ?_ | refine blk_alloc ?_ _)); refine blk_put (cs := #[.string js10, .string (⟨#[]⟩ : ByteArray), .int .i64 0]) ?_ 2 _ rfl; (with_reducible repeat (first | refine blk_drewN ?_ _ | refine blk_drew ?_ | refine blk_alloc ?_ _)); refine blk_put (cs := #[.string js10, .string (⟨#[]⟩ : ByteArray), .int .i64 0]) ?_ 1 _ rfl; (with_reducible repeat (first | refine blk_drewN ?_ _ | refine blk_drew ?_ | refine blk_alloc ?_ _)); refine blk_put (cs := #[.string (⟨#[]⟩ : ByteArray), .string (⟨#[]⟩ : ByteArray), .int .i64 0]) ?_ 0 _ rfl; (with_reducible repeat (first | refine blk_drewN ?_ _ | refine blk_drew ?_ | refine blk_alloc ?_ _)); exact BK567.out) Tryd.underlying27 rfl (by kernel_rfl)) rfl ?_
      exact ⟨(by first | rfl | (simp [errW_none, errW_some] <;> rfl) | (simp only [← hjs10]; first | rfl | (simp [errW_none, errW_some] <;> rfl)) | (simp [*, errW_none, errW_some] <;> rfl)), by repeat (first | (with_reducible first | exact HB.out | apply below_alloc | apply pw_below_drewN | apply below_drew1 | refine below_set ?_ GE567.out) | exact HB.out)⟩
     ·rw [if_neg c9] at H
      exact absurd H (by simp)
    ·rw [if_neg c8] at H
     exact absurd H (by simp)
   ·exact ax5
  ·exact ax2
/-! ### spec_RecoverLog: function 32 -/
def spec_RecoverLog.f (k : Nat) (a0 : ByteArray) : Option (ByteArray × ByteArray × Int × Int × Bool) := if (a0.size : Int) > 30000 then (some ((⟨#[]⟩ : ByteArray), (⟨#[]⟩ : ByteArray), 0, 0, false)) else ((spec_l12Open.f k a0).bind fun bt576 => (if 0 ≤ bt576.2 then (if bt576.2 ≤ (a0.size : Int) then (some (a0.extract 0 (bt576.2 : Int).toNat, (⟨#[]⟩ : ByteArray), (bt576.1.length : Int), bt576.2, true)) else (none)) else (none)))
theorem spec_RecoverLog.mono : ∀ a0 k, LeO (spec_RecoverLog.f k a0) (spec_RecoverLog.f (k + 1) a0) := by
 intro a0 k
 unfold spec_RecoverLog.f
 repeat' first | (with_reducible first | exact spec_l12Open.mono .. | exact LeO.refl _ | exact LeO.none _ | refine LeO.ite ?_ ?_ | refine LeO.bind ?_ (fun _ => ?_)) | exact spec_l12Open.mono .. | exact LeO.none _ | refine LeO.ite ?_ ?_ | refine LeO.bind ?_ (fun _ => ?_)
set_option maxHeartbeats 8000000 in
set_option maxRecDepth 100000 in
theorem spec_RecoverLog.calls (k : Nat) (a0 : ByteArray) (r1 : ByteArray) (r2 : ByteArray) (r3 : Int) (r4 : Int) (r5 : Bool) (w : World) (h : spec_RecoverLog.f k a0 = some (r1, r2, r3, r4, r5)) :
  Calls Tryd.prog 32 #[.string a0] w fun e w' => e = .returned (.tuple #[.agg #[.string r1, .string r2, .int .i64 r3], .int .i64 r4, .bool r5]) ∧ Below w.heap.size w w' := by
 have hu27 := Tryd.underlying27; have HB := Aside0.mk (Below.refl w.heap.size w)
 have H : (if (a0.size : Int) > 30000 then (some ((⟨#[]⟩ : ByteArray), (⟨#[]⟩ : ByteArray), 0, 0, false)) else ((spec_l12Open.f k a0).bind fun bt576 => (if 0 ≤ bt576.2 then (if bt576.2 ≤ (a0.size : Int) then (some (a0.extract 0 (bt576.2 : Int).toNat, (⟨#[]⟩ : ByteArray), (bt576.1.length : Int), bt576.2, true)) else (none)) else (none)))) = some (r1, r2, r3, r4, r5) := h
 clear h
 by_cases c2 : (a0.size : Int) > 30000
 ·rw [if_pos c2] at H
  have c2b0 : decide (30000 < (a0.size : Int)) = true := decide_eq_true c2
  have c2b1 : decide (30000 < a0.size) = true := decide_eq_true (by omega)
  clear c2
  simp only [Option.some.injEq, Prod.mk.injEq] at H
  obtain ⟨rfl, rfl, rfl, rfl, rfl⟩ := H
  go_enter Tryd.func32, Tryd.ntmps32
  go_wp2_with (first | ((with_reducible refine gate_dst (N := 2) rfl ?_); refine box_event ?hg (N := 2) ?hd (cs := #[.string (⟨#[]⟩ : ByteArray), .string (⟨#[]⟩ : ByteArray), .int .i64 0]) (t := 27) ?hr ?_; (case hd => rfl); (case hg => rfl); (case hr => exact ax9); intro gb575 hg w3 hbox hb; have BK575 := Aside0.mk (hbox); have GW575 := uG hg HB; have GE575 := uG hg HB; replace HB := uB HB hb; clear hb hbox hg; have hcz4_0 := bc (.string (⟨#[]⟩ : ByteArray)) BK575 0; have hcz4_1 := bc (.string (⟨#[]⟩ : ByteArray)) BK575 1; have hcz4_2 := bc (.int .i64 0) BK575 2; have hfz4_0 := blk_frozen BK575.out 0; have hfz4_1 := blk_frozen BK575.out 1; have hfz4_2 := blk_frozen BK575.out 2))
  refine bodyPost_ret (results_ctt rfl _ _ gb575 27 #[.string (⟨#[]⟩ : ByteArray), .string (⟨#[]⟩ : ByteArray), .int .i64 0] (0, 0) _ rfl (by (with_reducible repeat (first | refine blk_drewN ?_ _ | refine blk_drew ?_ | refine blk_alloc ?_ _)); refine blk_put (cs := #[.string (⟨#[]⟩ : ByteArray), .string (⟨#[]⟩ : ByteArray), .int .i64 0]) ?_ 2 _ rfl; (with_reducible repeat (first | refine blk_drewN ?_ _ | refine blk_drew ?_ | refine blk_alloc ?_ _)); refine blk_put (cs := #[.string (⟨#[]⟩ : ByteArray), .string (⟨#[]⟩ : ByteArray), .int .i64 0]) ?_ 1 _ rfl; (with_reducible repeat (first | refine blk_drewN ?_ _ | refine blk_drew ?_ | refine blk_alloc ?_ _)); refine blk_put (cs := #[.string (⟨#[]⟩ : ByteArray), .string (⟨#[]⟩ : ByteArray), .int .i64 0]) ?_ 0 _ rfl; (with_reducible repeat (first | refine blk_drewN ?_ _ | refine blk_drew ?_ | refine blk_alloc ?_ _)); exact BK575.out) Tryd.underlying27 rfl (by kernel_rfl)) rfl ?_
  exact ⟨ax18, by repeat (first | (with_reducible first | exact HB.out | apply below_alloc | apply pw_below_drewN | apply below_drew1 | refine below_set ?_ GE575.out) | exact HB.out)⟩
 ·rw [if_neg c2] at H
  have c2b0 : decide (30000 < (a0.size : Int)) = false := decide_eq_false c2
  have c2b1 : decide (30000 < a0.size) = false := decide_eq_false (by omega)
  clear c2
  obtain ⟨⟨t576, t577⟩, A5, H⟩ := bs H
  by_cases c6 : 0 ≤ t577
  ·rw [if_pos c6] at H
   have c6b0 := eq_true c6
   have c6b1 : decide (0 ≤ t577) = true := decide_eq_true c6
   clear c6
   by_cases c7 : t577 ≤ (a0.size : Int)
   ·rw [if_pos c7] at H
    have c7b0 := eq_true c7
    have c7b1 : decide (t577 ≤ (a0.size : Int)) = true := decide_eq_true c7
    clear c7
    obtain ⟨js8, hjs8⟩ : ∃ j_ : ByteArray, (a0.extract 0 (t577 : Int).toNat) = j_ := ⟨_, rfl⟩
    replace H : (some (js8, (⟨#[]⟩ : ByteArray), (t576.length : Int), t577, true)) = some (r1, r2, r3, r4, r5) := by first | (rw [hjs8] at H; exact H) | (simp only [hjs8] at H ⊢; exact H)
    simp only [Option.some.injEq, Prod.mk.injEq] at H
    obtain ⟨rfl, rfl, rfl, rfl, rfl⟩ := H
    go_enter Tryd.func32, Tryd.ntmps32
    go_wp2_with (first | ((with_reducible refine gate_dst (N := 2) rfl ?_); refine box_event ?hg (N := 2) ?hd (cs := #[.string (⟨#[]⟩ : ByteArray), .string (⟨#[]⟩ : ByteArray), .int .i64 0]) (t := 27) ?hr ?_; (case hd => rfl); (case hg => rfl); (case hr => exact ax9); intro gb575 hg w9 hbox hb; have BK575 := Aside0.mk (hbox); have GW575 := uG hg HB; have GE575 := uG hg HB; replace HB := uB HB hb; clear hb hbox hg) | (refine gd 13 47 ?_; refine gc 13 Tryd.func47 #[.string a0] (spec_l12Open.calls k a0 t576 t577 _ A5.out) ?_; rintro e w10 ⟨v578, rfl, ho0, hb⟩; refine ⟨_, rfl, ?_⟩; have HO579 := Aside0.mk (Kd.R_lower ho0 (below_size ax136)); replace BK575 := ub BK575 hb; replace HB := Aside0.mk (below_step ax136 hb); (try clear hb); (try clear hb2); (try clear hk); (try clear hi); (try clear ho0); obtain ⟨Ao11, co11, eo11⟩ := Kd.R_slice HO579.out; subst eo11; have hcz12_0 := bc (.string (⟨#[]⟩ : ByteArray)) BK575 0; have hcz12_1 := bc (.string (⟨#[]⟩ : ByteArray)) BK575 1; have hcz12_2 := bc (.int .i64 0) BK575 2; have hfz12_0 := blk_frozen BK575.out 0; have hfz12_1 := blk_frozen BK575.out 1; have hfz12_2 := blk_frozen BK575.out 2))
    refine bodyPost_ret (results_ctt rfl _ _ gb575 27 #[.string js8, .string (⟨#[]⟩ : ByteArray), .int .i64 (t576.length : Int)] (0, 0) _ rfl (by (with_reducible repeat (first | refine blk_drewN ?_ _ | refine blk_drew ?_ | refine blk_alloc ?_ _)); refine blk_put (cs := #[.string js8, .string (⟨#[]⟩ : ByteArray), .int .i64 0]) ?_ 2 _ rfl; (with_reducible repeat (first | refine blk_drewN ?_ _ | refine blk_drew ?_ | refine blk_alloc ?_ _)); refine blk_put (cs := #[.string js8, .string (⟨#[]⟩ : ByteArray), .int .i64 0]) ?_ 1 _ rfl; (with_reducible repeat (first | refine blk_drewN ?_ _ | refine blk_drew ?_ | refine blk_alloc ?_ _)); refine blk_put (cs := #[.string (⟨#[]⟩ : ByteArray), .string (⟨#[]⟩ : ByteArray), .int .i64 0]) ?_ 0 _ rfl; (with_reducible repeat (first | refine blk_drewN ?_ _ | refine blk_drew ?_ | refine blk_alloc ?_ _)); exact BK575.out) Tryd.underlying27 rfl (by kernel_rfl)) rfl ?_
    exact ⟨(by first | rfl | (simp [errW_none, errW_some] <;> rfl) | (simp only [← hjs8]; first | rfl | (simp [errW_none, errW_some] <;> rfl)) | (simp [*, errW_none, errW_some] <;> rfl)), by repeat (first | (with_reducible first | exact HB.out | apply below_alloc | apply pw_below_drewN | apply below_drew1 | refine below_set ?_ GE575.out) | exact HB.out)⟩
   ·exact ax5
  ·exact ax2
end Go.Proofs.YtnjjchbhbicmoaaDoor.X

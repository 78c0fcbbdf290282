-- By gen.py (the session's own program over the kit's printer): functions of the program, each with its contract. Lean checks it.
import Derived.Test.YtnjjchbhbicmoaaDoorX0
import Derived.Test.YtnjjchbhbicmoaaDoorX1
import Derived.Test.YtnjjchbhbicmoaaDoorX8
import Derived.Test.YtnjjchbhbicmoaaDoorX9
import Derived.Test.YtnjjchbhbicmoaaDoorX10
import Derived.Test.YtnjjchbhbicmoaaDoorX13
import Derived.Test.YtnjjchbhbicmoaaDoorX14
namespace Go.Proofs.YtnjjchbhbicmoaaDoor.X
open Go.RowKit Go.Proofs.YtnjjchbhbicmoaaDoorW.PrintWords Go.Proofs.YtnjjchbhbicmoaaDoorW.PrintLast Go.Proofs.YtnjjchbhbicmoaaDoorW.PrintMore
attribute [local go_sem] max2_int min2_int max_two min_two max_three min_three max_four min_four   -- for this text's walks alone
set_option linter.unusedVariables false
set_option linter.unusedSimpArgs false

attribute [local go_sem high] eqA27
/-! ### laws_FnCrashes: function 5 -/
mutual
def laws_FnCrashes.j0 : Nat → Int → Bool → ByteArray → Bool → Bool → ByteArray → ByteArray → Int → Option (Bool)
 | 0, _, _, _, _, _, _, _, _ => none
 | k + 1, x4, x5, x6, x7, x83, x587000, x587001, x587002 => if x83 = true then (some false) else (if x7 = true then ((impl_RecoverLog.f k x6).bind fun bt607 => (if bt607.2.2.2.2 = true then ((impl_IsValidLog.f k bt607.1 bt607.2.1 bt607.2.2.1).bind fun t613 => (if t613 = true then (if bt607.2.2.2.1 < (x587000.size : Int) then (laws_FnCrashes.j1 k x4 x5 true x587000 x587001 x587002 bt607.1 bt607.2.1 bt607.2.2.1) else (laws_FnCrashes.j1 k x4 x5 ((bt607.1.size : Int) != bt607.2.2.2.1) x587000 x587001 x587002 bt607.1 bt607.2.1 bt607.2.2.1)) else (laws_FnCrashes.j1 k x4 x5 true x587000 x587001 x587002 bt607.1 bt607.2.1 bt607.2.2.1))) else (laws_FnCrashes.j1 k x4 x5 true x587000 x587001 x587002 bt607.1 bt607.2.1 bt607.2.2.1))) else (some true))
def laws_FnCrashes.j1 : Nat → Int → Bool → Bool → ByteArray → ByteArray → Int → ByteArray → ByteArray → Int → Option (Bool)
 | 0, _, _, _, _, _, _, _, _, _ => none
 | k + 1, x4, x5, x112, x587000, x587001, x587002, x613000, x613001, x613002 => if x112 = true then (some false) else ((impl_LogRecords.f k x587000 x587001 x587002).bind fun bt614 => ((impl_LogRecords.f k x613000 x613001 x613002).bind fun bt618 => (if (bt618.1.length : Int) ≤ (bt614.1.length : Int) then (if 0 ≤ (bt618.1.length : Int) then ((laws_vRecords.f k bt618.1 (bt614.1.take ((bt618.1.length : Int) : Int).toNat)).bind fun t626 => (if t626 = true then (if x5 = true then (some true) else (if x4 < (x587001.size : Int) then (some true) else (some ((bt618.1.length : Int) == (bt614.1.length : Int))))) else (some false))) else (none)) else (some false))))
end
def laws_FnCrashes.f (k : Nat) (l0 : List Int) : Option (Bool) := (laws_vBig.f l0).bind fun t580 => (if t580 = true then (some true) else ((spec_DrawCrashLog.f k l0).bind fun bt581 => ((impl_CrashLog.f k bt581.1 bt581.2.1 bt581.2.2.1 bt581.2.2.2.1 bt581.2.2.2.2).bind fun bt587 => ((spec_CrashLog.f k bt581.1 bt581.2.1 bt581.2.2.1 bt581.2.2.2.1 bt581.2.2.2.2).bind fun bt589 => ((laws_vCut.f l0 1).bind fun t591 => ((spec_DrawRecoverLog.f k t591).bind fun t594 => ((impl_RecoverLog.f k t594).bind fun bt595 => ((spec_RecoverLog.f k t594).bind fun bt601 => (if bt587.1.toList = bt589.1.toList then (if (bt587.2 != bt589.2) = true then (laws_FnCrashes.j0 k bt581.2.2.2.1 bt581.2.2.2.2 bt587.1 bt587.2 true bt581.1 bt581.2.1 bt581.2.2.1) else (if (!(bt595.1.toList == bt601.1.toList) || (!(bt595.2.1.toList == bt601.2.1.toList) || (!(bt595.2.2.1 == bt601.2.2.1)))) = true then (laws_FnCrashes.j0 k bt581.2.2.2.1 bt581.2.2.2.2 bt587.1 bt587.2 true bt581.1 bt581.2.1 bt581.2.2.1) else (if bt595.2.2.2.1 = bt601.2.2.2.1 then (laws_FnCrashes.j0 k bt581.2.2.2.1 bt581.2.2.2.2 bt587.1 bt587.2 (bt595.2.2.2.2 != bt601.2.2.2.2) bt581.1 bt581.2.1 bt581.2.2.1) else (laws_FnCrashes.j0 k bt581.2.2.2.1 bt581.2.2.2.2 bt587.1 bt587.2 true bt581.1 bt581.2.1 bt581.2.2.1)))) else (laws_FnCrashes.j0 k bt581.2.2.2.1 bt581.2.2.2.2 bt587.1 bt587.2 true bt581.1 bt581.2.1 bt581.2.2.1))))))))))
theorem laws_FnCrashes.mono_l : ∀ k, (∀ y0 y1 y2 y3 y4 y5 y6 y7, LeO (laws_FnCrashes.j0 k y0 y1 y2 y3 y4 y5 y6 y7) (laws_FnCrashes.j0 (k + 1) y0 y1 y2 y3 y4 y5 y6 y7)) ∧ (∀ y0 y1 y2 y3 y4 y5 y6 y7 y8, LeO (laws_FnCrashes.j1 k y0 y1 y2 y3 y4 y5 y6 y7 y8) (laws_FnCrashes.j1 (k + 1) y0 y1 y2 y3 y4 y5 y6 y7 y8))
 | 0 => ⟨fun _ _ _ _ _ _ _ _ r h => by simp [laws_FnCrashes.j0] at h, fun _ _ _ _ _ _ _ _ _ r h => by simp [laws_FnCrashes.j1] at h⟩
 | k + 1 => by
  obtain ⟨ih0, ih1⟩ := laws_FnCrashes.mono_l k
  refine ⟨?_, ?_⟩ <;> intros
  all_goals (first | unfold laws_FnCrashes.j0 | unfold laws_FnCrashes.j1)
  all_goals (repeat' first | (with_reducible first | exact ih0 .. | exact ih1 .. | exact impl_CrashLog.mono .. | exact impl_IsValidLog.mono .. | exact impl_LogRecords.mono .. | exact impl_RecoverLog.mono .. | exact laws_vRecords.mono .. | exact spec_CrashLog.mono .. | exact spec_DrawCrashLog.mono .. | exact spec_DrawRecoverLog.mono .. | exact spec_RecoverLog.mono .. | exact LeO.refl _ | exact LeO.none _ | refine LeO.ite ?_ ?_ | refine LeO.bind ?_ (fun _ => ?_)) | exact ih0 .. | exact ih1 .. | exact impl_CrashLog.mono .. | exact impl_IsValidLog.mono .. | exact impl_LogRecords.mono .. | exact impl_RecoverLog.mono .. | exact laws_vRecords.mono .. | exact spec_CrashLog.mono .. | exact spec_DrawCrashLog.mono .. | exact spec_DrawRecoverLog.mono .. | exact spec_RecoverLog.mono .. | exact LeO.none _ | refine LeO.ite ?_ ?_ | refine LeO.bind ?_ (fun _ => ?_))
theorem laws_FnCrashes.mono : ∀ a0 k, LeO (laws_FnCrashes.f k a0) (laws_FnCrashes.f (k + 1) a0) := by
 intro a0 k
 obtain ⟨ih0, ih1⟩ := laws_FnCrashes.mono_l k
 unfold laws_FnCrashes.f
 repeat' first | (with_reducible first | exact ih0 .. | exact ih1 .. | exact impl_CrashLog.mono .. | exact impl_IsValidLog.mono .. | exact impl_LogRecords.mono .. | exact impl_RecoverLog.mono .. | exact laws_vRecords.mono .. | exact spec_CrashLog.mono .. | exact spec_DrawCrashLog.mono .. | exact spec_DrawRecoverLog.mono .. | exact spec_RecoverLog.mono .. | exact LeO.refl _ | exact LeO.none _ | refine LeO.ite ?_ ?_ | refine LeO.bind ?_ (fun _ => ?_)) | exact ih0 .. | exact ih1 .. | exact impl_CrashLog.mono .. | exact impl_IsValidLog.mono .. | exact impl_LogRecords.mono .. | exact impl_RecoverLog.mono .. | exact laws_vRecords.mono .. | exact spec_CrashLog.mono .. | exact spec_DrawCrashLog.mono .. | exact spec_DrawRecoverLog.mono .. | exact spec_RecoverLog.mono .. | exact LeO.none _ | refine LeO.ite ?_ ?_ | refine LeO.bind ?_ (fun _ => ?_)
set_option maxHeartbeats 8000000 in
set_option maxRecDepth 100000 in
theorem laws_FnCrashes.calls (k : Nat) (A0 : Option Addr) (c0 : Nat) (l0 : List Int) (r : Bool) (w : World) (hr0 : Kd.C (Kd.int .u8) w A0 l0.length l0) (hc0 : l0.length ≤ c0) (hG : GL w) (h : laws_FnCrashes.f k l0 = some r) (hr_ : r = true) :
  Calls Tryd.prog 5 #[.slice A0 l0.length c0] w fun e w' => e = .returned (.bool r) ∧ Below w.heap.size w w' := by
 have hu27 := Tryd.underlying27; have HR0 := Aside0.mk hr0; have HC0 := Aside0.mk hc0; clear hr0 hc0; have HB := Aside0.mk (Below.refl w.heap.size w); have HG := Aside0.mk hG; clear hG; have HRT := Aside0.mk hr_; clear hr_
 have H : ((laws_vBig.f l0).bind fun t580 => (if t580 = true then (some true) else ((spec_DrawCrashLog.f k l0).bind fun bt581 => ((impl_CrashLog.f k bt581.1 bt581.2.1 bt581.2.2.1 bt581.2.2.2.1 bt581.2.2.2.2).bind fun bt587 => ((spec_CrashLog.f k bt581.1 bt581.2.1 bt581.2.2.1 bt581.2.2.2.1 bt581.2.2.2.2).bind fun bt589 => ((laws_vCut.f l0 1).bind fun t591 => ((spec_DrawRecoverLog.f k t591).bind fun t594 => ((impl_RecoverLog.f k t594).bind fun bt595 => ((spec_RecoverLog.f k t594).bind fun bt601 => (if bt587.1.toList = bt589.1.toList then (if (bt587.2 != bt589.2) = true then (laws_FnCrashes.j0 k bt581.2.2.2.1 bt581.2.2.2.2 bt587.1 bt587.2 true bt581.1 bt581.2.1 bt581.2.2.1) else (if (!(bt595.1.toList == bt601.1.toList) || (!(bt595.2.1.toList == bt601.2.1.toList) || (!(bt595.2.2.1 == bt601.2.2.1)))) = true then (laws_FnCrashes.j0 k bt581.2.2.2.1 bt581.2.2.2.2 bt587.1 bt587.2 true bt581.1 bt581.2.1 bt581.2.2.1) else (if bt595.2.2.2.1 = bt601.2.2.2.1 then (laws_FnCrashes.j0 k bt581.2.2.2.1 bt581.2.2.2.2 bt587.1 bt587.2 (bt595.2.2.2.2 != bt601.2.2.2.2) bt581.1 bt581.2.1 bt581.2.2.1) else (laws_FnCrashes.j0 k bt581.2.2.2.1 bt581.2.2.2.2 bt587.1 bt587.2 true bt581.1 bt581.2.1 bt581.2.2.1)))) else (laws_FnCrashes.j0 k bt581.2.2.2.1 bt581.2.2.2.2 bt587.1 bt587.2 true bt581.1 bt581.2.1 bt581.2.2.1))))))))))) = some r := h
 clear h
 obtain ⟨t580, A2, H⟩ := bs H
 by_cases c3 : t580 = true
 ·subst c3
  rw [if_pos rfl] at H
  as_aux_lemma =>
   obtain rfl := Option.some.inj H
   go_enter Tryd.func5, Tryd.ntmps5
   go_wp2_with (first | (refine gd 25 10 ?_; refine gc 25 Tryd.func10 #[.slice A0 l0.length c0] (laws_vBig.calls _ _ l0 true _ ax137 (HC0.out) A2.out) ?_; rintro e w' ⟨rfl, ⟨nd, rfl⟩⟩; refine ⟨_, rfl, ?_⟩))
   go_ret
   exact ⟨ax18, by repeat (first | (with_reducible first | exact HB.out | apply below_alloc | apply pw_below_drewN | apply below_drew1) | exact HB.out)⟩
 ·replace c3 := Bool.eq_false_iff.mpr c3
  subst c3
  rw [if_neg (show ¬ (false = true) by decide)] at H
  obtain ⟨⟨t581, t582, t583, t584, t585⟩, A4, H⟩ := bs H
  obtain ⟨⟨t587, t588⟩, A5, H⟩ := bs H
  obtain ⟨⟨t589, t590⟩, A6, H⟩ := bs H
  obtain ⟨t591, A7, H⟩ := bs H
  obtain ⟨t594, A8, H⟩ := bs H
  obtain ⟨⟨t595, t596, t597, t598, t599⟩, A9, H⟩ := bs H
  obtain ⟨⟨t601, t602, t603, t604, t605⟩, A10, H⟩ := bs H
  have HC11 := Aside0.mk H; clear H
  go_enter Tryd.func5, Tryd.ntmps5
  go_upto_region 9 with (first | (refine gd 25 10 ?_; refine gc 25 Tryd.func10 #[.slice A0 l0.length c0] (laws_vBig.calls _ _ l0 false _ ax137 (HC0.out) A2.out) ?_; rintro e w' ⟨rfl, ⟨nd, rfl⟩⟩; refine ⟨_, rfl, ?_⟩) | (refine gd 28 29 ?_; refine gc 28 Tryd.func29 #[.slice A0 l0.length c0] (spec_DrawCrashLog.calls k _ _ l0 t581 t582 t583 t584 t585 _ ax137 (HC0.out) A4.out) ?_; rintro e w12 ⟨rfl, hb⟩; refine ⟨_, rfl, ?_⟩; replace HB := uB HB hb; (try clear hb); (try clear hb2); (try clear hk); (try clear hi)) | ((with_reducible refine gate_dst (N := 3) rfl ?_); (try (refine gate_guard (by rfl) ?_; dsimp only)); refine box_event ?hg (N := 3) ?hd (cs := #[.string (⟨#[]⟩ : ByteArray), .string (⟨#[]⟩ : ByteArray), .int .i64 0]) (t := 27) ?hr ?_; (case hd => rfl); (case hg => rfl); (case hr => exact ax9); intro gb586 hg w13 hbox hb; have BK586 := Aside0.mk (hbox); have GW586 := uG hg HB; have GE586 := uG hg HB; replace HB := uB HB hb; clear hb hbox hg; have hcz14_0 := bc (.string (⟨#[]⟩ : ByteArray)) BK586 0; have hcz14_1 := bc (.string (⟨#[]⟩ : ByteArray)) BK586 1; have hcz14_2 := bc (.int .i64 0) BK586 2; have hfz14_0 := blk_frozen BK586.out 0; have hfz14_1 := blk_frozen BK586.out 1; have hfz14_2 := blk_frozen BK586.out 2) | (refine gd 36 9 ?_; refine gc 36 Tryd.func9 #[.agg #[.string t581, .string t582, .int .i64 t583], .int .i64 t584, .bool t585] (impl_CrashLog.calls k t581 t582 t583 t584 t585 t587 t588 _ (GL.below HG.out ax138) A5.out) ?_; rintro e w15 ⟨rfl, hb⟩; refine ⟨_, rfl, ?_⟩; replace BK586 := Aside0.mk (blk_below (g := gb586) (o := .cells #[.string t581, .string t582, .int .i64 t583] 27 (0, 0)) (by (with_reducible repeat (first | refine blk_drewN ?_ _ | refine blk_drew ?_ | refine blk_alloc ?_ _)); refine blk_put (cs := #[.string t581, .string t582, .int .i64 0]) ?_ 2 _ rfl; (with_reducible repeat (first | refine blk_drewN ?_ _ | refine blk_drew ?_ | refine blk_alloc ?_ _)); refine blk_put (cs := #[.string t581, .string (⟨#[]⟩ : ByteArray), .int .i64 0]) ?_ 1 _ rfl; (with_reducible repeat (first | refine blk_drewN ?_ _ | refine blk_drew ?_ | refine blk_alloc ?_ _)); refine blk_put (cs := #[.string (⟨#[]⟩ : ByteArray), .string (⟨#[]⟩ : ByteArray), .int .i64 0]) ?_ 0 _ rfl; (with_reducible repeat (first | refine blk_drewN ?_ _ | refine blk_drew ?_ | refine blk_alloc ?_ _)); exact BK586.out) hb); replace HB := Aside0.mk (below_step ax138 hb); (try clear hb); (try clear hb2); (try clear hk); (try clear hi); have hcz16_0 := bc (.string t581) BK586 0; have hcz16_1 := bc (.string t582) BK586 1; have hcz16_2 := bc (.int .i64 t583) BK586 2; have hfz16_0 := blk_frozen BK586.out 0; have hfz16_1 := blk_frozen BK586.out 1; have hfz16_2 := blk_frozen BK586.out 2) | (refine gd 43 7 ?_; refine gc 43 Tryd.func7 #[.agg #[.string t581, .string t582, .int .i64 t583], .int .i64 t584, .bool t585] (spec_CrashLog.calls k t581 t582 t583 t584 t585 t589 t590 _ A6.out) ?_; rintro e w17 ⟨rfl, hb⟩; refine ⟨_, rfl, ?_⟩; replace BK586 := ub BK586 hb; replace HB := Aside0.mk (below_step ax138 hb); (try clear hb); (try clear hb2); (try clear hk); (try clear hi)) | (refine gd 47 13 ?_; refine gc 47 Tryd.func13 #[.slice A0 l0.length c0, .int .i64 1] (laws_vCut.calls _ _ l0 1 t591 _ ax139 (HC0.out) A7.out) ?_; rintro e w18 ⟨v592, rfl, ho0, hb⟩; refine ⟨_, rfl, ?_⟩; have HO593 := Aside0.mk (Kd.R_lower ho0 (below_size ax138)); replace BK586 := ub BK586 hb; replace HB := Aside0.mk (below_step ax138 hb); (try clear hb); (try clear hb2); (try clear hk); (try clear hi); (try clear ho0); obtain ⟨Ao19, co19, eo19⟩ := Kd.R_slice HO593.out; subst eo19) | (refine gd 48 30 ?_; refine gc 48 Tryd.func30 #[.slice Ao19 t591.length co19] (spec_DrawRecoverLog.calls k _ _ t591 t594 _ (by repeat (first | exact (Kd.R_reads' HO593.out).2.2 | (with_reducible refine Kd.C_alloc ?_ _) | (with_reducible refine Kd.C_drewN ?_ _) | (with_reducible refine Kd.C_drew ?_))) ((Kd.R_reads' HO593.out).2.1) A8.out) ?_; rintro e w20 ⟨rfl, hb⟩; refine ⟨_, rfl, ?_⟩; replace HO593 := uR HO593 hb; replace BK586 := ub BK586 hb; replace HB := Aside0.mk (below_step ax138 hb); (try clear hb); (try clear hb2); (try clear hk); (try clear hi)) | (refine gd 51 31 ?_; refine gc 51 Tryd.func31 #[.string t594] (impl_RecoverLog.calls k t594 t595 t596 t597 t598 t599 _ (GL.below HG.out ax138) A9.out) ?_; rintro e w21 ⟨rfl, hb⟩; refine ⟨_, rfl, ?_⟩; replace HO593 := uR HO593 hb; replace BK586 := ub BK586 hb; replace HB := Aside0.mk (below_step ax138 hb); (try clear hb); (try clear hb2); (try clear hk); (try clear hi)) | ((with_reducible refine gate_dst (N := 11) rfl ?_); (try (refine gate_guard (by rfl) ?_; dsimp only)); refine box_event ?hg (N := 11) ?hd (cs := #[.string (⟨#[]⟩ : ByteArray), .string (⟨#[]⟩ : ByteArray), .int .i64 0]) (t := 27) ?hr ?_; (case hd => rfl); (case hg => rfl); (case hr => exact ax9); intro gb600 hg w22 hbox hb; replace HO593 := uR HO593 hb; have BK600 := Aside0.mk (hbox); have GW600 := Aside0.mk ((ax140 : w.heap.size ≤ gb600)); have GE600 := Aside0.mk ((ax140 : w.heap.size ≤ gb600)); replace HB := Aside0.mk (below_step ax138 hb); have NB586_600 := uN hg BK586; have NB600_586 := uM hg BK586; replace BK586 := ub BK586 hb; clear hb hbox hg; have hnb23 := NB600_586.out; have hnc23 := NB586_600.out; have hcz24_0 := bc (.string (⟨#[]⟩ : ByteArray)) BK600 0; have hcz24_1 := bc (.string (⟨#[]⟩ : ByteArray)) BK600 1; have hcz24_2 := bc (.int .i64 0) BK600 2; have hfz24_0 := blk_frozen BK600.out 0; have hfz24_1 := blk_frozen BK600.out 1; have hfz24_2 := blk_frozen BK600.out 2) | (refine gd 57 32 ?_; refine gc 57 Tryd.func32 #[.string t594] (spec_RecoverLog.calls k t594 t601 t602 t603 t604 t605 _ A10.out) ?_; rintro e w25 ⟨rfl, hb⟩; refine ⟨_, rfl, ?_⟩; replace HO593 := Aside0.mk (Kd.R_below (by (with_reducible repeat (first | apply Kd.R_alloc | apply Kd.R_drewN | apply Kd.R_drew)); exact (Kd.R_mono (Kd.R_far (p := ⟨gb600, 2, none⟩) (Kd.R_far (p := ⟨gb600, 1, none⟩) (Kd.R_far (p := ⟨gb600, 0, none⟩) (Kd.R_types HO593.out BK600.out (by decide)) (fun _ hk => hk.2) (.string t595)) (fun _ hk => hk.2) (.string t596)) (fun _ hk => hk.2) (.int .i64 t597)) (fun _ h_ => h_.1))) hb); replace BK586 := Aside0.mk (blk_below (g := gb586) (o := .cells #[.string t581, .string t582, .int .i64 t583] 27 (0, 0)) (by (with_reducible repeat (first | refine blk_drewN ?_ _ | refine blk_drew ?_ | refine blk_alloc ?_ _)); refine blk_far ?_ NB586_600.out _; (with_reducible repeat (first | refine blk_drewN ?_ _ | refine blk_drew ?_ | refine blk_alloc ?_ _)); refine blk_far ?_ NB586_600.out _; (with_reducible repeat (first | refine blk_drewN ?_ _ | refine blk_drew ?_ | refine blk_alloc ?_ _)); refine blk_far ?_ NB586_600.out _; (with_reducible repeat (first | refine blk_drewN ?_ _ | refine blk_drew ?_ | refine blk_alloc ?_ _)); exact BK586.out) hb); replace BK600 := Aside0.mk (blk_below (g := gb600) (o := .cells #[.string t595, .string t596, .int .i64 t597] 27 (0, 0)) (by (with_reducible repeat (first | refine blk_drewN ?_ _ | refine blk_drew ?_ | refine blk_alloc ?_ _)); refine blk_put (cs := #[.string t595, .string t596, .int .i64 0]) ?_ 2 _ rfl; (with_reducible repeat (first | refine blk_drewN ?_ _ | refine blk_drew ?_ | refine blk_alloc ?_ _)); refine blk_put (cs := #[.string t595, .string (⟨#[]⟩ : ByteArray), .int .i64 0]) ?_ 1 _ rfl; (with_reducible repeat (first | refine blk_drewN ?_ _ | refine blk_drew ?_ | refine blk_alloc ?_ _)); refine blk_put (cs := #[.string (⟨#[]⟩ : ByteArray), .string (⟨#[]⟩ : ByteArray), .int .i64 0]) ?_ 0 _ rfl; (with_reducible repeat (first | refine blk_drewN ?_ _ | refine blk_drew ?_ | refine blk_alloc ?_ _)); exact BK600.out) hb); replace HB := Aside0.mk (below_step ax141 hb); (try clear hb); (try clear hb2); (try clear hk); (try clear hi)) | ((with_reducible refine gate_dst (N := 14) rfl ?_); (try (refine gate_guard (by rfl) ?_; dsimp only)); refine box_event ?hg (N := 14) ?hd (cs := #[.string (⟨#[]⟩ : ByteArray), .string (⟨#[]⟩ : ByteArray), .int .i64 0]) (t := 27) ?hr ?_; (case hd => rfl); (case hg => rfl); (case hr => exact ax9); intro gb606 hg w26 hbox hb; replace HO593 := uR HO593 hb; have BK606 := Aside0.mk (hbox); have GW606 := Aside0.mk ((ax142 : w.heap.size ≤ gb606)); have GE606 := Aside0.mk ((ax142 : w.heap.size ≤ gb606)); replace HB := Aside0.mk (below_step ax141 hb); have NB586_606 := uN hg BK586; have NB606_586 := uM hg BK586; replace BK586 := ub BK586 hb; have NB600_606 := uN hg BK600; have NB606_600 := uM hg BK600; replace BK600 := ub BK600 hb; clear hb hbox hg; have hnb27 := NB606_586.out; have hnc27 := NB586_606.out; have hnb28 := NB606_600.out; have hnc28 := NB600_606.out; have hcz29_0 := bc (.string (⟨#[]⟩ : ByteArray)) BK606 0; have hcz29_1 := bc (.string (⟨#[]⟩ : ByteArray)) BK606 1; have hcz29_2 := bc (.int .i64 0) BK606 2; have hfz29_0 := blk_frozen BK606.out 0; have hfz29_1 := blk_frozen BK606.out 1; have hfz29_2 := blk_frozen BK606.out 2))
  (try simp only [Act.put, List.setIfInBounds_toArray, List.set_cons_zero, List.set_cons_succ])
  go_cut [83] (fun v83 wc => ∃ (kq : Nat) (x83_10 : Bool), v83 = .bool x83_10 ∧ Aside0 (laws_FnCrashes.j0 kq t584 t585 t587 t588 x83_10 t581 t582 t583 = some r) ∧ Aside0 (kq ≤ k) ∧ Aside0 (wc.heap[gb586]? = some (.cells #[.string t581, .string t582, .int .i64 t583] 27 (0, 0))) ∧ Aside0 (wc.heap[gb600]? = some (.cells #[.string t595, .string t596, .int .i64 t597] 27 (0, 0))) ∧ Aside0 (wc.heap[gb606]? = some (.cells #[.string t601, .string t602, .int .i64 t603] 27 (0, 0))) ∧ Aside0 (Below w.heap.size w wc))
  case first =>
   have H := HC11.out; clear HC11
   by_cases c30 : t587.toList = t589.toList
   ·rw [if_pos c30] at H
    have c30b0 : (t587.toList == t589.toList) = true := beq_iff_eq.mpr c30
    have c30b1 : (t587.toList != t589.toList) = false := bne_eq_false_iff_eq.mpr c30
    clear c30
    (first | rw [c30b0] | (simp only [i64_w, i32_w]; rw [c30b0]) | skip)
    by_cases c31 : (t588 != t590) = true
    ·rw [if_pos c31] at H
     have c31b0 : (t588 != t590) = true := c31
     (try (have c31b1 : decide (t588 = t590) = false := by simpa using c31))
     (try (have c31b2 : (t588 == t590) = false := by simpa using c31))
     (try (have c31b3 : ¬ (t588 = t590) := by simpa using c31))
     clear c31
     as_aux_lemma =>
      have H' := Aside0.mk H
      clear H
      go_wp2
      go_meet
      case rel => exact ⟨_, (true), ax10, H', ⟨by first | omega | exact Nat.le_refl _⟩, ⟨ax143⟩, ⟨ax144⟩, ⟨ax145⟩, ⟨ax146⟩⟩
    ·rw [if_neg c31] at H
     have c31b0 : (t588 != t590) = false := by simpa using c31
     (try (have c31b1 : decide (t588 = t590) = true := by simpa using c31))
     (try (have c31b2 : (t588 == t590) = true := by simpa using c31))
     clear c31
     by_cases c32 : (!(t595.toList == t601.toList) || (!(t596.toList == t602.toList) || (!(t597 == t603)))) = true
     ·rw [if_pos c32] at H
      have c32b0 : (!(t595.toList == t601.toList) || (!(t596.toList == t602.toList) || (!(t597 == t603)))) = true := c32
      clear c32
      as_aux_lemma =>
       have H' := Aside0.mk H
       clear H; have hnb33 := NB600_586.out; have hnc33 := NB586_600.out; have hnb34 := NB600_606.out; have hnc34 := NB606_600.out; have hcz35_0 := bc (.string t595) BK600 0; have hcz35_1 := bc (.string t596) BK600 1; have hcz35_2 := bc (.int .i64 t597) BK600 2; have hfz35_0 := blk_frozen BK600.out 0; have hfz35_1 := blk_frozen BK600.out 1; have hfz35_2 := blk_frozen BK600.out 2; have hnb36 := NB606_586.out; have hnc36 := NB586_606.out; have hcz37_0 := bc (.string (⟨#[]⟩ : ByteArray)) BK606 0; have hcz37_1 := bc (.string (⟨#[]⟩ : ByteArray)) BK606 1; have hcz37_2 := bc (.int .i64 0) BK606 2; have hfz37_0 := blk_frozen BK606.out 0; have hfz37_1 := blk_frozen BK606.out 1; have hfz37_2 := blk_frozen BK606.out 2
       go_wp2
       go_meet
       case rel => exact ⟨_, (true), ax10, H', ⟨by first | omega | exact Nat.le_refl _⟩, ⟨ax143⟩, ⟨ax144⟩, ⟨ax145⟩, ⟨ax146⟩⟩
     ·rw [if_neg c32] at H
      have c32b0 : (!(t595.toList == t601.toList) || (!(t596.toList == t602.toList) || (!(t597 == t603)))) = false := by simpa using c32
      clear c32
      by_cases c38 : t598 = t604
      ·rw [if_pos c38] at H
       have c38b0 : (t598 == t604) = true := beq_iff_eq.mpr c38
       have c38b1 : (t598 != t604) = false := bne_eq_false_iff_eq.mpr c38
       clear c38
       as_aux_lemma =>
        have H' := Aside0.mk H
        clear H; have hnb39 := NB600_586.out; have hnc39 := NB586_600.out; have hnb40 := NB600_606.out; have hnc40 := NB606_600.out; have hcz41_0 := bc (.string t595) BK600 0; have hcz41_1 := bc (.string t596) BK600 1; have hcz41_2 := bc (.int .i64 t597) BK600 2; have hfz41_0 := blk_frozen BK600.out 0; have hfz41_1 := blk_frozen BK600.out 1; have hfz41_2 := blk_frozen BK600.out 2; have hnb42 := NB606_586.out; have hnc42 := NB586_606.out; have hcz43_0 := bc (.string (⟨#[]⟩ : ByteArray)) BK606 0; have hcz43_1 := bc (.string (⟨#[]⟩ : ByteArray)) BK606 1; have hcz43_2 := bc (.int .i64 0) BK606 2; have hfz43_0 := blk_frozen BK606.out 0; have hfz43_1 := blk_frozen BK606.out 1; have hfz43_2 := blk_frozen BK606.out 2
        go_wp2
        go_meet
        case rel => exact ⟨_, ((t599 != t605)), ax10, H', ⟨by first | omega | exact Nat.le_refl _⟩, ⟨ax143⟩, ⟨ax144⟩, ⟨ax145⟩, ⟨ax146⟩⟩
      ·rw [if_neg c38] at H
       have c38b0 : (t598 == t604) = false := beq_eq_false_iff_ne.mpr c38
       have c38b1 : (t598 != t604) = true := bne_iff_ne.mpr c38
       as_aux_lemma =>
        have H' := Aside0.mk H
        clear H; have hnb44 := NB600_586.out; have hnc44 := NB586_600.out; have hnb45 := NB600_606.out; have hnc45 := NB606_600.out; have hcz46_0 := bc (.string t595) BK600 0; have hcz46_1 := bc (.string t596) BK600 1; have hcz46_2 := bc (.int .i64 t597) BK600 2; have hfz46_0 := blk_frozen BK600.out 0; have hfz46_1 := blk_frozen BK600.out 1; have hfz46_2 := blk_frozen BK600.out 2; have hnb47 := NB606_586.out; have hnc47 := NB586_606.out; have hcz48_0 := bc (.string (⟨#[]⟩ : ByteArray)) BK606 0; have hcz48_1 := bc (.string (⟨#[]⟩ : ByteArray)) BK606 1; have hcz48_2 := bc (.int .i64 0) BK606 2; have hfz48_0 := blk_frozen BK606.out 0; have hfz48_1 := blk_frozen BK606.out 1; have hfz48_2 := blk_frozen BK606.out 2
        go_wp2
        go_meet
        case rel => exact ⟨_, (true), ax10, H', ⟨by first | omega | exact Nat.le_refl _⟩, ⟨ax143⟩, ⟨ax144⟩, ⟨ax145⟩, ⟨ax146⟩⟩
   ·rw [if_neg c30] at H
    have c30b0 : (t587.toList == t589.toList) = false := beq_eq_false_iff_ne.mpr c30
    have c30b1 : (t587.toList != t589.toList) = true := bne_iff_ne.mpr c30
    (first | rw [c30b0] | (simp only [i64_w, i32_w]; rw [c30b0]) | skip)
    as_aux_lemma =>
     have H' := Aside0.mk H
     clear H
     go_wp2
     go_meet
     case rel => exact ⟨_, (true), ax10, H', ⟨by first | omega | exact Nat.le_refl _⟩, ⟨ax143⟩, ⟨ax144⟩, ⟨ax145⟩, ⟨ax146⟩⟩
  case rest =>
   clear HC11
   try clear c1
   try clear c2
   try clear p2
   try clear c3
   try clear c4
   try clear c5
   try clear c7
   try clear c9
   try clear c10
   try clear c13
   try clear c23
   try clear c27
   try clear c28
   try clear c29
   try clear c30
   try clear c30b0
   try clear c30b1
   try clear c31
   try clear c31b0
   try clear c31b1
   try clear c31b2
   try clear c32
   try clear c32b0
   try clear c33
   try clear c34
   try clear c36
   try clear c38
   try clear c38b0
   try clear c38b1
   try clear c39
   try clear c40
   try clear c42
   try clear c44
   try clear c45
   try clear c47
   try clear hcz14_0
   try clear hcz14_1
   try clear hcz14_2
   try clear hcz16_0
   try clear hcz16_1
   try clear hcz16_2
   try clear hcz24_0
   try clear hcz24_1
   try clear hcz24_2
   try clear hcz29_0
   try clear hcz29_1
   try clear hcz29_2
   try clear hcz35_0
   try clear hcz35_1
   try clear hcz35_2
   try clear hcz37_0
   try clear hcz37_1
   try clear hcz37_2
   try clear hcz41_0
   try clear hcz41_1
   try clear hcz41_2
   try clear hcz43_0
   try clear hcz43_1
   try clear hcz43_2
   try clear hcz46_0
   try clear hcz46_1
   try clear hcz46_2
   try clear hcz48_0
   try clear hcz48_1
   try clear hcz48_2
   try clear hfz14_0
   try clear hfz14_1
   try clear hfz14_2
   try clear hfz16_0
   try clear hfz16_1
   try clear hfz16_2
   try clear hfz24_0
   try clear hfz24_1
   try clear hfz24_2
   try clear hfz29_0
   try clear hfz29_1
   try clear hfz29_2
   try clear hfz35_0
   try clear hfz35_1
   try clear hfz35_2
   try clear hfz37_0
   try clear hfz37_1
   try clear hfz37_2
   try clear hfz41_0
   try clear hfz41_1
   try clear hfz41_2
   try clear hfz43_0
   try clear hfz43_1
   try clear hfz43_2
   try clear hfz46_0
   try clear hfz46_1
   try clear hfz46_2
   try clear hfz48_0
   try clear hfz48_1
   try clear hfz48_2
   obtain ⟨kq, x83_10, rfl, HA, HJ10, BK586, BK600, BK606, HB⟩ := hcut
   cases kq with
   | zero => exact absurd HA.out (by simp [laws_FnCrashes.j0])
   | succ kj10 =>
    have H := HA.out; clear HA
    simp only [laws_FnCrashes.j0] at H
    by_cases c49 : x83_10 = true
    ·subst c49
     rw [if_pos rfl] at H
     as_aux_lemma =>
      exact absurd ((Option.some.inj H).trans HRT.out) (by decide)
    ·replace c49 := Bool.eq_false_iff.mpr c49
     subst c49
     rw [if_neg (show ¬ (false = true) by decide)] at H
     by_cases c50 : t588 = true
     ·subst c50
      rw [if_pos rfl] at H
      obtain ⟨⟨t607, t608, t609, t610, t611⟩, A51, H⟩ := bs H
      have HC52 := Aside0.mk H; clear H
      go_upto_region 14 with (first | (refine gd 88 31 ?_; refine gc 88 Tryd.func31 #[.string t587] (impl_RecoverLog.calls kj10 t587 t607 t608 t609 t610 t611 _ (GL.below HG.out ax146) A51.out) ?_; rintro e w53 ⟨rfl, hb⟩; refine ⟨_, rfl, ?_⟩; replace BK586 := ub BK586 hb; replace BK600 := ub BK600 hb; replace BK606 := ub BK606 hb; replace HB := Aside0.mk (below_step ax146 hb); (try clear hb); (try clear hb2); (try clear hk); (try clear hi)) | ((with_reducible refine gate_dst (N := 17) rfl ?_); (try (refine gate_guard (by rfl) ?_; dsimp only)); refine box_event ?hg (N := 17) ?hd (cs := #[.string (⟨#[]⟩ : ByteArray), .string (⟨#[]⟩ : ByteArray), .int .i64 0]) (t := 27) ?hr ?_; (case hd => rfl); (case hg => rfl); (case hr => exact ax9); intro gb612 hg w54 hbox hb; have BK612 := Aside0.mk (hbox); have GW612 := Aside0.mk ((ax147 : w.heap.size ≤ gb612)); have GE612 := Aside0.mk ((ax147 : w.heap.size ≤ gb612)); replace HB := Aside0.mk (below_step ax146 hb); have NB586_612 := uN hg BK586; have NB612_586 := uM hg BK586; replace BK586 := ub BK586 hb; have NB600_612 := uN hg BK600; have NB612_600 := uM hg BK600; replace BK600 := ub BK600 hb; have NB606_612 := uN hg BK606; have NB612_606 := uM hg BK606; replace BK606 := ub BK606 hb; clear hb hbox hg; have hnb55 := NB612_586.out; have hnc55 := NB586_612.out; have hnb56 := NB612_600.out; have hnc56 := NB600_612.out; have hnb57 := NB612_606.out; have hnc57 := NB606_612.out; have hcz58_0 := bc (.string (⟨#[]⟩ : ByteArray)) BK612 0; have hcz58_1 := bc (.string (⟨#[]⟩ : ByteArray)) BK612 1; have hcz58_2 := bc (.int .i64 0) BK612 2; have hfz58_0 := blk_frozen BK612.out 0; have hfz58_1 := blk_frozen BK612.out 1; have hfz58_2 := blk_frozen BK612.out 2))
      (try simp only [Act.put, List.setIfInBounds_toArray, List.set_cons_zero, List.set_cons_succ])
      go_cut [112] (fun v112 wc => ∃ (kq : Nat) (x112_51 : Bool), v112 = .bool x112_51 ∧ Aside0 (laws_FnCrashes.j1 kq t584 t585 x112_51 t581 t582 t583 t607 t608 t609 = some r) ∧ Aside0 (kq ≤ kj10) ∧ Aside0 (wc.heap[gb586]? = some (.cells #[.string t581, .string t582, .int .i64 t583] 27 (0, 0))) ∧ Aside0 (wc.heap[gb600]? = some (.cells #[.string t595, .string t596, .int .i64 t597] 27 (0, 0))) ∧ Aside0 (wc.heap[gb606]? = some (.cells #[.string t601, .string t602, .int .i64 t603] 27 (0, 0))) ∧ Aside0 (wc.heap[gb612]? = some (.cells #[.string t607, .string t608, .int .i64 t609] 27 (0, 0))) ∧ Aside0 (Below w.heap.size w wc))
      case first =>
       have H := HC52.out; clear HC52
       by_cases c59 : t611 = true
       ·subst c59
        rw [if_pos rfl] at H
        obtain ⟨t613, A60, H⟩ := bs H
        by_cases c61 : t613 = true
        ·subst c61
         rw [if_pos rfl] at H
         by_cases c62 : t610 < (t581.size : Int)
         ·rw [if_pos c62] at H
          have c62b0 : decide (t610 < (t581.size : Int)) = true := decide_eq_true c62
          clear c62
          (first | rw [c62b0] | (simp only [i64_w, i32_w]; rw [c62b0]) | skip)
          as_aux_lemma =>
           have H' := Aside0.mk H
           clear H; have hnb63 := NB612_586.out; have hnc63 := NB586_612.out; have hnb64 := NB612_600.out; have hnc64 := NB600_612.out; have hnb65 := NB612_606.out; have hnc65 := NB606_612.out; have hcz66_0 := bc (.string (⟨#[]⟩ : ByteArray)) BK612 0; have hcz66_1 := bc (.string (⟨#[]⟩ : ByteArray)) BK612 1; have hcz66_2 := bc (.int .i64 0) BK612 2; have hfz66_0 := blk_frozen BK612.out 0; have hfz66_1 := blk_frozen BK612.out 1; have hfz66_2 := blk_frozen BK612.out 2
           go_wp2_with (first | (go_at_call 22; (with_reducible refine (impl_IsValidLog.calls kj10 t607 t608 t609 true _ ?side1 A60.out).mono ?_); (case side1 => exact ax148); rintro e w67 ⟨rfl, hb⟩; replace BK586 := Aside0.mk (blk_below (g := gb586) (o := .cells #[.string t581, .string t582, .int .i64 t583] 27 (0, 0)) ax149 hb); replace BK600 := Aside0.mk (blk_below (g := gb600) (o := .cells #[.string t595, .string t596, .int .i64 t597] 27 (0, 0)) ax150 hb); replace BK606 := Aside0.mk (blk_below (g := gb606) (o := .cells #[.string t601, .string t602, .int .i64 t603] 27 (0, 0)) ax151 hb); replace BK612 := Aside0.mk (blk_below (g := gb612) (o := .cells #[.string t607, .string t608, .int .i64 t609] 27 (0, 0)) ax152 hb); replace HB := Aside0.mk (below_step ax153 hb); (try clear hb); (try clear hb2); (try clear hk); (try clear hi); have hnb68 := NB586_600.out; have hnc68 := NB600_586.out; have hnb69 := NB586_606.out; have hnc69 := NB606_586.out; have hcz70_0 := bc (.string t581) BK586 0; have hcz70_1 := bc (.string t582) BK586 1; have hcz70_2 := bc (.int .i64 t583) BK586 2; have hfz70_0 := blk_frozen BK586.out 0; have hfz70_1 := blk_frozen BK586.out 1; have hfz70_2 := blk_frozen BK586.out 2))
           go_meet
           case rel => exact ⟨_, (true), ax10, H', ⟨ax154⟩, ⟨ax155⟩, ⟨ax156⟩, ⟨ax157⟩, ⟨ax158⟩, ⟨ax153⟩⟩
         ·rw [if_neg c62] at H
          have c62b0 : decide (t610 < (t581.size : Int)) = false := decide_eq_false c62
          clear c62
          (first | rw [c62b0] | (simp only [i64_w, i32_w]; rw [c62b0]) | skip)
          as_aux_lemma =>
           have H' := Aside0.mk H
           clear H; have hnb71 := NB612_586.out; have hnc71 := NB586_612.out; have hnb72 := NB612_600.out; have hnc72 := NB600_612.out; have hnb73 := NB612_606.out; have hnc73 := NB606_612.out; have hcz74_0 := bc (.string (⟨#[]⟩ : ByteArray)) BK612 0; have hcz74_1 := bc (.string (⟨#[]⟩ : ByteArray)) BK612 1; have hcz74_2 := bc (.int .i64 0) BK612 2; have hfz74_0 := blk_frozen BK612.out 0; have hfz74_1 := blk_frozen BK612.out 1; have hfz74_2 := blk_frozen BK612.out 2
           go_wp2_with (first | (go_at_call 22; (with_reducible refine (impl_IsValidLog.calls kj10 t607 t608 t609 true _ ?side1 A60.out).mono ?_); (case side1 => exact ax148); rintro e w75 ⟨rfl, hb⟩; replace BK586 := Aside0.mk (blk_below (g := gb586) (o := .cells #[.string t581, .string t582, .int .i64 t583] 27 (0, 0)) ax149 hb); replace BK600 := Aside0.mk (blk_below (g := gb600) (o := .cells #[.string t595, .string t596, .int .i64 t597] 27 (0, 0)) ax150 hb); replace BK606 := Aside0.mk (blk_below (g := gb606) (o := .cells #[.string t601, .string t602, .int .i64 t603] 27 (0, 0)) ax151 hb); replace BK612 := Aside0.mk (blk_below (g := gb612) (o := .cells #[.string t607, .string t608, .int .i64 t609] 27 (0, 0)) ax152 hb); replace HB := Aside0.mk (below_step ax153 hb); (try clear hb); (try clear hb2); (try clear hk); (try clear hi); have hnb76 := NB586_600.out; have hnc76 := NB600_586.out; have hnb77 := NB586_606.out; have hnc77 := NB606_586.out; have hcz78_0 := bc (.string t581) BK586 0; have hcz78_1 := bc (.string t582) BK586 1; have hcz78_2 := bc (.int .i64 t583) BK586 2; have hfz78_0 := blk_frozen BK586.out 0; have hfz78_1 := blk_frozen BK586.out 1; have hfz78_2 := blk_frozen BK586.out 2; have hcz79_0 := bc (.string t607) BK612 0; have hcz79_1 := bc (.string t608) BK612 1; have hcz79_2 := bc (.int .i64 t609) BK612 2; have hfz79_0 := blk_frozen BK612.out 0; have hfz79_1 := blk_frozen BK612.out 1; have hfz79_2 := blk_frozen BK612.out 2))
           go_meet
           case rel => exact ⟨_, (((t607.size : Int) != t610)), ax10, H', ⟨ax154⟩, ⟨ax155⟩, ⟨ax156⟩, ⟨ax157⟩, ⟨ax158⟩, ⟨ax153⟩⟩
        ·replace c61 := Bool.eq_false_iff.mpr c61
         subst c61
         rw [if_neg (show ¬ (false = true) by decide)] at H
         as_aux_lemma =>
          have H' := Aside0.mk H
          clear H; have hnb80 := NB612_586.out; have hnc80 := NB586_612.out; have hnb81 := NB612_600.out; have hnc81 := NB600_612.out; have hnb82 := NB612_606.out; have hnc82 := NB606_612.out; have hcz83_0 := bc (.string (⟨#[]⟩ : ByteArray)) BK612 0; have hcz83_1 := bc (.string (⟨#[]⟩ : ByteArray)) BK612 1; have hcz83_2 := bc (.int .i64 0) BK612 2; have hfz83_0 := blk_frozen BK612.out 0; have hfz83_1 := blk_frozen BK612.out 1; have hfz83_2 := blk_frozen BK612.out 2
          go_wp2_with (first | (go_at_call 22; (with_reducible refine (impl_IsValidLog.calls kj10 t607 t608 t609 false _ ?side1 A60.out).mono ?_); (case side1 => exact ax148); rintro e w84 ⟨rfl, hb⟩; replace BK586 := Aside0.mk (blk_below (g := gb586) (o := .cells #[.string t581, .string t582, .int .i64 t583] 27 (0, 0)) ax149 hb); replace BK600 := Aside0.mk (blk_below (g := gb600) (o := .cells #[.string t595, .string t596, .int .i64 t597] 27 (0, 0)) ax150 hb); replace BK606 := Aside0.mk (blk_below (g := gb606) (o := .cells #[.string t601, .string t602, .int .i64 t603] 27 (0, 0)) ax151 hb); replace BK612 := Aside0.mk (blk_below (g := gb612) (o := .cells #[.string t607, .string t608, .int .i64 t609] 27 (0, 0)) ax152 hb); replace HB := Aside0.mk (below_step ax153 hb); (try clear hb); (try clear hb2); (try clear hk); (try clear hi)))
          go_meet
          case rel => exact ⟨_, (true), ax10, H', ⟨ax154⟩, ⟨ax155⟩, ⟨ax156⟩, ⟨ax157⟩, ⟨ax158⟩, ⟨ax153⟩⟩
       ·replace c59 := Bool.eq_false_iff.mpr c59
        subst c59
        rw [if_neg (show ¬ (false = true) by decide)] at H
        as_aux_lemma =>
         have H' := Aside0.mk H
         clear H
         go_wp2
         go_meet
         case rel => exact ⟨_, (true), ax10, H', ⟨ax154⟩, ⟨ax149⟩, ⟨ax150⟩, ⟨ax151⟩, ⟨ax152⟩, ⟨ax153⟩⟩
      case rest =>
       clear HC52
       try clear c1
       try clear c2
       try clear p2
       try clear c3
       try clear c4
       try clear c5
       try clear c6
       try clear c7
       try clear c8
       try clear c9
       try clear c10
       try clear c13
       try clear c23
       try clear c27
       try clear c28
       try clear c29
       try clear c30
       try clear c30b0
       try clear c30b1
       try clear c31
       try clear c31b0
       try clear c31b1
       try clear c31b2
       try clear c32
       try clear c32b0
       try clear c33
       try clear c34
       try clear c36
       try clear c38
       try clear c38b0
       try clear c38b1
       try clear c39
       try clear c40
       try clear c42
       try clear c44
       try clear c45
       try clear c47
       try clear c49
       try clear c50
       try clear c55
       try clear c56
       try clear c57
       try clear c59
       try clear c61
       try clear c62
       try clear c62b0
       try clear c63
       try clear c64
       try clear c65
       try clear c68
       try clear c69
       try clear c71
       try clear c72
       try clear c73
       try clear c76
       try clear c77
       try clear c80
       try clear c81
       try clear c82
       try clear hcz14_0
       try clear hcz14_1
       try clear hcz14_2
       try clear hcz16_0
       try clear hcz16_1
       try clear hcz16_2
       try clear hcz24_0
       try clear hcz24_1
       try clear hcz24_2
       try clear hcz29_0
       try clear hcz29_1
       try clear hcz29_2
       try clear hcz35_0
       try clear hcz35_1
       try clear hcz35_2
       try clear hcz37_0
       try clear hcz37_1
       try clear hcz37_2
       try clear hcz41_0
       try clear hcz41_1
       try clear hcz41_2
       try clear hcz43_0
       try clear hcz43_1
       try clear hcz43_2
       try clear hcz46_0
       try clear hcz46_1
       try clear hcz46_2
       try clear hcz48_0
       try clear hcz48_1
       try clear hcz48_2
       try clear hcz58_0
       try clear hcz58_1
       try clear hcz58_2
       try clear hcz66_0
       try clear hcz66_1
       try clear hcz66_2
       try clear hcz70_0
       try clear hcz70_1
       try clear hcz70_2
       try clear hcz74_0
       try clear hcz74_1
       try clear hcz74_2
       try clear hcz78_0
       try clear hcz78_1
       try clear hcz78_2
       try clear hcz79_0
       try clear hcz79_1
       try clear hcz79_2
       try clear hcz83_0
       try clear hcz83_1
       try clear hcz83_2
       try clear hfz14_0
       try clear hfz14_1
       try clear hfz14_2
       try clear hfz16_0
       try clear hfz16_1
       try clear hfz16_2
       try clear hfz24_0
       try clear hfz24_1
       try clear hfz24_2
       try clear hfz29_0
       try clear hfz29_1
       try clear hfz29_2
       try clear hfz35_0
       try clear hfz35_1
       try clear hfz35_2
       try clear hfz37_0
       try clear hfz37_1
       try clear hfz37_2
       try clear hfz41_0
       try clear hfz41_1
       try clear hfz41_2
       try clear hfz43_0
       try clear hfz43_1
       try clear hfz43_2
       try clear hfz46_0
       try clear hfz46_1
       try clear hfz46_2
       try clear hfz48_0
       try clear hfz48_1
       try clear hfz48_2
       try clear hfz58_0
       try clear hfz58_1
       try clear hfz58_2
       try clear hfz66_0
       try clear hfz66_1
       try clear hfz66_2
       try clear hfz70_0
       try clear hfz70_1
       try clear hfz70_2
       try clear hfz74_0
       try clear hfz74_1
       try clear hfz74_2
       try clear hfz78_0
       try clear hfz78_1
       try clear hfz78_2
       try clear hfz79_0
       try clear hfz79_1
       try clear hfz79_2
       try clear hfz83_0
       try clear hfz83_1
       try clear hfz83_2
       try clear p2
       obtain ⟨kq, x112_51, rfl, HA, HJ51, BK586, BK600, BK606, BK612, HB⟩ := hcut
       cases kq with
       | zero => exact absurd HA.out (by simp [laws_FnCrashes.j1])
       | succ kj51 =>
        have H := HA.out; clear HA
        simp only [laws_FnCrashes.j1] at H
        by_cases c85 : x112_51 = true
        ·subst c85
         rw [if_pos rfl] at H
         as_aux_lemma =>
          exact absurd ((Option.some.inj H).trans HRT.out) (by decide)
        ·replace c85 := Bool.eq_false_iff.mpr c85
         subst c85
         rw [if_neg (show ¬ (false = true) by decide)] at H
         obtain ⟨⟨t614, t617⟩, A86, H⟩ := bs H
         obtain ⟨⟨t618, t621⟩, A87, H⟩ := bs H
         by_cases c88 : (t618.length : Int) ≤ (t614.length : Int)
         ·rw [if_pos c88] at H
          have c88b0 : decide ((t618.length : Int) ≤ (t614.length : Int)) = true := decide_eq_true c88
          have c88b1 : decide (t618.length ≤ t614.length) = true := decide_eq_true (Int.ofNat_le.mp c88)
          clear c88
          by_cases c89 : 0 ≤ (t618.length : Int)
          ·rw [if_pos c89] at H
           have c89b0 := eq_true c89
           have c89b1 : decide (0 ≤ (t618.length : Int)) = true := decide_eq_true c89
           clear c89; have c90b0 := eq_true (of_decide_eq_true ax12 : (t618.length : Int) ≤ (t614.length : Int))
           obtain ⟨y622, hy622⟩ : ∃ y_ : List (S33), y_ = (t614.take ((t618.length : Int) : Int).toNat) := ⟨_, rfl⟩
           replace H : ((laws_vRecords.f kj51 t618 y622).bind fun t626 => (if t626 = true then (if t585 = true then (some true) else (if t584 < (t582.size : Int) then (some true) else (some ((t618.length : Int) == (t614.length : Int))))) else (some false))) = some r := by first | (rw [hy622]; with_reducible exact H) | (have H2_ := (Option.bind_some _ _).symm.trans H; rw [hy622]; with_reducible exact H2_) | (have H2_ := (Option.bind_some _ _).symm.trans H; with_reducible exact H2_) | with_reducible exact H | (rw [hy622]; exact H) | exact H
           have Ny622 := Aside0.mk hy622; clear hy622
           obtain ⟨t626, A91, H⟩ := bs H
           by_cases c92 : t626 = true
           ·subst c92
            rw [if_pos rfl] at H
            by_cases c93 : t585 = true
            ·subst c93
             rw [if_pos rfl] at H
             as_aux_lemma =>
              obtain rfl := Option.some.inj H
              have hnb94 := NB586_600.out; have hnc94 := NB600_586.out; have hnb95 := NB586_606.out; have hnc95 := NB606_586.out; have hnb96 := NB586_612.out; have hnc96 := NB612_586.out; have hcz97_0 := bc (.string t581) BK586 0; have hcz97_1 := bc (.string t582) BK586 1; have hcz97_2 := bc (.int .i64 t583) BK586 2; have hfz97_0 := blk_frozen BK586.out 0; have hfz97_1 := blk_frozen BK586.out 1; have hfz97_2 := blk_frozen BK586.out 2
              go_wp2_with (first | (refine gd 115 26 ?_; refine gc 115 Tryd.func26 #[.agg #[.string t581, .string t582, .int .i64 t583]] (impl_LogRecords.calls kj51 t581 t582 t583 t614 t617 _ (GL.below HG.out ax153) A86.out) ?_; rintro e w98 ⟨v615, rfl, ho0, hb⟩; refine ⟨_, rfl, ?_⟩; have HO616 := Aside0.mk (Kd.R_lower ho0 (below_size ax153)); replace BK586 := ub BK586 hb; replace BK600 := ub BK600 hb; replace BK606 := ub BK606 hb; replace BK612 := ub BK612 hb; replace HB := Aside0.mk (below_step ax153 hb); (try clear hb); (try clear hb2); (try clear hk); (try clear hi); (try clear ho0); have hnb99 := NB612_600.out; have hnc99 := NB600_612.out; have hnb100 := NB612_606.out; have hnc100 := NB606_612.out; have hcz101_0 := bc (.string t607) BK612 0; have hcz101_1 := bc (.string t608) BK612 1; have hcz101_2 := bc (.int .i64 t609) BK612 2; have hfz101_0 := blk_frozen BK612.out 0; have hfz101_1 := blk_frozen BK612.out 1; have hfz101_2 := blk_frozen BK612.out 2) | (refine gd 120 26 ?_; refine gc 120 Tryd.func26 #[.agg #[.string t607, .string t608, .int .i64 t609]] (impl_LogRecords.calls kj51 t607 t608 t609 t618 t621 _ (GL.below HG.out ax153) A87.out) ?_; rintro e w102 ⟨v619, rfl, ho0, hb⟩; refine ⟨_, rfl, ?_⟩; have HO620 := Aside0.mk (Kd.R_lower (Kd.R_new' ho0 (Kd.R_lt ax159)) (below_size ax153)); replace HO616 := Aside0.mk (Kd.R_elder' ax159 (Kd.R_base ho0) hb); replace BK586 := ub BK586 hb; replace BK600 := ub BK600 hb; replace BK606 := ub BK606 hb; replace BK612 := ub BK612 hb; replace HB := Aside0.mk (below_step ax153 hb); (try clear hb); (try clear hb2); (try clear hk); (try clear hi); (try clear ho0); obtain ⟨Ao103, co103, eo103⟩ := Kd.R_slice HO620.out; subst eo103; obtain ⟨Ao104, co104, eo104⟩ := Kd.R_slice HO616.out; subst eo104; have q105 : ((t618.length : Int) : Int) ≤ ((t614.length : Int) : Int) := of_decide_eq_true ax12; obtain ⟨i0105, hi0105, _, hsz105, _⟩ := info_parts info33; have hroom105 : t614.length ≤ co104 := (Kd.R_reads' HO616.out).2.1; have hC105 : Kd.C k33 _ Ao104 t614.length t614 := (Kd.R_reads' HO616.out).2.2; have hcut105 := cut_to (P := Tryd.prog) 48 33 .i64 Tryd.underlying48 hi0105 Ao104 t614.length co104 (t618.length : Int) (of_decide_eq_true ax12) q105 hroom105; have hr105 := Kd.C_take (m := ((t618.length : Int) : Int).toNat) hC105 (by omega); have hy105 : y622.length = ((t618.length : Int) : Int).toNat := ax160; rw [← Ny622.out] at hr105; rw [← hy105] at hcut105; have HR625 := Aside0.mk hr105; have HC625 := Aside0.mk (show y622.length ≤ co104 from by omega); clear hr105 hC105 hroom105 hi0105 hsz105; have KY105 := Aside0.mk hy105; clear hy105; have KL105 := Aside0.mk (show ((t618.length : Int) : Int).toNat ≤ t614.length from by omega); replace q105 := eq_true q105) | (go_at_call 28; (with_reducible refine (laws_vRecords.calls kj51 _ _ t618 _ _ y622 true _ ?side1 ?side2 ?side3 ?side4 A91.out).mono ?_); (case side1 => exact ax161); (case side2 => exact (Kd.R_reads' HO620.out).2.1); (case side3 => exact ax162); (case side4 => exact HC625.out); rintro e w' ⟨rfl, ⟨nd, rfl⟩⟩))
              go_ret
              exact ⟨ax18, by repeat (first | (with_reducible first | exact HB.out | apply below_alloc | apply pw_below_drewN | apply below_drew1 | refine below_set ?_ GE586.out | refine below_set ?_ GE600.out | refine below_set ?_ GE606.out | refine below_set ?_ GE612.out) | exact HB.out)⟩
            ·replace c93 := Bool.eq_false_iff.mpr c93
             subst c93
             rw [if_neg (show ¬ (false = true) by decide)] at H
             by_cases c106 : t584 < (t582.size : Int)
             ·rw [if_pos c106] at H
              have c106b0 : decide (t584 < (t582.size : Int)) = true := decide_eq_true c106
              clear c106
              as_aux_lemma =>
               obtain rfl := Option.some.inj H
               have hnb107 := NB586_600.out; have hnc107 := NB600_586.out; have hnb108 := NB586_606.out; have hnc108 := NB606_586.out; have hnb109 := NB586_612.out; have hnc109 := NB612_586.out; have hcz110_0 := bc (.string t581) BK586 0; have hcz110_1 := bc (.string t582) BK586 1; have hcz110_2 := bc (.int .i64 t583) BK586 2; have hfz110_0 := blk_frozen BK586.out 0; have hfz110_1 := blk_frozen BK586.out 1; have hfz110_2 := blk_frozen BK586.out 2
               go_wp2_with (first | (refine gd 115 26 ?_; refine gc 115 Tryd.func26 #[.agg #[.string t581, .string t582, .int .i64 t583]] (impl_LogRecords.calls kj51 t581 t582 t583 t614 t617 _ (GL.below HG.out ax153) A86.out) ?_; rintro e w111 ⟨v615, rfl, ho0, hb⟩; refine ⟨_, rfl, ?_⟩; have HO616 := Aside0.mk (Kd.R_lower ho0 (below_size ax153)); replace BK586 := ub BK586 hb; replace BK600 := ub BK600 hb; replace BK606 := ub BK606 hb; replace BK612 := ub BK612 hb; replace HB := Aside0.mk (below_step ax153 hb); (try clear hb); (try clear hb2); (try clear hk); (try clear hi); (try clear ho0); have hnb112 := NB612_600.out; have hnc112 := NB600_612.out; have hnb113 := NB612_606.out; have hnc113 := NB606_612.out; have hcz114_0 := bc (.string t607) BK612 0; have hcz114_1 := bc (.string t608) BK612 1; have hcz114_2 := bc (.int .i64 t609) BK612 2; have hfz114_0 := blk_frozen BK612.out 0; have hfz114_1 := blk_frozen BK612.out 1; have hfz114_2 := blk_frozen BK612.out 2) | (refine gd 120 26 ?_; refine gc 120 Tryd.func26 #[.agg #[.string t607, .string t608, .int .i64 t609]] (impl_LogRecords.calls kj51 t607 t608 t609 t618 t621 _ (GL.below HG.out ax153) A87.out) ?_; rintro e w115 ⟨v619, rfl, ho0, hb⟩; refine ⟨_, rfl, ?_⟩; have HO620 := Aside0.mk (Kd.R_lower (Kd.R_new' ho0 (Kd.R_lt ax159)) (below_size ax153)); replace HO616 := Aside0.mk (Kd.R_elder' ax159 (Kd.R_base ho0) hb); replace BK586 := ub BK586 hb; replace BK600 := ub BK600 hb; replace BK606 := ub BK606 hb; replace BK612 := ub BK612 hb; replace HB := Aside0.mk (below_step ax153 hb); (try clear hb); (try clear hb2); (try clear hk); (try clear hi); (try clear ho0); obtain ⟨Ao116, co116, eo116⟩ := Kd.R_slice HO620.out; subst eo116; obtain ⟨Ao117, co117, eo117⟩ := Kd.R_slice HO616.out; subst eo117; have q118 : ((t618.length : Int) : Int) ≤ ((t614.length : Int) : Int) := of_decide_eq_true ax12; obtain ⟨i0118, hi0118, _, hsz118, _⟩ := info_parts info33; have hroom118 : t614.length ≤ co117 := (Kd.R_reads' HO616.out).2.1; have hC118 : Kd.C k33 _ Ao117 t614.length t614 := (Kd.R_reads' HO616.out).2.2; have hcut118 := cut_to (P := Tryd.prog) 48 33 .i64 Tryd.underlying48 hi0118 Ao117 t614.length co117 (t618.length : Int) (of_decide_eq_true ax12) q118 hroom118; have hr118 := Kd.C_take (m := ((t618.length : Int) : Int).toNat) hC118 (by omega); have hy118 : y622.length = ((t618.length : Int) : Int).toNat := ax160; rw [← Ny622.out] at hr118; rw [← hy118] at hcut118; have HR625 := Aside0.mk hr118; have HC625 := Aside0.mk (show y622.length ≤ co117 from by omega); clear hr118 hC118 hroom118 hi0118 hsz118; have KY118 := Aside0.mk hy118; clear hy118; have KL118 := Aside0.mk (show ((t618.length : Int) : Int).toNat ≤ t614.length from by omega); replace q118 := eq_true q118) | (go_at_call 28; (with_reducible refine (laws_vRecords.calls kj51 _ _ t618 _ _ y622 true _ ?side1 ?side2 ?side3 ?side4 A91.out).mono ?_); (case side1 => exact ax161); (case side2 => exact (Kd.R_reads' HO620.out).2.1); (case side3 => exact ax162); (case side4 => exact HC625.out); rintro e w' ⟨rfl, ⟨nd, rfl⟩⟩; have hcz119_0 := bc (.string t581) BK586 0; have hcz119_1 := bc (.string t582) BK586 1; have hcz119_2 := bc (.int .i64 t583) BK586 2; have hfz119_0 := blk_frozen BK586.out 0; have hfz119_1 := blk_frozen BK586.out 1; have hfz119_2 := blk_frozen BK586.out 2))
               go_ret
               exact ⟨ax18, by repeat (first | (with_reducible first | exact HB.out | apply below_alloc | apply pw_below_drewN | apply below_drew1 | refine below_set ?_ GE586.out | refine below_set ?_ GE600.out | refine below_set ?_ GE606.out | refine below_set ?_ GE612.out) | exact HB.out)⟩
             ·rw [if_neg c106] at H
              have c106b0 : decide (t584 < (t582.size : Int)) = false := decide_eq_false c106
              clear c106
              as_aux_lemma =>
               obtain rfl := Option.some.inj H
               have hnb120 := NB586_600.out; have hnc120 := NB600_586.out; have hnb121 := NB586_606.out; have hnc121 := NB606_586.out; have hnb122 := NB586_612.out; have hnc122 := NB612_586.out; have hcz123_0 := bc (.string t581) BK586 0; have hcz123_1 := bc (.string t582) BK586 1; have hcz123_2 := bc (.int .i64 t583) BK586 2; have hfz123_0 := blk_frozen BK586.out 0; have hfz123_1 := blk_frozen BK586.out 1; have hfz123_2 := blk_frozen BK586.out 2
               go_wp2_with (first | (refine gd 115 26 ?_; refine gc 115 Tryd.func26 #[.agg #[.string t581, .string t582, .int .i64 t583]] (impl_LogRecords.calls kj51 t581 t582 t583 t614 t617 _ (GL.below HG.out ax153) A86.out) ?_; rintro e w124 ⟨v615, rfl, ho0, hb⟩; refine ⟨_, rfl, ?_⟩; have HO616 := Aside0.mk (Kd.R_lower ho0 (below_size ax153)); replace BK586 := ub BK586 hb; replace BK600 := ub BK600 hb; replace BK606 := ub BK606 hb; replace BK612 := ub BK612 hb; replace HB := Aside0.mk (below_step ax153 hb); (try clear hb); (try clear hb2); (try clear hk); (try clear hi); (try clear ho0); have hnb125 := NB612_600.out; have hnc125 := NB600_612.out; have hnb126 := NB612_606.out; have hnc126 := NB606_612.out; have hcz127_0 := bc (.string t607) BK612 0; have hcz127_1 := bc (.string t608) BK612 1; have hcz127_2 := bc (.int .i64 t609) BK612 2; have hfz127_0 := blk_frozen BK612.out 0; have hfz127_1 := blk_frozen BK612.out 1; have hfz127_2 := blk_frozen BK612.out 2) | (refine gd 120 26 ?_; refine gc 120 Tryd.func26 #[.agg #[.string t607, .string t608, .int .i64 t609]] (impl_LogRecords.calls kj51 t607 t608 t609 t618 t621 _ (GL.below HG.out ax153) A87.out) ?_; rintro e w128 ⟨v619, rfl, ho0, hb⟩; refine ⟨_, rfl, ?_⟩; have HO620 := Aside0.mk (Kd.R_lower (Kd.R_new' ho0 (Kd.R_lt ax159)) (below_size ax153)); replace HO616 := Aside0.mk (Kd.R_elder' ax159 (Kd.R_base ho0) hb); replace BK586 := ub BK586 hb; replace BK600 := ub BK600 hb; replace BK606 := ub BK606 hb; replace BK612 := ub BK612 hb; replace HB := Aside0.mk (below_step ax153 hb); (try clear hb); (try clear hb2); (try clear hk); (try clear hi); (try clear ho0); obtain ⟨Ao129, co129, eo129⟩ := Kd.R_slice HO620.out; subst eo129; obtain ⟨Ao130, co130, eo130⟩ := Kd.R_slice HO616.out; subst eo130; have q131 : ((t618.length : Int) : Int) ≤ ((t614.length : Int) : Int) := of_decide_eq_true ax12; obtain ⟨i0131, hi0131, _, hsz131, _⟩ := info_parts info33; have hroom131 : t614.length ≤ co130 := (Kd.R_reads' HO616.out).2.1; have hC131 : Kd.C k33 _ Ao130 t614.length t614 := (Kd.R_reads' HO616.out).2.2; have hcut131 := cut_to (P := Tryd.prog) 48 33 .i64 Tryd.underlying48 hi0131 Ao130 t614.length co130 (t618.length : Int) (of_decide_eq_true ax12) q131 hroom131; have hr131 := Kd.C_take (m := ((t618.length : Int) : Int).toNat) hC131 (by omega); have hy131 : y622.length = ((t618.length : Int) : Int).toNat := ax160; rw [← Ny622.out] at hr131; rw [← hy131] at hcut131; have HR625 := Aside0.mk hr131; have HC625 := Aside0.mk (show y622.length ≤ co130 from by omega); clear hr131 hC131 hroom131 hi0131 hsz131; have KY131 := Aside0.mk hy131; clear hy131; have KL131 := Aside0.mk (show ((t618.length : Int) : Int).toNat ≤ t614.length from by omega); replace q131 := eq_true q131) | (go_at_call 28; (with_reducible refine (laws_vRecords.calls kj51 _ _ t618 _ _ y622 true _ ?side1 ?side2 ?side3 ?side4 A91.out).mono ?_); (case side1 => exact ax161); (case side2 => exact (Kd.R_reads' HO620.out).2.1); (case side3 => exact ax162); (case side4 => exact HC625.out); rintro e w' ⟨rfl, ⟨nd, rfl⟩⟩; have hcz132_0 := bc (.string t581) BK586 0; have hcz132_1 := bc (.string t582) BK586 1; have hcz132_2 := bc (.int .i64 t583) BK586 2; have hfz132_0 := blk_frozen BK586.out 0; have hfz132_1 := blk_frozen BK586.out 1; have hfz132_2 := blk_frozen BK586.out 2))
               go_ret
               exact ⟨ax18, by repeat (first | (with_reducible first | exact HB.out | apply below_alloc | apply pw_below_drewN | apply below_drew1 | refine below_set ?_ GE586.out | refine below_set ?_ GE600.out | refine below_set ?_ GE606.out | refine below_set ?_ GE612.out) | exact HB.out)⟩
           ·replace c92 := Bool.eq_false_iff.mpr c92
            subst c92
            rw [if_neg (show ¬ (false = true) by decide)] at H
            as_aux_lemma =>
             exact absurd ((Option.some.inj H).trans HRT.out) (by decide)
          ·rw [if_neg c89] at H
           exact absurd H (by simp)
         ·rw [if_neg c88] at H
          have c88b0 : decide ((t618.length : Int) ≤ (t614.length : Int)) = false := decide_eq_false c88
          have c88b1 : decide (t618.length ≤ t614.length) = false := decide_eq_false (fun h => c88 (Int.ofNat_le.mpr h))
          clear c88
          as_aux_lemma =>
           exact absurd ((Option.some.inj H).trans HRT.out) (by decide)
     ·replace c50 := Bool.eq_false_iff.mpr c50
      subst c50
      rw [if_neg (show ¬ (false = true) by decide)] at H
      as_aux_lemma =>
       obtain rfl := Option.some.inj H
       go_wp2
       go_ret
       exact ⟨ax18, by repeat (first | (with_reducible first | exact HB.out | apply below_alloc | apply pw_below_drewN | apply below_drew1 | refine below_set ?_ GE586.out | refine below_set ?_ GE600.out | refine below_set ?_ GE606.out) | exact HB.out)⟩

end Go.Proofs.YtnjjchbhbicmoaaDoor.X

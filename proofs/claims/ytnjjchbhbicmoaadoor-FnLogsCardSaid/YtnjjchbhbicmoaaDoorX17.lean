-- By gen.py (the session's own program over the kit's printer): functions of the program, each with its contract. Lean checks it.
import Derived.Test.YtnjjchbhbicmoaaDoorX0
import Derived.Test.YtnjjchbhbicmoaaDoorX3
import Derived.Test.YtnjjchbhbicmoaaDoorX4
import Derived.Test.YtnjjchbhbicmoaaDoorX10
import Derived.Test.YtnjjchbhbicmoaaDoorX11
import Derived.Test.YtnjjchbhbicmoaaDoorX13
namespace Go.Proofs.YtnjjchbhbicmoaaDoor.X
open Go.RowKit Go.Proofs.YtnjjchbhbicmoaaDoorW.PrintWords Go.Proofs.YtnjjchbhbicmoaaDoorW.PrintLast Go.Proofs.YtnjjchbhbicmoaaDoorW.PrintMore
attribute [local go_sem] max2_int min2_int max_two min_two max_three min_three max_four min_four   -- for this text's walks alone
set_option linter.unusedVariables false
set_option linter.unusedSimpArgs false

/-! ### spec_DrawIsValidRecord: function 11 -/
def spec_DrawIsValidRecord.f (l0 : List Int) : Option (ByteArray × ByteArray) := (spec_l1Cur_logRecord.f l0 0 0).bind fun bt277 => (some (bt277.1, bt277.2.1))
set_option maxHeartbeats 8000000 in
set_option maxRecDepth 100000 in
theorem spec_DrawIsValidRecord.calls (A0 : Option Addr) (c0 : Nat) (l0 : List Int) (r1 : ByteArray) (r2 : ByteArray) (w : World) (hr0 : Kd.C (Kd.int .u8) w A0 l0.length l0) (hc0 : l0.length ≤ c0) (h : spec_DrawIsValidRecord.f l0 = some (r1, r2)) :
  Calls Tryd.prog 11 #[.slice A0 l0.length c0] w fun e w' => e = .returned (.agg #[.string r1, .string r2]) ∧ Below w.heap.size w w' := by
 have hu33 := Tryd.underlying33; have hu60 := Tryd.underlying60; have HR0 := Aside0.mk hr0; have HC0 := Aside0.mk hc0; clear hr0 hc0; have HB := Aside0.mk (Below.refl w.heap.size w)
 have H : ((spec_l1Cur_logRecord.f l0 0 0).bind fun bt277 => (some (bt277.1, bt277.2.1))) = some (r1, r2) := h
 clear h
 obtain ⟨⟨t277, t278, t279, t280⟩, A2, H⟩ := bs H
 simp only [Option.some.injEq, Prod.mk.injEq] at H
 obtain ⟨rfl, rfl⟩ := H
 go_enter Tryd.func11, Tryd.ntmps11
 go_wp2_with (first | ((with_reducible refine gate_dst (N := 2) rfl ?_); refine box_event ?hg (N := 2) ?hd (cs := #[.string (⟨#[]⟩ : ByteArray), .string (⟨#[]⟩ : ByteArray)]) (t := 33) ?hr ?_; (case hd => rfl); (case hg => rfl); (case hr => exact ax9); intro gb275 hg w3 hbox hb; have BK275 := Aside0.mk (hbox); have GW275 := uG hg HB; have GE275 := uG hg HB; replace HB := uB HB hb; clear hb hbox hg) | ((with_reducible refine gate_dst (N := 6) rfl ?_); refine box_event ?hg (N := 6) ?hd (cs := #[.slice A0 l0.length c0, .int .i64 0, .int .u64 0]) (t := 60) ?hr ?_; (case hd => rfl); (case hg => rfl); (case hr => exact ax9); intro gb276 hg w4 hbox hb; have BK276 := Aside0.mk (hbox); have GW276 := Aside0.mk ((ax168 : w.heap.size ≤ gb276)); have GE276 := Aside0.mk ((ax168 : w.heap.size ≤ gb276)); have NB275_276 := uN hg BK275; have NB276_275 := uM hg BK275; replace BK275 := ub BK275 hb; have HI276 := Aside0.mk ((⟨_, _, hbox, ax168, HR0.out⟩ : IsS60 w w4 gb276 l0 0 0)); replace HB := Aside0.mk (below_step ax169 hb); clear hb hbox hg) | (refine gd 8 36 ?_; refine gc 8 Tryd.func36 #[.pointer (some ⟨gb276, 0, none⟩)] (spec_l1Cur_logRecord.calls gb276 l0 0 0 t277 t278 t279 t280 w _ (by repeat (first | (with_reducible first | exact HI276.out | apply IsS60.alloc | apply IsS60.drewN | apply IsS60.drew | apply IsS60.set_1 | apply IsS60.set_2 | refine IsS60.far ?_ NB276_275.out _) | exact HI276.out)) (by repeat (first | (with_reducible first | exact HB.out | apply below_alloc | apply pw_below_drewN | apply below_drew1 | refine below_set ?_ (IsS60.ge HI276.out) | refine below_set ?_ GE275.out) | exact HB.out)) A2.out) ?_; rintro e w5 ⟨rfl, hi, hb, hk⟩; refine ⟨_, rfl, ?_⟩; replace BK275 := Aside0.mk (KeepBut.blk hk (g' := gb275) (o := .cells #[.string (⟨#[]⟩ : ByteArray), .string (⟨#[]⟩ : ByteArray)] 33 (0, 0)) (by (with_reducible repeat (first | refine blk_drewN ?_ _ | refine blk_drew ?_ | refine blk_alloc ?_ _)); exact BK275.out) NB275_276.out (by simp)); replace HB := Aside0.mk (hb); replace HI276 := Aside0.mk (hi); (try clear hb); (try clear hb2); (try clear hk); (try clear hi); have hnb6 := NB275_276.out; have hnc6 := NB276_275.out; have hcz7_0 := bc (.string (⟨#[]⟩ : ByteArray)) BK275 0; have hcz7_1 := bc (.string (⟨#[]⟩ : ByteArray)) BK275 1; have hfz7_0 := blk_frozen BK275.out 0; have hfz7_1 := blk_frozen BK275.out 1))
 refine bodyPost_ret (results_cell_row rfl _ _ gb275 33 #[.string t277, .string t278] (0, 0) _ rfl (by (with_reducible repeat (first | refine blk_drewN ?_ _ | refine blk_drew ?_ | refine blk_alloc ?_ _)); refine blk_put (cs := #[.string t277, .string (⟨#[]⟩ : ByteArray)]) ?_ 1 _ rfl; (with_reducible repeat (first | refine blk_drewN ?_ _ | refine blk_drew ?_ | refine blk_alloc ?_ _)); refine blk_put (cs := #[.string (⟨#[]⟩ : ByteArray), .string (⟨#[]⟩ : ByteArray)]) ?_ 0 _ rfl; (with_reducible repeat (first | refine blk_drewN ?_ _ | refine blk_drew ?_ | refine blk_alloc ?_ _)); exact BK275.out) Tryd.underlying33 rfl (by kernel_rfl)) rfl ?_
 exact ⟨ax18, by repeat (first | (with_reducible first | exact HB.out | apply below_alloc | apply pw_below_drewN | apply below_drew1 | refine below_set ?_ (IsS60.ge HI276.out) | refine below_set ?_ GE275.out) | exact HB.out)⟩

/-! ### spec_l1Cur_among: function 37 -/
def spec_l1Cur_among.f (s0_0 : List Int) (s0_1 : Int) (s0_2 : Int) (l1 : List Int) : Option (Int × Int × Int) := (spec_l1Cur_pick.f s0_0 s0_1 s0_2 (l1.length : Int)).bind fun bt281 => (if 0 ≤ bt281.1 then (if bt281.1 < (l1.length : Int) then (some (rd l1 bt281.1, bt281.2.1, bt281.2.2)) else (none)) else (none))
set_option maxHeartbeats 8000000 in
set_option maxRecDepth 100000 in
theorem spec_l1Cur_among.calls (g : Nat) (s0_0 : List Int) (s0_1 : Int) (s0_2 : Int) (A1 : Option Addr) (c1 : Nat) (l1 : List Int) (r1 : Int) (r2 : Int) (r3 : Int) (w0 w : World) (hI : IsS60 w0 w g s0_0 s0_1 s0_2) (hB : Below w0.heap.size w0 w) (hr1 : Kd.C (Kd.int .i64) w A1 l1.length l1) (hc1 : l1.length ≤ c1) (hf1 : ∀ ad, A1 = some ad → 0 < l1.length → ad.block ≠ g) (h : spec_l1Cur_among.f s0_0 s0_1 s0_2 l1 = some (r1, r2, r3)) :
  Calls Tryd.prog 37 #[.pointer (some ⟨g, 0, none⟩), .slice A1 l1.length c1] w fun e w' => e = .returned (.int .i64 r1) ∧ IsS60 w0 w' g s0_0 r2 r3 ∧ Below w0.heap.size w0 w' ∧ KeepBut w w' g none := by
 have HR1 := Aside0.mk hr1; have HC1 := Aside0.mk hc1; clear hr1 hc1; have HI0 := Aside0.mk hI; have HK := Aside0.mk (KeepBut.refl w g none); have HL := Aside0.mk hB.size; clear hI; have HW0 := Aside0.mk hB.size; have HB := Aside0.mk hB; clear hB
 have H : ((spec_l1Cur_pick.f s0_0 s0_1 s0_2 (l1.length : Int)).bind fun bt281 => (if 0 ≤ bt281.1 then (if bt281.1 < (l1.length : Int) then (some (rd l1 bt281.1, bt281.2.1, bt281.2.2)) else (none)) else (none))) = some (r1, r2, r3) := h
 clear h
 obtain ⟨⟨t281, t282, t283⟩, A3, H⟩ := bs H
 by_cases c4 : 0 ≤ t281
 ·rw [if_pos c4] at H
  have c4b0 : decide (0 ≤ t281) = true := decide_eq_true c4
  clear c4
  by_cases c5 : t281 < (l1.length : Int)
  ·rw [if_pos c5] at H
   have c5b0 : decide (t281 < (l1.length : Int)) = true := decide_eq_true c5
   clear c5
   simp only [Option.some.injEq, Prod.mk.injEq] at H
   obtain ⟨rfl, rfl, rfl⟩ := H
   go_enter Tryd.func37, Tryd.ntmps37
   go_wp2_with (first | (refine gd 9 44 ?_; refine gc 9 Tryd.func44 #[.pointer (some ⟨g, 0, none⟩), .int .i64 (l1.length : Int)] (spec_l1Cur_pick.calls g s0_0 s0_1 s0_2 (l1.length : Int) t281 t282 t283 w0 _ ax58 ax59 A3.out) ?_; rintro e w6 ⟨rfl, hi, hb, hk⟩; refine ⟨_, rfl, ?_⟩; replace HK := Aside0.mk (KeepBut.trans ax60 hk (.inl rfl)); replace HB := Aside0.mk (hb); replace HI0 := Aside0.mk (hi); (try clear hb); (try clear hb2); (try clear hk); (try clear hi); have p284 : 0 ≤ (t281 : Int) := of_decide_eq_true ax12; have q284 : t281 < (l1.length : Int) := of_decide_eq_true ax12; obtain ⟨ad284, e284, hx284_0⟩ := Kd.at_int HR1.out t281 p284 q284; cases e284; replace hx284_0 := keep_cell HK.out hx284_0 (by first | (rw [add_block]; exact hf1 _ rfl (by omega)) | exact hf1 _ rfl (by omega) | exact hf1 ad284 rfl (by omega)); replace p284 := eq_true p284; replace q284 := eq_true q284))
   go_ret
   exact ⟨ax18, by repeat (first | (with_reducible first | exact HI0.out | apply IsS60.alloc | apply IsS60.drewN | apply IsS60.drew | apply IsS60.set_1 | apply IsS60.set_2) | exact HI0.out), by repeat (first | (with_reducible first | exact HB.out | apply below_alloc | apply pw_below_drewN | apply below_drew1 | refine below_set ?_ (IsS60.ge HI0.out)) | exact HB.out), by repeat (first | (with_reducible first | exact HK.out | apply KeepBut.set_ | apply keep_drewN | apply keep_drew | apply keep_alloc) | exact HK.out)⟩
  ·exact ax4
 ·exact ax3
/-! ### spec_DrawEncodeRecord: function 12 -/
def spec_DrawEncodeRecord.f (l0 : List Int) : Option (Int × ByteArray × ByteArray) := (spec_l1Cur_among.f l0 0 0 (([0, 1, 12, 39, 40, (-1)] : List Int))).bind fun bt290 => ((spec_l1Cur_logRecord.f l0 bt290.2.1 bt290.2.2).bind fun bt293 => (some (bt290.1, bt293.1, bt293.2.1)))
set_option maxHeartbeats 8000000 in
set_option maxRecDepth 100000 in
theorem spec_DrawEncodeRecord.calls (A0 : Option Addr) (c0 : Nat) (l0 : List Int) (r1 : Int) (r2 : ByteArray) (r3 : ByteArray) (w : World) (hr0 : Kd.C (Kd.int .u8) w A0 l0.length l0) (hc0 : l0.length ≤ c0) (h : spec_DrawEncodeRecord.f l0 = some (r1, r2, r3)) :
  Calls Tryd.prog 12 #[.slice A0 l0.length c0] w fun e w' => e = .returned (.tuple #[.int .i64 r1, .agg #[.string r2, .string r3]]) ∧ Below w.heap.size w w' := by
 have hu33 := Tryd.underlying33; have hu60 := Tryd.underlying60; have HR0 := Aside0.mk hr0; have HC0 := Aside0.mk hc0; clear hr0 hc0; have HB := Aside0.mk (Below.refl w.heap.size w)
 have H : ((spec_l1Cur_among.f l0 0 0 (([0, 1, 12, 39, 40, (-1)] : List Int))).bind fun bt290 => ((spec_l1Cur_logRecord.f l0 bt290.2.1 bt290.2.2).bind fun bt293 => (some (bt290.1, bt293.1, bt293.2.1)))) = some (r1, r2, r3) := h
 clear h
 obtain ⟨y287, hy287⟩ : ∃ y_ : List Int, y_ = (([0, 1, 12, 39, 40, (-1)] : List Int)) := ⟨_, rfl⟩
 replace H : ((spec_l1Cur_among.f l0 0 0 y287).bind fun bt290 => ((spec_l1Cur_logRecord.f l0 bt290.2.1 bt290.2.2).bind fun bt293 => (some (bt290.1, bt293.1, bt293.2.1)))) = some (r1, r2, r3) := by first | (rw [hy287]; with_reducible exact H) | (have H2_ := (Option.bind_some _ _).symm.trans H; rw [hy287]; with_reducible exact H2_) | (have H2_ := (Option.bind_some _ _).symm.trans H; with_reducible exact H2_) | with_reducible exact H | (rw [hy287]; exact H) | exact H
 have Ny287 := Aside0.mk hy287; clear hy287
 obtain ⟨⟨t290, t291, t292⟩, A2, H⟩ := bs H
 obtain ⟨⟨t293, t294, t295, t296⟩, A3, H⟩ := bs H
 simp only [Option.some.injEq, Prod.mk.injEq] at H
 obtain ⟨rfl, rfl, rfl⟩ := H
 go_enter Tryd.func12, Tryd.ntmps12
 go_wp2_with (first | ((with_reducible refine gate_dst (N := 3) rfl ?_); refine box_event ?hg (N := 3) ?hd (cs := #[.string (⟨#[]⟩ : ByteArray), .string (⟨#[]⟩ : ByteArray)]) (t := 33) ?hr ?_; (case hd => rfl); (case hg => rfl); (case hr => exact ax9); intro gb285 hg w4 hbox hb; have BK285 := Aside0.mk (hbox); have GW285 := uG hg HB; have GE285 := uG hg HB; replace HB := uB HB hb; clear hb hbox hg) | ((with_reducible refine gate_dst (N := 8) rfl ?_); refine box_event ?hg (N := 8) ?hd (cs := #[.slice A0 l0.length c0, .int .i64 0, .int .u64 0]) (t := 60) ?hr ?_; (case hd => rfl); (case hg => rfl); (case hr => exact ax9); intro gb286 hg w5 hbox hb; have BK286 := Aside0.mk (hbox); have GW286 := Aside0.mk ((ax170 : w.heap.size ≤ gb286)); have GE286 := Aside0.mk ((ax170 : w.heap.size ≤ gb286)); have NB285_286 := uN hg BK285; have NB286_285 := uM hg BK285; replace BK285 := ub BK285 hb; have HI286 := Aside0.mk ((⟨_, _, hbox, ax170, HR0.out⟩ : IsS60 w w5 gb286 l0 0 0)); replace HB := Aside0.mk (below_step ax171 hb); clear hb hbox hg) | ((with_reducible refine gate_dst (N := 10) rfl ?_); refine Kd.R_lit (Kd.int .i64) _ 3 ?hg (N := 10) ?hd (xs := ([0, 1, 12, 39, 40, (-1)] : List Int)) (inner := [.int .i64 0, .int .i64 1, .int .i64 12, .int .i64 39, .int .i64 40, .int .i64 (-1)]) (ok := fun _ => True) (okp := fun _ => True) ?hr ?hp (fun _ hk => hk) trivial (Below.refl _ _) (Nat.le_refl _) (by simp) ?_; (case hd => rfl); (case hg => rfl); (case hr => exact ax9); (case hp => exact (Reps.one (show Kd.M (Kd.int .i64) _ _ _ 0 [.int .i64 0] from rfl) (Reps.one (show Kd.M (Kd.int .i64) _ _ _ 1 [.int .i64 1] from rfl) (Reps.one (show Kd.M (Kd.int .i64) _ _ _ 12 [.int .i64 12] from rfl) (Reps.one (show Kd.M (Kd.int .i64) _ _ _ 39 [.int .i64 39] from rfl) (Reps.one (show Kd.M (Kd.int .i64) _ _ _ 40 [.int .i64 40] from rfl) (Reps.one (show Kd.M (Kd.int .i64) _ _ _ (-1) [.int .i64 (-1)] from rfl) (Reps.none _ _)))))))); intro v288 w6 ho7 hb hg_ hnew_; clear hg_ hnew_; (first | rw [← Ny287.out] at ho7 | (simp only [Int.reduceToNat] at ho7; rw [← Ny287.out] at ho7)); have HO289 := Aside0.mk (Kd.R_lower ho7 (below_size ax172)); replace BK285 := ub BK285 hb; replace HB := Aside0.mk (below_step ax172 hb); replace HI286 := Aside0.mk (IsS60.below ax173 hb); clear hb ho7; obtain ⟨Ao8, co8, eo8⟩ := Kd.R_slice HO289.out; subst eo8) | (refine gd 11 37 ?_; refine gc 11 Tryd.func37 #[.pointer (some ⟨gb286, 0, none⟩), .slice Ao8 y287.length co8] (spec_l1Cur_among.calls gb286 l0 0 0 _ _ y287 t290 t291 t292 w _ ax173 ax172 (by repeat (first | exact (Kd.R_reads' HO289.out).2.2 | (with_reducible refine Kd.C_alloc ?_ _) | (with_reducible refine Kd.C_drewN ?_ _) | (with_reducible refine Kd.C_drew ?_))) ((Kd.R_reads' HO289.out).2.1) (far_slice (IsS60.own_ne HI286.out HO289.out (by decide))) A2.out) ?_; rintro e w9 ⟨rfl, hi, hb, hk⟩; refine ⟨_, rfl, ?_⟩; replace BK285 := Aside0.mk (KeepBut.blk hk (g' := gb285) (o := .cells #[.string (⟨#[]⟩ : ByteArray), .string (⟨#[]⟩ : ByteArray)] 33 (0, 0)) ax174 NB285_286.out (by simp)); replace HO289 := Aside0.mk (Kd.R_mono (Kd.R_keep (IsS60.apart (show IsS60 w _ gb286 l0 0 0 from by repeat (first | (with_reducible first | exact HI286.out | apply IsS60.alloc | apply IsS60.drewN | apply IsS60.drew | apply IsS60.set_1 | apply IsS60.set_2 | refine IsS60.far ?_ NB286_285.out _) | exact HI286.out)) ax175 (by decide)) hk (fun _ h => h.2)) (fun _ h => h.1)); replace HB := Aside0.mk (hb); replace HI286 := Aside0.mk (hi); (try clear hb); (try clear hb2); (try clear hk); (try clear hi)) | (refine gd 14 36 ?_; refine gc 14 Tryd.func36 #[.pointer (some ⟨gb286, 0, none⟩)] (spec_l1Cur_logRecord.calls gb286 l0 t291 t292 t293 t294 t295 t296 w _ ax173 ax172 A3.out) ?_; rintro e w10 ⟨rfl, hi, hb, hk⟩; refine ⟨_, rfl, ?_⟩; replace BK285 := Aside0.mk (KeepBut.blk hk (g' := gb285) (o := .cells #[.string (⟨#[]⟩ : ByteArray), .string (⟨#[]⟩ : ByteArray)] 33 (0, 0)) ax174 NB285_286.out (by simp)); replace HO289 := Aside0.mk (Kd.R_mono (Kd.R_keep (IsS60.apart (show IsS60 w _ gb286 l0 t291 t292 from by repeat (first | (with_reducible first | exact HI286.out | apply IsS60.alloc | apply IsS60.drewN | apply IsS60.drew | apply IsS60.set_1 | apply IsS60.set_2 | refine IsS60.far ?_ NB286_285.out _) | exact HI286.out)) ax175 (by decide)) hk (fun _ h => h.2)) (fun _ h => h.1)); replace HB := Aside0.mk (hb); replace HI286 := Aside0.mk (hi); (try clear hb); (try clear hb2); (try clear hk); (try clear hi); have hnb11 := NB285_286.out; have hnc11 := NB286_285.out; have hcz12_0 := bc (.string (⟨#[]⟩ : ByteArray)) BK285 0; have hcz12_1 := bc (.string (⟨#[]⟩ : ByteArray)) BK285 1; have hfz12_0 := blk_frozen BK285.out 0; have hfz12_1 := blk_frozen BK285.out 1))
 refine bodyPost_ret (results_tc rfl _ _ gb285 33 #[.string t293, .string t294] (0, 0) _ rfl (by (with_reducible repeat (first | refine blk_drewN ?_ _ | refine blk_drew ?_ | refine blk_alloc ?_ _)); refine blk_put (cs := #[.string t293, .string (⟨#[]⟩ : ByteArray)]) ?_ 1 _ rfl; (with_reducible repeat (first | refine blk_drewN ?_ _ | refine blk_drew ?_ | refine blk_alloc ?_ _)); refine blk_put (cs := #[.string (⟨#[]⟩ : ByteArray), .string (⟨#[]⟩ : ByteArray)]) ?_ 0 _ rfl; (with_reducible repeat (first | refine blk_drewN ?_ _ | refine blk_drew ?_ | refine blk_alloc ?_ _)); exact BK285.out) Tryd.underlying33 rfl (by kernel_rfl)) rfl ?_
 exact ⟨ax18, by repeat (first | (with_reducible first | exact HB.out | apply below_alloc | apply pw_below_drewN | apply below_drew1 | refine below_set ?_ (IsS60.ge HI286.out) | refine below_set ?_ GE285.out) | exact HB.out)⟩

/-! ### spec_EncodeRecord: function 15 -/
def spec_EncodeRecord.f (k : Nat) (a0 : Int) (a1_0 : ByteArray) (a1_1 : ByteArray) : Option (ByteArray × Bool) := (spec_l1In.f a0 0 39).bind fun t318 => (if t318 = true then ((spec_l12Record.f k a1_0 a1_1).bind fun t319 => (if t319 = true then ((spec_l12Line.f k a0 a1_0 a1_1).bind fun t320 => (some (t320, true))) else (some ((⟨#[]⟩ : ByteArray), false)))) else (some ((⟨#[]⟩ : ByteArray), false)))
theorem spec_EncodeRecord.mono : ∀ a0 a1 a2 k, LeO (spec_EncodeRecord.f k a0 a1 a2) (spec_EncodeRecord.f (k + 1) a0 a1 a2) := by
 intro a0 a1 a2 k
 unfold spec_EncodeRecord.f
 repeat' first | (with_reducible first | exact spec_l12Line.mono .. | exact spec_l12Record.mono .. | exact LeO.refl _ | exact LeO.none _ | refine LeO.ite ?_ ?_ | refine LeO.bind ?_ (fun _ => ?_)) | exact spec_l12Line.mono .. | exact spec_l12Record.mono .. | exact LeO.none _ | refine LeO.ite ?_ ?_ | refine LeO.bind ?_ (fun _ => ?_)
set_option maxHeartbeats 8000000 in
set_option maxRecDepth 100000 in
theorem spec_EncodeRecord.calls (k : Nat) (a0 : Int) (a1_0 : ByteArray) (a1_1 : ByteArray) (r1 : ByteArray) (r2 : Bool) (w : World) (h : spec_EncodeRecord.f k a0 a1_0 a1_1 = some (r1, r2)) :
  Calls Tryd.prog 15 #[.int .i64 a0, .agg #[.string a1_0, .string a1_1]] w fun e w' => e = .returned (.tuple #[.string r1, .bool r2]) ∧ Below w.heap.size w w' := by
 have hu33 := Tryd.underlying33; have HB := Aside0.mk (Below.refl w.heap.size w)
 have H : ((spec_l1In.f a0 0 39).bind fun t318 => (if t318 = true then ((spec_l12Record.f k a1_0 a1_1).bind fun t319 => (if t319 = true then ((spec_l12Line.f k a0 a1_0 a1_1).bind fun t320 => (some (t320, true))) else (some ((⟨#[]⟩ : ByteArray), false)))) else (some ((⟨#[]⟩ : ByteArray), false)))) = some (r1, r2) := h
 clear h
 obtain ⟨t318, A3, H⟩ := bs H
 by_cases c4 : t318 = true
 ·subst c4
  rw [if_pos rfl] at H
  obtain ⟨t319, A5, H⟩ := bs H
  by_cases c6 : t319 = true
  ·subst c6
   rw [if_pos rfl] at H
   obtain ⟨t320, A7, H⟩ := bs H
   simp only [Option.some.injEq, Prod.mk.injEq] at H
   obtain ⟨rfl, rfl⟩ := H
   go_enter Tryd.func15, Tryd.ntmps15
   go_wp2_with (first | ((with_reducible refine gate_dst (N := 3) rfl ?_); refine box_event ?hg (N := 3) ?hd (cs := #[.string a1_0, .string a1_1]) (t := 33) ?hr ?_; (case hd => rfl); (case hg => rfl); (case hr => exact ax9); intro gb317 hg w8 hbox hb; have BK317 := Aside0.mk (hbox); have GW317 := uG hg HB; have GE317 := uG hg HB; replace HB := uB HB hb; clear hb hbox hg) | (refine gd 7 34 ?_; refine gc 7 Tryd.func34 #[.int .i64 a0, .int .i64 0, .int .i64 39] (spec_l1In.calls a0 0 39 true _ A3.out) ?_; rintro e w' ⟨rfl, ⟨nd, rfl⟩⟩; refine ⟨_, rfl, ?_⟩; have hcz9_0 := bc (.string a1_0) BK317 0; have hcz9_1 := bc (.string a1_1) BK317 1; have hfz9_0 := blk_frozen BK317.out 0; have hfz9_1 := blk_frozen BK317.out 1) | (go_at_call 40; (with_reducible refine (spec_l12Record.calls k a1_0 a1_1 true _ A5.out).mono ?_); rintro e w10 ⟨rfl, hb⟩; replace BK317 := ub BK317 hb; replace HB := Aside0.mk (below_step ax176 hb); (try clear hb); (try clear hb2); (try clear hk); (try clear hi); have hcz11_0 := bc (.string a1_0) BK317 0; have hcz11_1 := bc (.string a1_1) BK317 1; have hfz11_0 := blk_frozen BK317.out 0; have hfz11_1 := blk_frozen BK317.out 1) | (refine gd 16 41 ?_; refine gc 16 Tryd.func41 #[.int .i64 a0, .agg #[.string a1_0, .string a1_1]] (spec_l12Line.calls k a0 a1_0 a1_1 t320 _ A7.out) ?_; rintro e w12 ⟨rfl, hb⟩; refine ⟨_, rfl, ?_⟩; replace BK317 := ub BK317 hb; replace HB := Aside0.mk (below_step ax176 hb); (try clear hb); (try clear hb2); (try clear hk); (try clear hi)))
   go_ret2
   exact ⟨ax18, by repeat (first | (with_reducible first | exact HB.out | apply below_alloc | apply pw_below_drewN | apply below_drew1 | refine below_set ?_ GE317.out) | exact HB.out)⟩
  ·replace c6 := Bool.eq_false_iff.mpr c6
   subst c6
   rw [if_neg (show ¬ (false = true) by decide)] at H
   simp only [Option.some.injEq, Prod.mk.injEq] at H
   obtain ⟨rfl, rfl⟩ := H
   go_enter Tryd.func15, Tryd.ntmps15
   go_wp2_with (first | ((with_reducible refine gate_dst (N := 3) rfl ?_); refine box_event ?hg (N := 3) ?hd (cs := #[.string a1_0, .string a1_1]) (t := 33) ?hr ?_; (case hd => rfl); (case hg => rfl); (case hr => exact ax9); intro gb317 hg w13 hbox hb; have BK317 := Aside0.mk (hbox); have GW317 := uG hg HB; have GE317 := uG hg HB; replace HB := uB HB hb; clear hb hbox hg) | (refine gd 7 34 ?_; refine gc 7 Tryd.func34 #[.int .i64 a0, .int .i64 0, .int .i64 39] (spec_l1In.calls a0 0 39 true _ A3.out) ?_; rintro e w' ⟨rfl, ⟨nd, rfl⟩⟩; refine ⟨_, rfl, ?_⟩; have hcz14_0 := bc (.string a1_0) BK317 0; have hcz14_1 := bc (.string a1_1) BK317 1; have hfz14_0 := blk_frozen BK317.out 0; have hfz14_1 := blk_frozen BK317.out 1) | (go_at_call 40; (with_reducible refine (spec_l12Record.calls k a1_0 a1_1 false _ A5.out).mono ?_); rintro e w15 ⟨rfl, hb⟩; replace BK317 := ub BK317 hb; replace HB := Aside0.mk (below_step ax176 hb); (try clear hb); (try clear hb2); (try clear hk); (try clear hi)))
   go_ret2
   exact ⟨ax18, by repeat (first | (with_reducible first | exact HB.out | apply below_alloc | apply pw_below_drewN | apply below_drew1 | refine below_set ?_ GE317.out) | exact HB.out)⟩
 ·replace c4 := Bool.eq_false_iff.mpr c4
  subst c4
  rw [if_neg (show ¬ (false = true) by decide)] at H
  simp only [Option.some.injEq, Prod.mk.injEq] at H
  obtain ⟨rfl, rfl⟩ := H
  go_enter Tryd.func15, Tryd.ntmps15
  go_wp2_with (first | ((with_reducible refine gate_dst (N := 3) rfl ?_); refine box_event ?hg (N := 3) ?hd (cs := #[.string a1_0, .string a1_1]) (t := 33) ?hr ?_; (case hd => rfl); (case hg => rfl); (case hr => exact ax9); intro gb317 hg w16 hbox hb; have BK317 := Aside0.mk (hbox); have GW317 := uG hg HB; have GE317 := uG hg HB; replace HB := uB HB hb; clear hb hbox hg) | (refine gd 7 34 ?_; refine gc 7 Tryd.func34 #[.int .i64 a0, .int .i64 0, .int .i64 39] (spec_l1In.calls a0 0 39 false _ A3.out) ?_; rintro e w' ⟨rfl, ⟨nd, rfl⟩⟩; refine ⟨_, rfl, ?_⟩))
  go_ret2
  exact ⟨ax18, by repeat (first | (with_reducible first | exact HB.out | apply below_alloc | apply pw_below_drewN | apply below_drew1 | refine below_set ?_ GE317.out) | exact HB.out)⟩

/-! ### spec_DrawIsValidLog: function 16 -/
def spec_DrawIsValidLog.f (k : Nat) (l0 : List Int) : Option (ByteArray × ByteArray × Int) := (spec_l1Cur_anyLog.f k l0 0 0).bind fun bt377 => (some (bt377.1, bt377.2.1, bt377.2.2.1))
theorem spec_DrawIsValidLog.mono : ∀ a0 k, LeO (spec_DrawIsValidLog.f k a0) (spec_DrawIsValidLog.f (k + 1) a0) := by
 intro a0 k
 unfold spec_DrawIsValidLog.f
 repeat' first | (with_reducible first | exact spec_l1Cur_anyLog.mono .. | exact LeO.refl _ | exact LeO.none _ | refine LeO.ite ?_ ?_ | refine LeO.bind ?_ (fun _ => ?_)) | exact spec_l1Cur_anyLog.mono .. | exact LeO.none _ | refine LeO.ite ?_ ?_ | refine LeO.bind ?_ (fun _ => ?_)
set_option maxHeartbeats 8000000 in
set_option maxRecDepth 100000 in
theorem spec_DrawIsValidLog.calls (k : Nat) (A0 : Option Addr) (c0 : Nat) (l0 : List Int) (r1 : ByteArray) (r2 : ByteArray) (r3 : Int) (w : World) (hr0 : Kd.C (Kd.int .u8) w A0 l0.length l0) (hc0 : l0.length ≤ c0) (h : spec_DrawIsValidLog.f k l0 = some (r1, r2, r3)) :
  Calls Tryd.prog 16 #[.slice A0 l0.length c0] w fun e w' => e = .returned (.agg #[.string r1, .string r2, .int .i64 r3]) ∧ Below w.heap.size w w' := by
 have hu27 := Tryd.underlying27; have hu60 := Tryd.underlying60; have HR0 := Aside0.mk hr0; have HC0 := Aside0.mk hc0; clear hr0 hc0; have HB := Aside0.mk (Below.refl w.heap.size w)
 have H : ((spec_l1Cur_anyLog.f k l0 0 0).bind fun bt377 => (some (bt377.1, bt377.2.1, bt377.2.2.1))) = some (r1, r2, r3) := h
 clear h
 obtain ⟨⟨t377, t378, t379, t380, t381⟩, A2, H⟩ := bs H
 simp only [Option.some.injEq, Prod.mk.injEq] at H
 obtain ⟨rfl, rfl, rfl⟩ := H
 go_enter Tryd.func16, Tryd.ntmps16
 go_wp2_with (first | ((with_reducible refine gate_dst (N := 2) rfl ?_); refine box_event ?hg (N := 2) ?hd (cs := #[.string (⟨#[]⟩ : ByteArray), .string (⟨#[]⟩ : ByteArray), .int .i64 0]) (t := 27) ?hr ?_; (case hd => rfl); (case hg => rfl); (case hr => exact ax9); intro gb375 hg w3 hbox hb; have BK375 := Aside0.mk (hbox); have GW375 := uG hg HB; have GE375 := uG hg HB; replace HB := uB HB hb; clear hb hbox hg) | ((with_reducible refine gate_dst (N := 6) rfl ?_); refine box_event ?hg (N := 6) ?hd (cs := #[.slice A0 l0.length c0, .int .i64 0, .int .u64 0]) (t := 60) ?hr ?_; (case hd => rfl); (case hg => rfl); (case hr => exact ax9); intro gb376 hg w4 hbox hb; have BK376 := Aside0.mk (hbox); have GW376 := Aside0.mk ((ax177 : w.heap.size ≤ gb376)); have GE376 := Aside0.mk ((ax177 : w.heap.size ≤ gb376)); have NB375_376 := uN hg BK375; have NB376_375 := uM hg BK375; replace BK375 := ub BK375 hb; have HI376 := Aside0.mk ((⟨_, _, hbox, ax177, HR0.out⟩ : IsS60 w w4 gb376 l0 0 0)); replace HB := Aside0.mk (below_step ax178 hb); clear hb hbox hg) | (refine gd 8 42 ?_; refine gc 8 Tryd.func42 #[.pointer (some ⟨gb376, 0, none⟩)] (spec_l1Cur_anyLog.calls k gb376 l0 0 0 t377 t378 t379 t380 t381 w _ (by repeat (first | (with_reducible first | exact HI376.out | apply IsS60.alloc | apply IsS60.drewN | apply IsS60.drew | apply IsS60.set_1 | apply IsS60.set_2 | refine IsS60.far ?_ NB376_375.out _) | exact HI376.out)) (by repeat (first | (with_reducible first | exact HB.out | apply below_alloc | apply pw_below_drewN | apply below_drew1 | refine below_set ?_ (IsS60.ge HI376.out) | refine below_set ?_ GE375.out) | exact HB.out)) A2.out) ?_; rintro e w5 ⟨rfl, hi, hb, hk⟩; refine ⟨_, rfl, ?_⟩; replace BK375 := Aside0.mk (KeepBut.blk hk (g' := gb375) (o := .cells #[.string (⟨#[]⟩ : ByteArray), .string (⟨#[]⟩ : ByteArray), .int .i64 0] 27 (0, 0)) (by (with_reducible repeat (first | refine blk_drewN ?_ _ | refine blk_drew ?_ | refine blk_alloc ?_ _)); exact BK375.out) NB375_376.out (by simp)); replace HB := Aside0.mk (hb); replace HI376 := Aside0.mk (hi); (try clear hb); (try clear hb2); (try clear hk); (try clear hi); have hnb6 := NB375_376.out; have hnc6 := NB376_375.out; have hcz7_0 := bc (.string (⟨#[]⟩ : ByteArray)) BK375 0; have hcz7_1 := bc (.string (⟨#[]⟩ : ByteArray)) BK375 1; have hcz7_2 := bc (.int .i64 0) BK375 2; have hfz7_0 := blk_frozen BK375.out 0; have hfz7_1 := blk_frozen BK375.out 1; have hfz7_2 := blk_frozen BK375.out 2))
 refine bodyPost_ret (results_cell_row rfl _ _ gb375 27 #[.string t377, .string t378, .int .i64 t379] (0, 0) _ rfl (by (with_reducible repeat (first | refine blk_drewN ?_ _ | refine blk_drew ?_ | refine blk_alloc ?_ _)); refine blk_put (cs := #[.string t377, .string t378, .int .i64 0]) ?_ 2 _ rfl; (with_reducible repeat (first | refine blk_drewN ?_ _ | refine blk_drew ?_ | refine blk_alloc ?_ _)); refine blk_put (cs := #[.string t377, .string (⟨#[]⟩ : ByteArray), .int .i64 0]) ?_ 1 _ rfl; (with_reducible repeat (first | refine blk_drewN ?_ _ | refine blk_drew ?_ | refine blk_alloc ?_ _)); refine blk_put (cs := #[.string (⟨#[]⟩ : ByteArray), .string (⟨#[]⟩ : ByteArray), .int .i64 0]) ?_ 0 _ rfl; (with_reducible repeat (first | refine blk_drewN ?_ _ | refine blk_drew ?_ | refine blk_alloc ?_ _)); exact BK375.out) Tryd.underlying27 rfl (by kernel_rfl)) rfl ?_
 exact ⟨ax18, by repeat (first | (with_reducible first | exact HB.out | apply below_alloc | apply pw_below_drewN | apply below_drew1 | refine below_set ?_ (IsS60.ge HI376.out) | refine below_set ?_ GE375.out) | exact HB.out)⟩

/-! ### spec_DrawAppendRecord: function 17 -/
def spec_DrawAppendRecord.l0 : Nat → Int → List Int → Int → Int → ByteArray → ByteArray → Int → Option (ByteArray × ByteArray × Int × ByteArray × ByteArray)
 | 0, _, _, _, _, _, _, _ => none
 | k + 1, x6, x385000, x385001, x385002, x391000, x391001, x391002 => if x6 > 0 then ((spec_AppendRecord.f k x391000 x391001 x391002 (⟨#[120]⟩ : ByteArray) (⟨#[]⟩ : ByteArray)).bind fun bt397 => (spec_DrawAppendRecord.l0 k (wrap64 (x6 - 1)) x385000 x385001 x385002 bt397.1 bt397.2.1 bt397.2.2.1)) else ((spec_l1Cur_logRecord.f x385000 x385001 x385002).bind fun bt401 => (some (x391000, x391001, x391002, bt401.1, bt401.2.1)))
def spec_DrawAppendRecord.f (k : Nat) (l0 : List Int) : Option (ByteArray × ByteArray × Int × ByteArray × ByteArray) := (spec_l1Cur_anyLog.f k l0 0 0).bind fun bt385 => ((spec_l1Cur_one.f l0 bt385.2.2.2.1 bt385.2.2.2.2 40).bind fun bt391 => (if bt391.1 = true then ((spec_l1Cur_pick.f l0 bt391.2.1 bt391.2.2 2).bind fun bt394 => (spec_DrawAppendRecord.l0 k (wrap64 (39 + bt394.1)) l0 bt394.2.1 bt394.2.2 (⟨#[]⟩ : ByteArray) (⟨#[]⟩ : ByteArray) 0)) else ((spec_l1Cur_logRecord.f l0 bt391.2.1 bt391.2.2).bind fun bt405 => (some (bt385.1, bt385.2.1, bt385.2.2.1, bt405.1, bt405.2.1)))))
theorem spec_DrawAppendRecord.mono_l : ∀ k, (∀ y0 y1 y2 y3 y4 y5 y6, LeO (spec_DrawAppendRecord.l0 k y0 y1 y2 y3 y4 y5 y6) (spec_DrawAppendRecord.l0 (k + 1) y0 y1 y2 y3 y4 y5 y6))
 | 0 => fun _ _ _ _ _ _ _ r h => by simp [spec_DrawAppendRecord.l0] at h
 | k + 1 => by
  have ih0 := spec_DrawAppendRecord.mono_l k
  ·intro y0 y1 y2 y3 y4 y5 y6
   unfold spec_DrawAppendRecord.l0
   repeat' first | (with_reducible first | exact ih0 .. | exact spec_AppendRecord.mono .. | exact spec_l1Cur_anyLog.mono .. | exact LeO.refl _ | exact LeO.none _ | refine LeO.ite ?_ ?_ | refine LeO.bind ?_ (fun _ => ?_)) | exact ih0 .. | exact spec_AppendRecord.mono .. | exact spec_l1Cur_anyLog.mono .. | exact LeO.none _ | refine LeO.ite ?_ ?_ | refine LeO.bind ?_ (fun _ => ?_)
theorem spec_DrawAppendRecord.mono : ∀ a0 k, LeO (spec_DrawAppendRecord.f k a0) (spec_DrawAppendRecord.f (k + 1) a0) := by
 intro a0 k
 have ih0 := spec_DrawAppendRecord.mono_l k
 unfold spec_DrawAppendRecord.f
 repeat' first | (with_reducible first | exact ih0 .. | exact spec_AppendRecord.mono .. | exact spec_l1Cur_anyLog.mono .. | exact LeO.refl _ | exact LeO.none _ | refine LeO.ite ?_ ?_ | refine LeO.bind ?_ (fun _ => ?_)) | exact ih0 .. | exact spec_AppendRecord.mono .. | exact spec_l1Cur_anyLog.mono .. | exact LeO.none _ | refine LeO.ite ?_ ?_ | refine LeO.bind ?_ (fun _ => ?_)
set_option maxHeartbeats 8000000 in
set_option maxRecDepth 100000 in
theorem spec_DrawAppendRecord.calls (k : Nat) (A0 : Option Addr) (c0 : Nat) (l0 : List Int) (r1 : ByteArray) (r2 : ByteArray) (r3 : Int) (r4 : ByteArray) (r5 : ByteArray) (w : World) (hr0 : Kd.C (Kd.int .u8) w A0 l0.length l0) (hc0 : l0.length ≤ c0) (h : spec_DrawAppendRecord.f k l0 = some (r1, r2, r3, r4, r5)) :
  Calls Tryd.prog 17 #[.slice A0 l0.length c0] w fun e w' => e = .returned (.tuple #[.agg #[.string r1, .string r2, .int .i64 r3], .agg #[.string r4, .string r5]]) ∧ Below w.heap.size w w' := by
 have hu27 := Tryd.underlying27; have hu33 := Tryd.underlying33; have hu60 := Tryd.underlying60; have HR0 := Aside0.mk hr0; have HC0 := Aside0.mk hc0; clear hr0 hc0; have HB := Aside0.mk (Below.refl w.heap.size w)
 have H : ((spec_l1Cur_anyLog.f k l0 0 0).bind fun bt385 => ((spec_l1Cur_one.f l0 bt385.2.2.2.1 bt385.2.2.2.2 40).bind fun bt391 => (if bt391.1 = true then ((spec_l1Cur_pick.f l0 bt391.2.1 bt391.2.2 2).bind fun bt394 => (spec_DrawAppendRecord.l0 k (wrap64 (39 + bt394.1)) l0 bt394.2.1 bt394.2.2 (⟨#[]⟩ : ByteArray) (⟨#[]⟩ : ByteArray) 0)) else ((spec_l1Cur_logRecord.f l0 bt391.2.1 bt391.2.2).bind fun bt405 => (some (bt385.1, bt385.2.1, bt385.2.2.1, bt405.1, bt405.2.1)))))) = some (r1, r2, r3, r4, r5) := h
 clear h
 obtain ⟨⟨t385, t386, t387, t388, t389⟩, A2, H⟩ := bs H
 obtain ⟨⟨t391, t392, t393⟩, A3, H⟩ := bs H
 by_cases c4 : t391 = true
 ·subst c4
  rw [if_pos rfl] at H
  obtain ⟨⟨t394, t395, t396⟩, A5, H⟩ := bs H
  have H' := Aside0.mk H
  clear H
  go_enter Tryd.func17, Tryd.ntmps17
  go_wp2_with (first | ((with_reducible refine gate_dst (N := 2) rfl ?_); refine box_event ?hg (N := 2) ?hd (cs := #[.string (⟨#[]⟩ : ByteArray), .string (⟨#[]⟩ : ByteArray), .int .i64 0]) (t := 27) ?hr ?_; (case hd => rfl); (case hg => rfl); (case hr => exact ax9); intro gb382 hg w6 hbox hb; have BK382 := Aside0.mk (hbox); have GW382 := uG hg HB; have GE382 := uG hg HB; replace HB := uB HB hb; clear hb hbox hg) | ((with_reducible refine gate_dst (N := 3) rfl ?_); refine box_event ?hg (N := 3) ?hd (cs := #[.string (⟨#[]⟩ : ByteArray), .string (⟨#[]⟩ : ByteArray)]) (t := 33) ?hr ?_; (case hd => rfl); (case hg => rfl); (case hr => exact ax9); intro gb383 hg w7 hbox hb; have BK383 := Aside0.mk (hbox); have GW383 := Aside0.mk ((ax179 : w.heap.size ≤ gb383)); have GE383 := Aside0.mk ((ax179 : w.heap.size ≤ gb383)); replace HB := Aside0.mk (below_step ax180 hb); have NB382_383 := uN hg BK382; have NB383_382 := uM hg BK382; replace BK382 := ub BK382 hb; clear hb hbox hg) | ((with_reducible refine gate_dst (N := 9) rfl ?_); refine box_event ?hg (N := 9) ?hd (cs := #[.slice A0 l0.length c0, .int .i64 0, .int .u64 0]) (t := 60) ?hr ?_; (case hd => rfl); (case hg => rfl); (case hr => exact ax9); intro gb384 hg w8 hbox hb; have BK384 := Aside0.mk (hbox); have GW384 := Aside0.mk ((ax181 : w.heap.size ≤ gb384)); have GE384 := Aside0.mk ((ax181 : w.heap.size ≤ gb384)); have NB382_384 := uN hg BK382; have NB384_382 := uM hg BK382; replace BK382 := ub BK382 hb; have NB383_384 := uN hg BK383; have NB384_383 := uM hg BK383; replace BK383 := ub BK383 hb; have HI384 := Aside0.mk ((⟨_, _, hbox, ax181, HR0.out⟩ : IsS60 w w8 gb384 l0 0 0)); replace HB := Aside0.mk (below_step ax182 hb); clear hb hbox hg) | (refine gd 11 42 ?_; refine gc 11 Tryd.func42 #[.pointer (some ⟨gb384, 0, none⟩)] (spec_l1Cur_anyLog.calls k gb384 l0 0 0 t385 t386 t387 t388 t389 w _ ax183 ax184 A2.out) ?_; rintro e w9 ⟨rfl, hi, hb, hk⟩; refine ⟨_, rfl, ?_⟩; replace BK382 := Aside0.mk (KeepBut.blk hk (g' := gb382) (o := .cells #[.string (⟨#[]⟩ : ByteArray), .string (⟨#[]⟩ : ByteArray), .int .i64 0] 27 (0, 0)) ax185 NB382_384.out (by simp)); replace BK383 := Aside0.mk (KeepBut.blk hk (g' := gb383) (o := .cells #[.string (⟨#[]⟩ : ByteArray), .string (⟨#[]⟩ : ByteArray)] 33 (0, 0)) ax186 NB383_384.out (by simp)); replace HB := Aside0.mk (hb); replace HI384 := Aside0.mk (hi); (try clear hb); (try clear hb2); (try clear hk); (try clear hi)) | ((with_reducible refine gate_dst (N := 5) rfl ?_); refine box_event ?hg (N := 5) ?hd (cs := #[.string (⟨#[]⟩ : ByteArray), .string (⟨#[]⟩ : ByteArray), .int .i64 0]) (t := 27) ?hr ?_; (case hd => rfl); (case hg => rfl); (case hr => exact ax9); intro gb390 hg w10 hbox hb; have BK390 := Aside0.mk (hbox); have GW390 := Aside0.mk ((ax187 : w.heap.size ≤ gb390)); have GE390 := Aside0.mk ((ax187 : w.heap.size ≤ gb390)); replace HB := Aside0.mk (below_step ax184 hb); have NB382_390 := uN hg BK382; have NB390_382 := uM hg BK382; replace BK382 := ub BK382 hb; have NB383_390 := uN hg BK383; have NB390_383 := uM hg BK383; replace BK383 := ub BK383 hb; have NB384_390 := Aside0.mk ((ax188 : gb384 ≠ gb390)); have NB390_384 := Aside0.mk ((ax189 : gb390 ≠ gb384)); replace HI384 := Aside0.mk (IsS60.below ax183 hb); clear hb hbox hg; have hnb11 := NB390_382.out; have hnc11 := NB382_390.out; have hnb12 := NB390_383.out; have hnc12 := NB383_390.out; have hnb13 := NB390_384.out; have hnc13 := NB384_390.out; have hcz14_0 := bc (.string (⟨#[]⟩ : ByteArray)) BK390 0; have hcz14_1 := bc (.string (⟨#[]⟩ : ByteArray)) BK390 1; have hcz14_2 := bc (.int .i64 0) BK390 2; have hfz14_0 := blk_frozen BK390.out 0; have hfz14_1 := blk_frozen BK390.out 1; have hfz14_2 := blk_frozen BK390.out 2) | (refine gd 13 43 ?_; refine gc 13 Tryd.func43 #[.pointer (some ⟨gb384, 0, none⟩), .int .i64 40] (spec_l1Cur_one.calls gb384 l0 t388 t389 40 true t392 t393 w _ ax190 ax191 A3.out) ?_; rintro e w15 ⟨rfl, hi, hb, hk⟩; refine ⟨_, rfl, ?_⟩; replace BK382 := Aside0.mk (KeepBut.blk hk (g' := gb382) (o := .cells #[.string (⟨#[]⟩ : ByteArray), .string (⟨#[]⟩ : ByteArray), .int .i64 0] 27 (0, 0)) ax192 NB382_384.out (by simp)); replace BK383 := Aside0.mk (KeepBut.blk hk (g' := gb383) (o := .cells #[.string (⟨#[]⟩ : ByteArray), .string (⟨#[]⟩ : ByteArray)] 33 (0, 0)) ax193 NB383_384.out (by simp)); replace BK390 := Aside0.mk (KeepBut.blk hk (g' := gb390) (o := .cells #[.string t385, .string t386, .int .i64 t387] 27 (0, 0)) ax194 NB390_384.out (by simp)); replace HB := Aside0.mk (hb); replace HI384 := Aside0.mk (hi); (try clear hb); (try clear hb2); (try clear hk); (try clear hi); have hcz16_0 := bc (.string t385) BK390 0; have hcz16_1 := bc (.string t386) BK390 1; have hcz16_2 := bc (.int .i64 t387) BK390 2; have hfz16_0 := blk_frozen BK390.out 0; have hfz16_1 := blk_frozen BK390.out 1; have hfz16_2 := blk_frozen BK390.out 2) | (refine gd 16 44 ?_; refine gc 16 Tryd.func44 #[.pointer (some ⟨gb384, 0, none⟩), .int .i64 2] (spec_l1Cur_pick.calls gb384 l0 t392 t393 2 t394 t395 t396 w _ ax190 ax191 A5.out) ?_; rintro e w17 ⟨rfl, hi, hb, hk⟩; refine ⟨_, rfl, ?_⟩; replace BK382 := Aside0.mk (KeepBut.blk hk (g' := gb382) (o := .cells #[.string (⟨#[]⟩ : ByteArray), .string (⟨#[]⟩ : ByteArray), .int .i64 0] 27 (0, 0)) ax192 NB382_384.out (by simp)); replace BK383 := Aside0.mk (KeepBut.blk hk (g' := gb383) (o := .cells #[.string (⟨#[]⟩ : ByteArray), .string (⟨#[]⟩ : ByteArray)] 33 (0, 0)) ax193 NB383_384.out (by simp)); replace BK390 := Aside0.mk (KeepBut.blk hk (g' := gb390) (o := .cells #[.string (⟨#[]⟩ : ByteArray), .string (⟨#[]⟩ : ByteArray), .int .i64 0] 27 (0, 0)) (by (with_reducible repeat (first | refine blk_drewN ?_ _ | refine blk_drew ?_ | refine blk_alloc ?_ _)); refine blk_put (cs := #[.string (⟨#[]⟩ : ByteArray), .string (⟨#[]⟩ : ByteArray), .int .i64 t387]) ?_ 2 _ rfl; (with_reducible repeat (first | refine blk_drewN ?_ _ | refine blk_drew ?_ | refine blk_alloc ?_ _)); refine blk_put (cs := #[.string (⟨#[]⟩ : ByteArray), .string t386, .int .i64 t387]) ?_ 1 _ rfl; (with_reducible repeat (first | refine blk_drewN ?_ _ | refine blk_drew ?_ | refine blk_alloc ?_ _)); refine blk_put (cs := #[.string t385, .string t386, .int .i64 t387]) ?_ 0 _ rfl; (with_reducible repeat (first | refine blk_drewN ?_ _ | refine blk_drew ?_ | refine blk_alloc ?_ _)); exact BK390.out) NB390_384.out (by simp)); replace HB := Aside0.mk (hb); replace HI384 := Aside0.mk (hi); (try clear hb); (try clear hb2); (try clear hk); (try clear hi)))
  go_loopg [6] k (fun kq v6 w' => ∃ (x6_1 : Int) (x391000_1 : ByteArray) (x391001_1 : ByteArray) (x391002_1 : Int), v6 = .int .i64 x6_1 ∧ Aside0 (spec_DrawAppendRecord.l0 kq x6_1 l0 t395 t396 x391000_1 x391001_1 x391002_1 = some (r1, r2, r3, r4, r5)) ∧ Aside0 (kq ≤ k) ∧ Aside0 (w'.heap[gb382]? = some (.cells #[.string (⟨#[]⟩ : ByteArray), .string (⟨#[]⟩ : ByteArray), .int .i64 0] 27 (0, 0))) ∧ Aside0 (w'.heap[gb383]? = some (.cells #[.string (⟨#[]⟩ : ByteArray), .string (⟨#[]⟩ : ByteArray)] 33 (0, 0))) ∧ Aside0 (w'.heap[gb390]? = some (.cells #[.string x391000_1, .string x391001_1, .int .i64 x391002_1] 27 (0, 0))) ∧ Aside0 (IsS60 w w' gb384 l0 t395 t396) ∧ Aside0 (Below w.heap.size w w'))
  case atStart => exact ⟨(wrap64 (39 + t394)), ((⟨#[]⟩ : ByteArray)), ((⟨#[]⟩ : ByteArray)), (0), ax10, H', ⟨Nat.le_refl _⟩, ⟨ax185⟩, ⟨ax186⟩, ⟨ax195⟩, ⟨ax190⟩, ⟨ax191⟩⟩
  case round =>
   clear H'
   try clear c1
   try clear p2
   try clear c4
   try clear p6
   try clear c11
   try clear c12
   try clear c13
   try clear c17
   try clear hcz14_0
   try clear hcz14_1
   try clear hcz14_2
   try clear hcz16_0
   try clear hcz16_1
   try clear hcz16_2
   try clear hfz14_0
   try clear hfz14_1
   try clear hfz14_2
   try clear hfz16_0
   try clear hfz16_1
   try clear hfz16_2
   obtain ⟨x6_1, x391000_1, x391001_1, x391002_1, rfl, HA, HK1, BK382, BK383, BK390, HI384, HB⟩ := hrel
   cases gk with
   | zero => exact absurd HA.out (by simp [spec_DrawAppendRecord.l0])
   | succ k1 =>
    have H := HA.out; clear HA
    simp only [spec_DrawAppendRecord.l0] at H
    by_cases c18 : x6_1 > 0
    ·rw [if_pos c18] at H
     have c18b0 : decide (0 < x6_1) = true := decide_eq_true c18
     clear c18
     obtain ⟨⟨t397, t398, t399, t400⟩, A19, H⟩ := bs H
     have H' := Aside0.mk H
     clear H; have hnb20 := NB390_382.out; have hnc20 := NB382_390.out; have hnb21 := NB390_383.out; have hnc21 := NB383_390.out; have hnb22 := NB390_384.out; have hnc22 := NB384_390.out; have hcz23_0 := bc (.string x391000_1) BK390 0; have hcz23_1 := bc (.string x391001_1) BK390 1; have hcz23_2 := bc (.int .i64 x391002_1) BK390 2; have hfz23_0 := blk_frozen BK390.out 0; have hfz23_1 := blk_frozen BK390.out 1; have hfz23_2 := blk_frozen BK390.out 2
     go_wp2_with (first | (refine gd 25 19 ?_; refine gc 25 Tryd.func19 #[.agg #[.string x391000_1, .string x391001_1, .int .i64 x391002_1], .agg #[.string (⟨#[120]⟩ : ByteArray), .string (⟨#[]⟩ : ByteArray)]] (spec_AppendRecord.calls k1 x391000_1 x391001_1 x391002_1 (⟨#[120]⟩ : ByteArray) (⟨#[]⟩ : ByteArray) t397 t398 t399 t400 _ A19.out) ?_; rintro e w24 ⟨rfl, hb⟩; refine ⟨_, rfl, ?_⟩; replace BK382 := ub BK382 hb; replace BK383 := ub BK383 hb; replace BK390 := ub BK390 hb; replace HB := Aside0.mk (below_step ax191 hb); replace HI384 := Aside0.mk (IsS60.below ax190 hb); (try clear hb); (try clear hb2); (try clear hk); (try clear hi); have hcz25_0 := bc (.string x391000_1) BK390 0; have hcz25_1 := bc (.string x391001_1) BK390 1; have hcz25_2 := bc (.int .i64 x391002_1) BK390 2; have hfz25_0 := blk_frozen BK390.out 0; have hfz25_1 := blk_frozen BK390.out 1; have hfz25_2 := blk_frozen BK390.out 2))
     go_roundg k1
     case measure => have := HK1.out; omega
     case rel => exact ⟨(wrap64 (x6_1 - 1)), (t397), (t398), (t399), ax10, H', ⟨by have := HK1.out; omega⟩, ⟨ax192⟩, ⟨ax193⟩, ⟨(by (with_reducible repeat (first | refine blk_drewN ?_ _ | refine blk_drew ?_ | refine blk_alloc ?_ _)); refine blk_put (cs := #[.string t397, .string t398, .int .i64 x391002_1]) ?_ 2 _ rfl; (with_reducible repeat (first | refine blk_drewN ?_ _ | refine blk_drew ?_ | refine blk_alloc ?_ _)); refine blk_put (cs := #[.string t397, .string x391001_1, .int .i64 x391002_1]) ?_ 1 _ rfl; (with_reducible repeat (first | refine blk_drewN ?_ _ | refine blk_drew ?_ | refine blk_alloc ?_ _)); refine blk_put (cs := #[.string x391000_1, .string x391001_1, .int .i64 x391002_1]) ?_ 0 _ rfl; (with_reducible repeat (first | refine blk_drewN ?_ _ | refine blk_drew ?_ | refine blk_alloc ?_ _)); exact BK390.out)⟩, ⟨ax190⟩, ⟨ax191⟩⟩
    ·rw [if_neg c18] at H
     have c18b0 : decide (0 < x6_1) = false := decide_eq_false c18
     clear c18
     obtain ⟨⟨t401, t402, t403, t404⟩, A26, H⟩ := bs H
     simp only [Option.some.injEq, Prod.mk.injEq] at H
     obtain ⟨rfl, rfl, rfl, rfl, rfl⟩ := H
     try go_wp2
     replace BK382 := Aside0.mk (blk_drew BK382.out); replace BK383 := Aside0.mk (blk_drew BK383.out); replace BK390 := Aside0.mk (blk_drew BK390.out); replace HI384 := Aside0.mk (IsS60.drew HI384.out); replace HB := Aside0.mk (below_drew1 HB.out)
     refine start_ (n := 5) (S := fun w' => w'.cell? ⟨gb390, 0, none⟩ = some (.string x391000_1) ∧ w'.cell? ⟨gb390, 1, none⟩ = some (.string x391001_1) ∧ w'.cell? ⟨gb390, 2, none⟩ = some (.int .i64 x391002_1)) (ds := []) #[false, false, false, false, false] (by kernel_rfl) rfl rfl ⟨(blk_cell BK390.out 0).trans rfl, (blk_cell BK390.out 1).trans rfl, (blk_cell BK390.out 2).trans rfl⟩ (fun hHeld => ?_)
     generalize wr.drew = w27 at BK382 BK383 BK390 HI384 HB hHeld ⊢
     refine pure_ (i := 1) (N := some 29) (v := ?_) (a' := ?_) #[false, true, false, false, false] rfl rfl (by kernel_rfl) (fun _ _ _ h => h) (Or.inl ⟨by rfl, ?_⟩) ?_ ?_; rotate_left; exact ax6; rotate_left; exact ax7
     refine take_ (i := 0) (N := some 28) (v := ?_) (a' := ?_) #[true, true, false, false, false] rfl rfl (by kernel_rfl) (fun _ _ _ h => h) (Or.inl ⟨by rfl, ?_⟩) hHeld ?_ ?_
     rotate_left
     ·rintro w' ⟨s0, s1, s2⟩
      go_simp
      with_reducible rfl
     rotate_left
     ·exact ax7
     refine one_ (i := 2) (N := some 30) #[true, true, true, false, false] rfl rfl (by kernel_rfl) (by decide) (fun K hK => ?_)
     refine goes_ Tryd.func36 (by kernel_rfl) rfl #[.pointer (some ⟨gb384, 0, none⟩)] (by rfl) rfl rfl ax20 ?_
     with_reducible refine (spec_l1Cur_logRecord.calls gb384 l0 t395 t396 t401 t402 t403 t404 w _ ?side1 ?side2 A26.out).mono ?_
     (case side1 => exact ax190)
     (case side2 => exact ax191)
     rintro e w28 ⟨rfl, hi, hb, hk⟩
     refine ⟨_, rfl, ?_⟩
     replace BK382 := Aside0.mk (KeepBut.blk hk (g' := gb382) (o := .cells #[.string (⟨#[]⟩ : ByteArray), .string (⟨#[]⟩ : ByteArray), .int .i64 0] 27 (0, 0)) ax185 NB382_384.out (by simp))
     replace BK383 := Aside0.mk (KeepBut.blk hk (g' := gb383) (o := .cells #[.string (⟨#[]⟩ : ByteArray), .string (⟨#[]⟩ : ByteArray)] 33 (0, 0)) ax186 NB383_384.out (by simp))
     replace BK390 := Aside0.mk (KeepBut.blk hk (g' := gb390) (o := .cells #[.string x391000_1, .string x391001_1, .int .i64 x391002_1] 27 (0, 0)) ax195 NB390_384.out (by simp))
     replace HB := Aside0.mk (hb); replace HI384 := Aside0.mk (hi); (try clear hb); (try clear hb2); (try clear hk); (try clear hi)
     refine hK.out _ _ ⟨(blk_cell BK390.out 0).trans rfl, (blk_cell BK390.out 1).trans rfl, (blk_cell BK390.out 2).trans rfl⟩ (fun hHeld => ?_)
     clear hK K
     refine nm 30 ?_
     refine one_ (i := 3) (N := none) #[true, true, true, true, false] rfl rfl (by kernel_rfl) (by decide) (fun K hK => ?_)
     have hs29 : w28.cell? ⟨gb382, 0, none⟩ = some (.string (⟨#[]⟩ : ByteArray)) := (blk_cell BK382.out 0).trans rfl
     have hfs29 := blk_frozen BK382.out 0; have hns29_1 := NB383_382.out; have hns29_2 := NB390_382.out; have hms29_1 := NB382_383.out; have hms29_2 := NB382_390.out
     have hs30 : w28.cell? ⟨gb382, 1, none⟩ = some (.string (⟨#[]⟩ : ByteArray)) := (blk_cell BK382.out 1).trans rfl
     have hfs30 := blk_frozen BK382.out 1; have hns30_1 := NB383_382.out; have hns30_2 := NB390_382.out; have hms30_1 := NB382_383.out; have hms30_2 := NB382_390.out
     have hs31 : w28.cell? ⟨gb382, 2, none⟩ = some (.int .i64 0) := (blk_cell BK382.out 2).trans rfl
     have hfs31 := blk_frozen BK382.out 2; have hns31_1 := NB383_382.out; have hns31_2 := NB390_382.out; have hms31_1 := NB382_383.out; have hms31_2 := NB382_390.out
     refine skip_ (w1 := ?_) (by rfl) rfl ?_ ?_
     rotate_left
     ·go_simp
      rfl
     refine hK.out _ _ ⟨((cell_far (p := ⟨gb382, _, none⟩) NB390_382.out _).trans (((cell_far (p := ⟨gb382, _, none⟩) NB390_382.out _).trans (((cell_far (p := ⟨gb382, _, none⟩) NB390_382.out _).trans (hHeld.1)))))), ((cell_far (p := ⟨gb382, _, none⟩) NB390_382.out _).trans (((cell_far (p := ⟨gb382, _, none⟩) NB390_382.out _).trans (((cell_far (p := ⟨gb382, _, none⟩) NB390_382.out _).trans (hHeld.2.1)))))), ((cell_far (p := ⟨gb382, _, none⟩) NB390_382.out _).trans (((cell_far (p := ⟨gb382, _, none⟩) NB390_382.out _).trans (((cell_far (p := ⟨gb382, _, none⟩) NB390_382.out _).trans (hHeld.2.2))))))⟩ (fun hHeld => ?_)
     clear hK K
     refine one_ (i := 4) (N := none) #[true, true, true, true, true] rfl rfl (by kernel_rfl) (by decide) (fun K hK => ?_)
     have hs32 : w28.cell? ⟨gb383, 0, none⟩ = some (.string (⟨#[]⟩ : ByteArray)) := (blk_cell BK383.out 0).trans rfl
     have hfs32 := blk_frozen BK383.out 0; have hns32_0 := NB382_383.out; have hns32_2 := NB390_383.out; have hms32_0 := NB383_382.out; have hms32_2 := NB383_390.out
     have hs33 : w28.cell? ⟨gb383, 1, none⟩ = some (.string (⟨#[]⟩ : ByteArray)) := (blk_cell BK383.out 1).trans rfl
     have hfs33 := blk_frozen BK383.out 1; have hns33_0 := NB382_383.out; have hns33_2 := NB390_383.out; have hms33_0 := NB383_382.out; have hms33_2 := NB383_390.out
     refine skip_ (w1 := ?_) (by rfl) rfl ?_ ?_
     rotate_left
     ·go_simp
      rfl
     refine hK.out _ _ ⟨((cell_far (p := ⟨gb383, _, none⟩) NB390_383.out _).trans (((cell_far (p := ⟨gb383, _, none⟩) NB390_383.out _).trans (hHeld.1)))), ((cell_far (p := ⟨gb383, _, none⟩) NB390_383.out _).trans (((cell_far (p := ⟨gb383, _, none⟩) NB390_383.out _).trans (hHeld.2.1)))), ((cell_far (p := ⟨gb383, _, none⟩) NB390_383.out _).trans (((cell_far (p := ⟨gb383, _, none⟩) NB390_383.out _).trans (hHeld.2.2))))⟩ (fun hHeld => ?_)
     clear hK K
     refine done_ (by kernel_rfl) ?_
     try go_wp2
     refine bodyPost_ret (results_cc rfl _ _ gb382 gb383 27 33 #[.string x391000_1, .string x391001_1, .int .i64 x391002_1] #[.string t401, .string t402] (0, 0) (0, 0) _ _ rfl (by (with_reducible repeat (first | refine blk_drewN ?_ _ | refine blk_drew ?_ | refine blk_alloc ?_ _)); refine blk_far ?_ NB382_383.out _; (with_reducible repeat (first | refine blk_drewN ?_ _ | refine blk_drew ?_ | refine blk_alloc ?_ _)); refine blk_far ?_ NB382_383.out _; (with_reducible repeat (first | refine blk_drewN ?_ _ | refine blk_drew ?_ | refine blk_alloc ?_ _)); refine blk_put (cs := #[.string x391000_1, .string x391001_1, .int .i64 0]) ?_ 2 _ rfl; (with_reducible repeat (first | refine blk_drewN ?_ _ | refine blk_drew ?_ | refine blk_alloc ?_ _)); refine blk_put (cs := #[.string x391000_1, .string (⟨#[]⟩ : ByteArray), .int .i64 0]) ?_ 1 _ rfl; (with_reducible repeat (first | refine blk_drewN ?_ _ | refine blk_drew ?_ | refine blk_alloc ?_ _)); refine blk_put (cs := #[.string (⟨#[]⟩ : ByteArray), .string (⟨#[]⟩ : ByteArray), .int .i64 0]) ?_ 0 _ rfl; (with_reducible repeat (first | refine blk_drewN ?_ _ | refine blk_drew ?_ | refine blk_alloc ?_ _)); exact BK382.out) Tryd.underlying27 rfl (by kernel_rfl) rfl (by (with_reducible repeat (first | refine blk_drewN ?_ _ | refine blk_drew ?_ | refine blk_alloc ?_ _)); refine blk_put (cs := #[.string t401, .string (⟨#[]⟩ : ByteArray)]) ?_ 1 _ rfl; (with_reducible repeat (first | refine blk_drewN ?_ _ | refine blk_drew ?_ | refine blk_alloc ?_ _)); refine blk_put (cs := #[.string (⟨#[]⟩ : ByteArray), .string (⟨#[]⟩ : ByteArray)]) ?_ 0 _ rfl; (with_reducible repeat (first | refine blk_drewN ?_ _ | refine blk_drew ?_ | refine blk_alloc ?_ _)); refine blk_far ?_ NB383_382.out _; (with_reducible repeat (first | refine blk_drewN ?_ _ | refine blk_drew ?_ | refine blk_alloc ?_ _)); refine blk_far ?_ NB383_382.out _; (with_reducible repeat (first | refine blk_drewN ?_ _ | refine blk_drew ?_ | refine blk_alloc ?_ _)); refine blk_far ?_ NB383_382.out _; (with_reducible repeat (first | refine blk_drewN ?_ _ | refine blk_drew ?_ | refine blk_alloc ?_ _)); exact BK383.out) Tryd.underlying33 rfl (by kernel_rfl)) rfl ?_
     exact ⟨ax18, by repeat (first | (with_reducible first | exact HB.out | apply below_alloc | apply pw_below_drewN | apply below_drew1 | refine below_set ?_ (IsS60.ge HI384.out) | refine below_set ?_ GE382.out | refine below_set ?_ GE383.out | refine below_set ?_ GE390.out) | exact HB.out)⟩
 ·replace c4 := Bool.eq_false_iff.mpr c4
  subst c4
  rw [if_neg (show ¬ (false = true) by decide)] at H
  obtain ⟨⟨t405, t406, t407, t408⟩, A34, H⟩ := bs H
  simp only [Option.some.injEq, Prod.mk.injEq] at H
  obtain ⟨rfl, rfl, rfl, rfl, rfl⟩ := H
  go_enter Tryd.func17, Tryd.ntmps17
  try go_wp2_with (first | ((with_reducible refine gate_dst (N := 2) rfl ?_); refine box_event ?hg (N := 2) ?hd (cs := #[.string (⟨#[]⟩ : ByteArray), .string (⟨#[]⟩ : ByteArray), .int .i64 0]) (t := 27) ?hr ?_; (case hd => rfl); (case hg => rfl); (case hr => exact ax9); intro gb382 hg w35 hbox hb; have BK382 := Aside0.mk (hbox); have GW382 := uG hg HB; have GE382 := uG hg HB; replace HB := uB HB hb; clear hb hbox hg) | ((with_reducible refine gate_dst (N := 3) rfl ?_); refine box_event ?hg (N := 3) ?hd (cs := #[.string (⟨#[]⟩ : ByteArray), .string (⟨#[]⟩ : ByteArray)]) (t := 33) ?hr ?_; (case hd => rfl); (case hg => rfl); (case hr => exact ax9); intro gb383 hg w36 hbox hb; have BK383 := Aside0.mk (hbox); have GW383 := Aside0.mk ((ax179 : w.heap.size ≤ gb383)); have GE383 := Aside0.mk ((ax179 : w.heap.size ≤ gb383)); replace HB := Aside0.mk (below_step ax180 hb); have NB382_383 := uN hg BK382; have NB383_382 := uM hg BK382; replace BK382 := ub BK382 hb; clear hb hbox hg) | ((with_reducible refine gate_dst (N := 9) rfl ?_); refine box_event ?hg (N := 9) ?hd (cs := #[.slice A0 l0.length c0, .int .i64 0, .int .u64 0]) (t := 60) ?hr ?_; (case hd => rfl); (case hg => rfl); (case hr => exact ax9); intro gb384 hg w37 hbox hb; have BK384 := Aside0.mk (hbox); have GW384 := Aside0.mk ((ax181 : w.heap.size ≤ gb384)); have GE384 := Aside0.mk ((ax181 : w.heap.size ≤ gb384)); have NB382_384 := uN hg BK382; have NB384_382 := uM hg BK382; replace BK382 := ub BK382 hb; have NB383_384 := uN hg BK383; have NB384_383 := uM hg BK383; replace BK383 := ub BK383 hb; have HI384 := Aside0.mk ((⟨_, _, hbox, ax181, HR0.out⟩ : IsS60 w w37 gb384 l0 0 0)); replace HB := Aside0.mk (below_step ax182 hb); clear hb hbox hg) | (refine gd 11 42 ?_; refine gc 11 Tryd.func42 #[.pointer (some ⟨gb384, 0, none⟩)] (spec_l1Cur_anyLog.calls k gb384 l0 0 0 t385 t386 t387 t388 t389 w _ ax183 ax184 A2.out) ?_; rintro e w38 ⟨rfl, hi, hb, hk⟩; refine ⟨_, rfl, ?_⟩; replace BK382 := Aside0.mk (KeepBut.blk hk (g' := gb382) (o := .cells #[.string (⟨#[]⟩ : ByteArray), .string (⟨#[]⟩ : ByteArray), .int .i64 0] 27 (0, 0)) ax185 NB382_384.out (by simp)); replace BK383 := Aside0.mk (KeepBut.blk hk (g' := gb383) (o := .cells #[.string (⟨#[]⟩ : ByteArray), .string (⟨#[]⟩ : ByteArray)] 33 (0, 0)) ax186 NB383_384.out (by simp)); replace HB := Aside0.mk (hb); replace HI384 := Aside0.mk (hi); (try clear hb); (try clear hb2); (try clear hk); (try clear hi)) | ((with_reducible refine gate_dst (N := 5) rfl ?_); refine box_event ?hg (N := 5) ?hd (cs := #[.string (⟨#[]⟩ : ByteArray), .string (⟨#[]⟩ : ByteArray), .int .i64 0]) (t := 27) ?hr ?_; (case hd => rfl); (case hg => rfl); (case hr => exact ax9); intro gb390 hg w39 hbox hb; have BK390 := Aside0.mk (hbox); have GW390 := Aside0.mk ((ax187 : w.heap.size ≤ gb390)); have GE390 := Aside0.mk ((ax187 : w.heap.size ≤ gb390)); replace HB := Aside0.mk (below_step ax184 hb); have NB382_390 := uN hg BK382; have NB390_382 := uM hg BK382; replace BK382 := ub BK382 hb; have NB383_390 := uN hg BK383; have NB390_383 := uM hg BK383; replace BK383 := ub BK383 hb; have NB384_390 := Aside0.mk ((ax188 : gb384 ≠ gb390)); have NB390_384 := Aside0.mk ((ax189 : gb390 ≠ gb384)); replace HI384 := Aside0.mk (IsS60.below ax183 hb); clear hb hbox hg; have hnb40 := NB390_382.out; have hnc40 := NB382_390.out; have hnb41 := NB390_383.out; have hnc41 := NB383_390.out; have hnb42 := NB390_384.out; have hnc42 := NB384_390.out; have hcz43_0 := bc (.string (⟨#[]⟩ : ByteArray)) BK390 0; have hcz43_1 := bc (.string (⟨#[]⟩ : ByteArray)) BK390 1; have hcz43_2 := bc (.int .i64 0) BK390 2; have hfz43_0 := blk_frozen BK390.out 0; have hfz43_1 := blk_frozen BK390.out 1; have hfz43_2 := blk_frozen BK390.out 2) | (refine gd 13 43 ?_; refine gc 13 Tryd.func43 #[.pointer (some ⟨gb384, 0, none⟩), .int .i64 40] (spec_l1Cur_one.calls gb384 l0 t388 t389 40 false t392 t393 w _ ax190 ax191 A3.out) ?_; rintro e w44 ⟨rfl, hi, hb, hk⟩; refine ⟨_, rfl, ?_⟩; replace BK382 := Aside0.mk (KeepBut.blk hk (g' := gb382) (o := .cells #[.string (⟨#[]⟩ : ByteArray), .string (⟨#[]⟩ : ByteArray), .int .i64 0] 27 (0, 0)) ax192 NB382_384.out (by simp)); replace BK383 := Aside0.mk (KeepBut.blk hk (g' := gb383) (o := .cells #[.string (⟨#[]⟩ : ByteArray), .string (⟨#[]⟩ : ByteArray)] 33 (0, 0)) ax193 NB383_384.out (by simp)); replace BK390 := Aside0.mk (KeepBut.blk hk (g' := gb390) (o := .cells #[.string t385, .string t386, .int .i64 t387] 27 (0, 0)) ax194 NB390_384.out (by simp)); replace HB := Aside0.mk (hb); replace HI384 := Aside0.mk (hi); (try clear hb); (try clear hb2); (try clear hk); (try clear hi)))
  replace BK382 := Aside0.mk (blk_drew BK382.out); replace BK383 := Aside0.mk (blk_drew BK383.out); replace BK390 := Aside0.mk (blk_drew BK390.out); replace HI384 := Aside0.mk (IsS60.drew HI384.out); replace HB := Aside0.mk (below_drew1 HB.out)
  refine start_ (n := 5) (S := fun w' => w'.cell? ⟨gb390, 0, none⟩ = some (.string t385) ∧ w'.cell? ⟨gb390, 1, none⟩ = some (.string t386) ∧ w'.cell? ⟨gb390, 2, none⟩ = some (.int .i64 t387)) (ds := []) #[false, false, false, false, false] (by kernel_rfl) rfl rfl ⟨(blk_cell BK390.out 0).trans rfl, (blk_cell BK390.out 1).trans rfl, (blk_cell BK390.out 2).trans rfl⟩ (fun hHeld => ?_)
  generalize w44.drew = w45 at BK382 BK383 BK390 HI384 HB hHeld ⊢
  refine pure_ (i := 1) (N := some 29) (v := ?_) (a' := ?_) #[false, true, false, false, false] rfl rfl (by kernel_rfl) (fun _ _ _ h => h) (Or.inl ⟨by rfl, ?_⟩) ?_ ?_; rotate_left; exact ax6; rotate_left; exact ax7
  refine take_ (i := 0) (N := some 28) (v := ?_) (a' := ?_) #[true, true, false, false, false] rfl rfl (by kernel_rfl) (fun _ _ _ h => h) (Or.inl ⟨by rfl, ?_⟩) hHeld ?_ ?_
  rotate_left
  ·rintro w' ⟨s0, s1, s2⟩
   go_simp
   with_reducible rfl
  rotate_left
  ·exact ax7
  refine one_ (i := 2) (N := some 30) #[true, true, true, false, false] rfl rfl (by kernel_rfl) (by decide) (fun K hK => ?_)
  refine goes_ Tryd.func36 (by kernel_rfl) rfl #[.pointer (some ⟨gb384, 0, none⟩)] (by rfl) rfl rfl ax20 ?_
  with_reducible refine (spec_l1Cur_logRecord.calls gb384 l0 t392 t393 t405 t406 t407 t408 w _ ?side1 ?side2 A34.out).mono ?_
  (case side1 => exact ax190)
  (case side2 => exact ax191)
  rintro e w46 ⟨rfl, hi, hb, hk⟩
  refine ⟨_, rfl, ?_⟩
  replace BK382 := Aside0.mk (KeepBut.blk hk (g' := gb382) (o := .cells #[.string (⟨#[]⟩ : ByteArray), .string (⟨#[]⟩ : ByteArray), .int .i64 0] 27 (0, 0)) ax185 NB382_384.out (by simp))
  replace BK383 := Aside0.mk (KeepBut.blk hk (g' := gb383) (o := .cells #[.string (⟨#[]⟩ : ByteArray), .string (⟨#[]⟩ : ByteArray)] 33 (0, 0)) ax186 NB383_384.out (by simp))
  replace BK390 := Aside0.mk (KeepBut.blk hk (g' := gb390) (o := .cells #[.string t385, .string t386, .int .i64 t387] 27 (0, 0)) ax195 NB390_384.out (by simp))
  replace HB := Aside0.mk (hb); replace HI384 := Aside0.mk (hi); (try clear hb); (try clear hb2); (try clear hk); (try clear hi)
  refine hK.out _ _ ⟨(blk_cell BK390.out 0).trans rfl, (blk_cell BK390.out 1).trans rfl, (blk_cell BK390.out 2).trans rfl⟩ (fun hHeld => ?_)
  clear hK K
  refine nm 30 ?_
  refine one_ (i := 3) (N := none) #[true, true, true, true, false] rfl rfl (by kernel_rfl) (by decide) (fun K hK => ?_)
  have hs47 : w46.cell? ⟨gb382, 0, none⟩ = some (.string (⟨#[]⟩ : ByteArray)) := (blk_cell BK382.out 0).trans rfl
  have hfs47 := blk_frozen BK382.out 0; have hns47_1 := NB383_382.out; have hns47_2 := NB390_382.out; have hms47_1 := NB382_383.out; have hms47_2 := NB382_390.out
  have hs48 : w46.cell? ⟨gb382, 1, none⟩ = some (.string (⟨#[]⟩ : ByteArray)) := (blk_cell BK382.out 1).trans rfl
  have hfs48 := blk_frozen BK382.out 1; have hns48_1 := NB383_382.out; have hns48_2 := NB390_382.out; have hms48_1 := NB382_383.out; have hms48_2 := NB382_390.out
  have hs49 : w46.cell? ⟨gb382, 2, none⟩ = some (.int .i64 0) := (blk_cell BK382.out 2).trans rfl
  have hfs49 := blk_frozen BK382.out 2; have hns49_1 := NB383_382.out; have hns49_2 := NB390_382.out; have hms49_1 := NB382_383.out; have hms49_2 := NB382_390.out
  refine skip_ (w1 := ?_) (by rfl) rfl ?_ ?_
  rotate_left
  ·go_simp
   rfl
  refine hK.out _ _ ⟨((cell_far (p := ⟨gb382, _, none⟩) NB390_382.out _).trans (((cell_far (p := ⟨gb382, _, none⟩) NB390_382.out _).trans (((cell_far (p := ⟨gb382, _, none⟩) NB390_382.out _).trans (hHeld.1)))))), ((cell_far (p := ⟨gb382, _, none⟩) NB390_382.out _).trans (((cell_far (p := ⟨gb382, _, none⟩) NB390_382.out _).trans (((cell_far (p := ⟨gb382, _, none⟩) NB390_382.out _).trans (hHeld.2.1)))))), ((cell_far (p := ⟨gb382, _, none⟩) NB390_382.out _).trans (((cell_far (p := ⟨gb382, _, none⟩) NB390_382.out _).trans (((cell_far (p := ⟨gb382, _, none⟩) NB390_382.out _).trans (hHeld.2.2))))))⟩ (fun hHeld => ?_)
  clear hK K
  refine one_ (i := 4) (N := none) #[true, true, true, true, true] rfl rfl (by kernel_rfl) (by decide) (fun K hK => ?_)
  have hs50 : w46.cell? ⟨gb383, 0, none⟩ = some (.string (⟨#[]⟩ : ByteArray)) := (blk_cell BK383.out 0).trans rfl
  have hfs50 := blk_frozen BK383.out 0; have hns50_0 := NB382_383.out; have hns50_2 := NB390_383.out; have hms50_0 := NB383_382.out; have hms50_2 := NB383_390.out
  have hs51 : w46.cell? ⟨gb383, 1, none⟩ = some (.string (⟨#[]⟩ : ByteArray)) := (blk_cell BK383.out 1).trans rfl
  have hfs51 := blk_frozen BK383.out 1; have hns51_0 := NB382_383.out; have hns51_2 := NB390_383.out; have hms51_0 := NB383_382.out; have hms51_2 := NB383_390.out
  refine skip_ (w1 := ?_) (by rfl) rfl ?_ ?_
  rotate_left
  ·go_simp
   rfl
  refine hK.out _ _ ⟨((cell_far (p := ⟨gb383, _, none⟩) NB390_383.out _).trans (((cell_far (p := ⟨gb383, _, none⟩) NB390_383.out _).trans (hHeld.1)))), ((cell_far (p := ⟨gb383, _, none⟩) NB390_383.out _).trans (((cell_far (p := ⟨gb383, _, none⟩) NB390_383.out _).trans (hHeld.2.1)))), ((cell_far (p := ⟨gb383, _, none⟩) NB390_383.out _).trans (((cell_far (p := ⟨gb383, _, none⟩) NB390_383.out _).trans (hHeld.2.2))))⟩ (fun hHeld => ?_)
  clear hK K
  refine done_ (by kernel_rfl) ?_
  try go_wp2
  refine bodyPost_ret (results_cc rfl _ _ gb382 gb383 27 33 #[.string t385, .string t386, .int .i64 t387] #[.string t405, .string t406] (0, 0) (0, 0) _ _ rfl (by (with_reducible repeat (first | refine blk_drewN ?_ _ | refine blk_drew ?_ | refine blk_alloc ?_ _)); refine blk_far ?_ NB382_383.out _; (with_reducible repeat (first | refine blk_drewN ?_ _ | refine blk_drew ?_ | refine blk_alloc ?_ _)); refine blk_far ?_ NB382_383.out _; (with_reducible repeat (first | refine blk_drewN ?_ _ | refine blk_drew ?_ | refine blk_alloc ?_ _)); refine blk_put (cs := #[.string t385, .string t386, .int .i64 0]) ?_ 2 _ rfl; (with_reducible repeat (first | refine blk_drewN ?_ _ | refine blk_drew ?_ | refine blk_alloc ?_ _)); refine blk_put (cs := #[.string t385, .string (⟨#[]⟩ : ByteArray), .int .i64 0]) ?_ 1 _ rfl; (with_reducible repeat (first | refine blk_drewN ?_ _ | refine blk_drew ?_ | refine blk_alloc ?_ _)); refine blk_put (cs := #[.string (⟨#[]⟩ : ByteArray), .string (⟨#[]⟩ : ByteArray), .int .i64 0]) ?_ 0 _ rfl; (with_reducible repeat (first | refine blk_drewN ?_ _ | refine blk_drew ?_ | refine blk_alloc ?_ _)); exact BK382.out) Tryd.underlying27 rfl (by kernel_rfl) rfl (by (with_reducible repeat (first | refine blk_drewN ?_ _ | refine blk_drew ?_ | refine blk_alloc ?_ _)); refine blk_put (cs := #[.string t405, .string (⟨#[]⟩ : ByteArray)]) ?_ 1 _ rfl; (with_reducible repeat (first | refine blk_drewN ?_ _ | refine blk_drew ?_ | refine blk_alloc ?_ _)); refine blk_put (cs := #[.string (⟨#[]⟩ : ByteArray), .string (⟨#[]⟩ : ByteArray)]) ?_ 0 _ rfl; (with_reducible repeat (first | refine blk_drewN ?_ _ | refine blk_drew ?_ | refine blk_alloc ?_ _)); refine blk_far ?_ NB383_382.out _; (with_reducible repeat (first | refine blk_drewN ?_ _ | refine blk_drew ?_ | refine blk_alloc ?_ _)); refine blk_far ?_ NB383_382.out _; (with_reducible repeat (first | refine blk_drewN ?_ _ | refine blk_drew ?_ | refine blk_alloc ?_ _)); refine blk_far ?_ NB383_382.out _; (with_reducible repeat (first | refine blk_drewN ?_ _ | refine blk_drew ?_ | refine blk_alloc ?_ _)); exact BK383.out) Tryd.underlying33 rfl (by kernel_rfl)) rfl ?_
  exact ⟨ax18, by repeat (first | (with_reducible first | exact HB.out | apply below_alloc | apply pw_below_drewN | apply below_drew1 | refine below_set ?_ (IsS60.ge HI384.out) | refine below_set ?_ GE382.out | refine below_set ?_ GE383.out | refine below_set ?_ GE390.out) | exact HB.out)⟩

end Go.Proofs.YtnjjchbhbicmoaaDoor.X

-- By gen.py (the session's own program over the kit's printer): functions of the program, each with its contract. Lean checks it.
import Derived.Test.YtnjjchbhbicmoaaDoorX0
import Derived.Test.YtnjjchbhbicmoaaDoorX9
namespace Go.Proofs.YtnjjchbhbicmoaaDoor.X
open Go.RowKit Go.Proofs.YtnjjchbhbicmoaaDoorW.PrintWords Go.Proofs.YtnjjchbhbicmoaaDoorW.PrintLast Go.Proofs.YtnjjchbhbicmoaaDoorW.PrintMore
attribute [local go_sem] max2_int min2_int max_two min_two max_three min_three max_four min_four   -- for this text's walks alone
set_option linter.unusedVariables false
set_option linter.unusedSimpArgs false

/-! ### laws_szLog: function 6 -/
def laws_szLog.f (a0_0 : ByteArray) (a0_1 : ByteArray) (a0_2 : Int) (a1 : Int) : Option (Int) := if (wrap64 (a1 - (a0_0.size : Int))) < 0 then (some (-1)) else (if (wrap64 ((wrap64 (a1 - (a0_0.size : Int))) - (a0_1.size : Int))) < 0 then (some (-1)) else (some (wrap64 ((wrap64 (a1 - (a0_0.size : Int))) - (a0_1.size : Int)))))
set_option maxHeartbeats 8000000 in
set_option maxRecDepth 100000 in
theorem laws_szLog.calls (a0_0 : ByteArray) (a0_1 : ByteArray) (a0_2 : Int) (a1 : Int) (r : Int) (w : World) (h : laws_szLog.f a0_0 a0_1 a0_2 a1 = some r) :
  Calls Tryd.prog 6 #[.agg #[.string a0_0, .string a0_1, .int .i64 a0_2], .int .i64 a1] w fun e w' => e = .returned (.int .i64 r) ∧ Below w.heap.size w w' := by
 have hu23 := Tryd.underlying23; have HB := Aside0.mk (Below.refl w.heap.size w)
 have H : (if (wrap64 (a1 - (a0_0.size : Int))) < 0 then (some (-1)) else (if (wrap64 ((wrap64 (a1 - (a0_0.size : Int))) - (a0_1.size : Int))) < 0 then (some (-1)) else (some (wrap64 ((wrap64 (a1 - (a0_0.size : Int))) - (a0_1.size : Int)))))) = some r := h
 clear h
 by_cases c3 : (wrap64 (a1 - (a0_0.size : Int))) < 0
 ·rw [if_pos c3] at H
  have c3b0 : decide ((wrap64 (a1 - (a0_0.size : Int))) < 0) = true := decide_eq_true c3
  clear c3
  obtain rfl := Option.some.inj H
  go_enter Tryd.func6, Tryd.ntmps6
  go_wp2_with (first | ((with_reducible refine gate_dst (N := 2) rfl ?_); refine box_event ?hg (N := 2) ?hd (cs := #[.string a0_0, .string a0_1, .int .i64 a0_2]) (t := 23) ?hr ?_; (case hd => rfl); (case hg => rfl); (case hr => exact ax9); intro gb101 hg w4 hbox hb; have BK101 := Aside0.mk (hbox); have GW101 := uG hg HB; have GE101 := uG hg HB; replace HB := uB HB hb; clear hb hbox hg; have hcz5_0 := bc (.string a0_0) BK101 0; have hcz5_1 := bc (.string a0_1) BK101 1; have hcz5_2 := bc (.int .i64 a0_2) BK101 2; have hfz5_0 := blk_frozen BK101.out 0; have hfz5_1 := blk_frozen BK101.out 1; have hfz5_2 := blk_frozen BK101.out 2))
  go_ret
  exact ⟨ax18, by repeat (first | (with_reducible first | exact HB.out | apply below_alloc | apply pw_below_drewN | apply below_drew1 | refine below_set ?_ GE101.out) | exact HB.out)⟩
 ·rw [if_neg c3] at H
  have c3b0 : decide ((wrap64 (a1 - (a0_0.size : Int))) < 0) = false := decide_eq_false c3
  clear c3
  by_cases c6 : (wrap64 ((wrap64 (a1 - (a0_0.size : Int))) - (a0_1.size : Int))) < 0
  ·rw [if_pos c6] at H
   have c6b0 : decide ((wrap64 ((wrap64 (a1 - (a0_0.size : Int))) - (a0_1.size : Int))) < 0) = true := decide_eq_true c6
   clear c6
   obtain rfl := Option.some.inj H
   go_enter Tryd.func6, Tryd.ntmps6
   go_wp2_with (first | ((with_reducible refine gate_dst (N := 2) rfl ?_); refine box_event ?hg (N := 2) ?hd (cs := #[.string a0_0, .string a0_1, .int .i64 a0_2]) (t := 23) ?hr ?_; (case hd => rfl); (case hg => rfl); (case hr => exact ax9); intro gb101 hg w7 hbox hb; have BK101 := Aside0.mk (hbox); have GW101 := uG hg HB; have GE101 := uG hg HB; replace HB := uB HB hb; clear hb hbox hg; have hcz8_0 := bc (.string a0_0) BK101 0; have hcz8_1 := bc (.string a0_1) BK101 1; have hcz8_2 := bc (.int .i64 a0_2) BK101 2; have hfz8_0 := blk_frozen BK101.out 0; have hfz8_1 := blk_frozen BK101.out 1; have hfz8_2 := blk_frozen BK101.out 2))
   go_ret
   exact ⟨ax18, by repeat (first | (with_reducible first | exact HB.out | apply below_alloc | apply pw_below_drewN | apply below_drew1 | refine below_set ?_ GE101.out) | exact HB.out)⟩
  ·rw [if_neg c6] at H
   have c6b0 : decide ((wrap64 ((wrap64 (a1 - (a0_0.size : Int))) - (a0_1.size : Int))) < 0) = false := decide_eq_false c6
   clear c6
   obtain rfl := Option.some.inj H
   go_enter Tryd.func6, Tryd.ntmps6
   go_wp2_with (first | ((with_reducible refine gate_dst (N := 2) rfl ?_); refine box_event ?hg (N := 2) ?hd (cs := #[.string a0_0, .string a0_1, .int .i64 a0_2]) (t := 23) ?hr ?_; (case hd => rfl); (case hg => rfl); (case hr => exact ax9); intro gb101 hg w9 hbox hb; have BK101 := Aside0.mk (hbox); have GW101 := uG hg HB; have GE101 := uG hg HB; replace HB := uB HB hb; clear hb hbox hg; have hcz10_0 := bc (.string a0_0) BK101 0; have hcz10_1 := bc (.string a0_1) BK101 1; have hcz10_2 := bc (.int .i64 a0_2) BK101 2; have hfz10_0 := blk_frozen BK101.out 0; have hfz10_1 := blk_frozen BK101.out 1; have hfz10_2 := blk_frozen BK101.out 2))
   go_ret
   exact ⟨ax18, by repeat (first | (with_reducible first | exact HB.out | apply below_alloc | apply pw_below_drewN | apply below_drew1 | refine below_set ?_ GE101.out) | exact HB.out)⟩

/-! ### laws_toLog: function 8 -/
def laws_toLog.f (a0_0 : ByteArray) (a0_1 : ByteArray) (a0_2 : Int) : Option (ByteArray × ByteArray × Int) := some (a0_0, a0_1, a0_2)
set_option maxHeartbeats 8000000 in
set_option maxRecDepth 100000 in
theorem laws_toLog.calls (a0_0 : ByteArray) (a0_1 : ByteArray) (a0_2 : Int) (r1 : ByteArray) (r2 : ByteArray) (r3 : Int) (w : World) (h : laws_toLog.f a0_0 a0_1 a0_2 = some (r1, r2, r3)) :
  Calls Tryd.prog 8 #[.agg #[.string a0_0, .string a0_1, .int .i64 a0_2]] w fun e w' => e = .returned (.agg #[.string r1, .string r2, .int .i64 r3]) ∧ Below w.heap.size w w' := by
 have hu23 := Tryd.underlying23; have hu27 := Tryd.underlying27; have HB := Aside0.mk (Below.refl w.heap.size w)
 have H : (some (a0_0, a0_1, a0_2)) = some (r1, r2, r3) := h
 clear h
 simp only [Option.some.injEq, Prod.mk.injEq] at H
 obtain ⟨rfl, rfl, rfl⟩ := H
 go_enter Tryd.func8, Tryd.ntmps8
 go_wp2_with (first | ((with_reducible refine gate_dst (N := 1) rfl ?_); refine box_event ?hg (N := 1) ?hd (cs := #[.string a0_0, .string a0_1, .int .i64 a0_2]) (t := 23) ?hr ?_; (case hd => rfl); (case hg => rfl); (case hr => exact ax9); intro gb162 hg w2 hbox hb; have BK162 := Aside0.mk (hbox); have GW162 := uG hg HB; have GE162 := uG hg HB; replace HB := uB HB hb; clear hb hbox hg) | ((with_reducible refine gate_dst (N := 2) rfl ?_); refine box_event ?hg (N := 2) ?hd (cs := #[.string (⟨#[]⟩ : ByteArray), .string (⟨#[]⟩ : ByteArray), .int .i64 0]) (t := 27) ?hr ?_; (case hd => rfl); (case hg => rfl); (case hr => exact ax9); intro gb163 hg w3 hbox hb; have BK163 := Aside0.mk (hbox); have GW163 := Aside0.mk ((ax163 : w.heap.size ≤ gb163)); have GE163 := Aside0.mk ((ax163 : w.heap.size ≤ gb163)); replace HB := Aside0.mk (below_step ax164 hb); have NB162_163 := uN hg BK162; have NB163_162 := uM hg BK162; replace BK162 := ub BK162 hb; clear hb hbox hg) | ((with_reducible refine gate_dst (N := 3) rfl ?_); refine box_event ?hg (N := 3) ?hd (cs := #[.string (⟨#[]⟩ : ByteArray), .string (⟨#[]⟩ : ByteArray), .int .i64 0]) (t := 27) ?hr ?_; (case hd => rfl); (case hg => rfl); (case hr => exact ax9); intro gb164 hg w4 hbox hb; have BK164 := Aside0.mk (hbox); have GW164 := Aside0.mk ((ax165 : w.heap.size ≤ gb164)); have GE164 := Aside0.mk ((ax165 : w.heap.size ≤ gb164)); replace HB := Aside0.mk (below_step ax166 hb); have NB162_164 := uN hg BK162; have NB164_162 := uM hg BK162; replace BK162 := ub BK162 hb; have NB163_164 := uN hg BK163; have NB164_163 := uM hg BK163; replace BK163 := ub BK163 hb; clear hb hbox hg; have hnb5 := NB162_163.out; have hnc5 := NB163_162.out; have hnb6 := NB162_164.out; have hnc6 := NB164_162.out; have hcz7_0 := bc (.string a0_0) BK162 0; have hcz7_1 := bc (.string a0_1) BK162 1; have hcz7_2 := bc (.int .i64 a0_2) BK162 2; have hfz7_0 := blk_frozen BK162.out 0; have hfz7_1 := blk_frozen BK162.out 1; have hfz7_2 := blk_frozen BK162.out 2; have hnb8 := NB164_163.out; have hnc8 := NB163_164.out; have hcz9_0 := bc (.string (⟨#[]⟩ : ByteArray)) BK164 0; have hcz9_1 := bc (.string (⟨#[]⟩ : ByteArray)) BK164 1; have hcz9_2 := bc (.int .i64 0) BK164 2; have hfz9_0 := blk_frozen BK164.out 0; have hfz9_1 := blk_frozen BK164.out 1; have hfz9_2 := blk_frozen BK164.out 2; have hcz10_0 := bc (.string (⟨#[]⟩ : ByteArray)) BK163 0; have hcz10_1 := bc (.string (⟨#[]⟩ : ByteArray)) BK163 1; have hcz10_2 := bc (.int .i64 0) BK163 2; have hfz10_0 := blk_frozen BK163.out 0; have hfz10_1 := blk_frozen BK163.out 1; have hfz10_2 := blk_frozen BK163.out 2))
 refine bodyPost_ret (results_cell_row rfl _ _ gb163 27 #[.string a0_0, .string a0_1, .int .i64 a0_2] (0, 0) _ rfl (by (with_reducible repeat (first | refine blk_drewN ?_ _ | refine blk_drew ?_ | refine blk_alloc ?_ _)); refine blk_put (cs := #[.string a0_0, .string a0_1, .int .i64 0]) ?_ 2 _ rfl; (with_reducible repeat (first | refine blk_drewN ?_ _ | refine blk_drew ?_ | refine blk_alloc ?_ _)); refine blk_put (cs := #[.string a0_0, .string (⟨#[]⟩ : ByteArray), .int .i64 0]) ?_ 1 _ rfl; (with_reducible repeat (first | refine blk_drewN ?_ _ | refine blk_drew ?_ | refine blk_alloc ?_ _)); refine blk_put (cs := #[.string (⟨#[]⟩ : ByteArray), .string (⟨#[]⟩ : ByteArray), .int .i64 0]) ?_ 0 _ rfl; (with_reducible repeat (first | refine blk_drewN ?_ _ | refine blk_drew ?_ | refine blk_alloc ?_ _)); refine blk_far ?_ NB163_164.out _; (with_reducible repeat (first | refine blk_drewN ?_ _ | refine blk_drew ?_ | refine blk_alloc ?_ _)); refine blk_far ?_ NB163_164.out _; (with_reducible repeat (first | refine blk_drewN ?_ _ | refine blk_drew ?_ | refine blk_alloc ?_ _)); refine blk_far ?_ NB163_164.out _; (with_reducible repeat (first | refine blk_drewN ?_ _ | refine blk_drew ?_ | refine blk_alloc ?_ _)); exact BK163.out) Tryd.underlying27 rfl (by kernel_rfl)) rfl ?_
 exact ⟨ax18, by repeat (first | (with_reducible first | exact HB.out | apply below_alloc | apply pw_below_drewN | apply below_drew1 | refine below_set ?_ GE162.out | refine below_set ?_ GE163.out | refine below_set ?_ GE164.out) | exact HB.out)⟩

/-! ### laws_FnExactCrashLog: function 3 -/
def laws_FnExactCrashLog.f (k : Nat) (a0_0 : ByteArray) (a0_1 : ByteArray) (a0_2 : Int) (a1 : Int) (a2 : Bool) : Option (Bool) := (laws_szLog.f a0_0 a0_1 a0_2 1048576).bind fun t221 => (if t221 < 0 then (some true) else ((laws_toLog.f a0_0 a0_1 a0_2).bind fun bt222 => ((spec_CrashLog.f k bt222.1 bt222.2.1 bt222.2.2 a1 a2).bind fun bt225 => ((laws_toLog.f a0_0 a0_1 a0_2).bind fun bt227 => ((impl_CrashLog.f k bt227.1 bt227.2.1 bt227.2.2 a1 a2).bind fun bt230 => (if bt230.1.toList = bt225.1.toList then (if (bt230.2 != bt225.2) = true then (some false) else (some true)) else (some false)))))))
theorem laws_FnExactCrashLog.mono : ∀ a0 a1 a2 a3 a4 k, LeO (laws_FnExactCrashLog.f k a0 a1 a2 a3 a4) (laws_FnExactCrashLog.f (k + 1) a0 a1 a2 a3 a4) := by
 intro a0 a1 a2 a3 a4 k
 unfold laws_FnExactCrashLog.f
 repeat' first | (with_reducible first | exact impl_CrashLog.mono .. | exact spec_CrashLog.mono .. | exact LeO.refl _ | exact LeO.none _ | refine LeO.ite ?_ ?_ | refine LeO.bind ?_ (fun _ => ?_)) | exact impl_CrashLog.mono .. | exact spec_CrashLog.mono .. | exact LeO.none _ | refine LeO.ite ?_ ?_ | refine LeO.bind ?_ (fun _ => ?_)
set_option maxHeartbeats 8000000 in
set_option maxRecDepth 100000 in
theorem laws_FnExactCrashLog.calls (k : Nat) (a0_0 : ByteArray) (a0_1 : ByteArray) (a0_2 : Int) (a1 : Int) (a2 : Bool) (r : Bool) (w : World) (hG : GL w) (h : laws_FnExactCrashLog.f k a0_0 a0_1 a0_2 a1 a2 = some r) (hr_ : r = true) :
  Calls Tryd.prog 3 #[.agg #[.string a0_0, .string a0_1, .int .i64 a0_2], .int .i64 a1, .bool a2] w fun e w' => e = .returned (.bool r) ∧ Below w.heap.size w w' := by
 have hu23 := Tryd.underlying23; have HB := Aside0.mk (Below.refl w.heap.size w); have HG := Aside0.mk hG; clear hG; have HRT := Aside0.mk hr_; clear hr_
 have H : ((laws_szLog.f a0_0 a0_1 a0_2 1048576).bind fun t221 => (if t221 < 0 then (some true) else ((laws_toLog.f a0_0 a0_1 a0_2).bind fun bt222 => ((spec_CrashLog.f k bt222.1 bt222.2.1 bt222.2.2 a1 a2).bind fun bt225 => ((laws_toLog.f a0_0 a0_1 a0_2).bind fun bt227 => ((impl_CrashLog.f k bt227.1 bt227.2.1 bt227.2.2 a1 a2).bind fun bt230 => (if bt230.1.toList = bt225.1.toList then (if (bt230.2 != bt225.2) = true then (some false) else (some true)) else (some false)))))))) = some r := h
 clear h
 obtain ⟨t221, A4, H⟩ := bs H
 by_cases c5 : t221 < 0
 ·rw [if_pos c5] at H
  have c5b0 : decide (t221 < 0) = true := decide_eq_true c5
  clear c5
  as_aux_lemma =>
   obtain rfl := Option.some.inj H
   go_enter Tryd.func3, Tryd.ntmps3
   go_wp2_with (first | ((with_reducible refine gate_dst (N := 3) rfl ?_); refine box_event ?hg (N := 3) ?hd (cs := #[.string a0_0, .string a0_1, .int .i64 a0_2]) (t := 23) ?hr ?_; (case hd => rfl); (case hg => rfl); (case hr => exact ax9); intro gb220 hg w6 hbox hb; have BK220 := Aside0.mk (hbox); have GW220 := uG hg HB; have GE220 := uG hg HB; replace HB := uB HB hb; clear hb hbox hg; have hcz7_0 := bc (.string a0_0) BK220 0; have hcz7_1 := bc (.string a0_1) BK220 1; have hcz7_2 := bc (.int .i64 a0_2) BK220 2; have hfz7_0 := blk_frozen BK220.out 0; have hfz7_1 := blk_frozen BK220.out 1; have hfz7_2 := blk_frozen BK220.out 2) | (refine gd 14 6 ?_; refine gc 14 Tryd.func6 #[.agg #[.string a0_0, .string a0_1, .int .i64 a0_2], .int .i64 1048576] (laws_szLog.calls a0_0 a0_1 a0_2 1048576 t221 _ A4.out) ?_; rintro e w8 ⟨rfl, hb⟩; refine ⟨_, rfl, ?_⟩; replace BK220 := ub BK220 hb; replace HB := Aside0.mk (below_step ax167 hb); (try clear hb); (try clear hb2); (try clear hk); (try clear hi)))
   go_ret
   exact ⟨ax18, by repeat (first | (with_reducible first | exact HB.out | apply below_alloc | apply pw_below_drewN | apply below_drew1 | refine below_set ?_ GE220.out) | exact HB.out)⟩
 ·rw [if_neg c5] at H
  have c5b0 : decide (t221 < 0) = false := decide_eq_false c5
  clear c5
  obtain ⟨⟨t222, t223, t224⟩, A9, H⟩ := bs H
  obtain ⟨⟨t225, t226⟩, A10, H⟩ := bs H
  obtain ⟨⟨t227, t228, t229⟩, A11, H⟩ := bs H
  obtain ⟨⟨t230, t231⟩, A12, H⟩ := bs H
  by_cases c13 : t230.toList = t225.toList
  ·rw [if_pos c13] at H
   have c13b0 : (t230.toList == t225.toList) = true := beq_iff_eq.mpr c13
   have c13b1 : (t230.toList != t225.toList) = false := bne_eq_false_iff_eq.mpr c13
   clear c13
   by_cases c14 : (t231 != t226) = true
   ·rw [if_pos c14] at H
    have c14b0 : (t231 != t226) = true := c14
    (try (have c14b1 : decide (t231 = t226) = false := by simpa using c14))
    (try (have c14b2 : (t231 == t226) = false := by simpa using c14))
    (try (have c14b3 : ¬ (t231 = t226) := by simpa using c14))
    clear c14
    as_aux_lemma =>
     exact absurd ((Option.some.inj H).trans HRT.out) (by decide)
   ·rw [if_neg c14] at H
    have c14b0 : (t231 != t226) = false := by simpa using c14
    (try (have c14b1 : decide (t231 = t226) = true := by simpa using c14))
    (try (have c14b2 : (t231 == t226) = true := by simpa using c14))
    clear c14
    as_aux_lemma =>
     obtain rfl := Option.some.inj H
     go_enter Tryd.func3, Tryd.ntmps3
     go_wp2_with (first | ((with_reducible refine gate_dst (N := 3) rfl ?_); refine box_event ?hg (N := 3) ?hd (cs := #[.string a0_0, .string a0_1, .int .i64 a0_2]) (t := 23) ?hr ?_; (case hd => rfl); (case hg => rfl); (case hr => exact ax9); intro gb220 hg w15 hbox hb; have BK220 := Aside0.mk (hbox); have GW220 := uG hg HB; have GE220 := uG hg HB; replace HB := uB HB hb; clear hb hbox hg; have hcz16_0 := bc (.string a0_0) BK220 0; have hcz16_1 := bc (.string a0_1) BK220 1; have hcz16_2 := bc (.int .i64 a0_2) BK220 2; have hfz16_0 := blk_frozen BK220.out 0; have hfz16_1 := blk_frozen BK220.out 1; have hfz16_2 := blk_frozen BK220.out 2) | (refine gd 14 6 ?_; refine gc 14 Tryd.func6 #[.agg #[.string a0_0, .string a0_1, .int .i64 a0_2], .int .i64 1048576] (laws_szLog.calls a0_0 a0_1 a0_2 1048576 t221 _ A4.out) ?_; rintro e w17 ⟨rfl, hb⟩; refine ⟨_, rfl, ?_⟩; replace BK220 := ub BK220 hb; replace HB := Aside0.mk (below_step ax167 hb); (try clear hb); (try clear hb2); (try clear hk); (try clear hi); have hcz18_0 := bc (.string a0_0) BK220 0; have hcz18_1 := bc (.string a0_1) BK220 1; have hcz18_2 := bc (.int .i64 a0_2) BK220 2; have hfz18_0 := blk_frozen BK220.out 0; have hfz18_1 := blk_frozen BK220.out 1; have hfz18_2 := blk_frozen BK220.out 2) | (refine gd 19 8 ?_; refine gc 19 Tryd.func8 #[.agg #[.string a0_0, .string a0_1, .int .i64 a0_2]] (laws_toLog.calls a0_0 a0_1 a0_2 t222 t223 t224 _ A9.out) ?_; rintro e w19 ⟨rfl, hb⟩; refine ⟨_, rfl, ?_⟩; replace BK220 := ub BK220 hb; replace HB := Aside0.mk (below_step ax167 hb); (try clear hb); (try clear hb2); (try clear hk); (try clear hi)) | (refine gd 22 7 ?_; refine gc 22 Tryd.func7 #[.agg #[.string t222, .string t223, .int .i64 t224], .int .i64 a1, .bool a2] (spec_CrashLog.calls k t222 t223 t224 a1 a2 t225 t226 _ A10.out) ?_; rintro e w20 ⟨rfl, hb⟩; refine ⟨_, rfl, ?_⟩; replace BK220 := ub BK220 hb; replace HB := Aside0.mk (below_step ax167 hb); (try clear hb); (try clear hb2); (try clear hk); (try clear hi); have hcz21_0 := bc (.string a0_0) BK220 0; have hcz21_1 := bc (.string a0_1) BK220 1; have hcz21_2 := bc (.int .i64 a0_2) BK220 2; have hfz21_0 := blk_frozen BK220.out 0; have hfz21_1 := blk_frozen BK220.out 1; have hfz21_2 := blk_frozen BK220.out 2) | (refine gd 27 8 ?_; refine gc 27 Tryd.func8 #[.agg #[.string a0_0, .string a0_1, .int .i64 a0_2]] (laws_toLog.calls a0_0 a0_1 a0_2 t227 t228 t229 _ A11.out) ?_; rintro e w22 ⟨rfl, hb⟩; refine ⟨_, rfl, ?_⟩; replace BK220 := ub BK220 hb; replace HB := Aside0.mk (below_step ax167 hb); (try clear hb); (try clear hb2); (try clear hk); (try clear hi)) | (refine gd 30 9 ?_; refine gc 30 Tryd.func9 #[.agg #[.string t227, .string t228, .int .i64 t229], .int .i64 a1, .bool a2] (impl_CrashLog.calls k t227 t228 t229 a1 a2 t230 t231 _ (GL.below HG.out ax167) A12.out) ?_; rintro e w23 ⟨rfl, hb⟩; refine ⟨_, rfl, ?_⟩; replace BK220 := ub BK220 hb; replace HB := Aside0.mk (below_step ax167 hb); (try clear hb); (try clear hb2); (try clear hk); (try clear hi)))
     go_ret
     exact ⟨ax18, by repeat (first | (with_reducible first | exact HB.out | apply below_alloc | apply pw_below_drewN | apply below_drew1 | refine below_set ?_ GE220.out) | exact HB.out)⟩
  ·rw [if_neg c13] at H
   have c13b0 : (t230.toList == t225.toList) = false := beq_eq_false_iff_ne.mpr c13
   have c13b1 : (t230.toList != t225.toList) = true := bne_iff_ne.mpr c13
   as_aux_lemma =>
    exact absurd ((Option.some.inj H).trans HRT.out) (by decide)

end Go.Proofs.YtnjjchbhbicmoaaDoor.X

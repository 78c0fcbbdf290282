-- By gen.py (the session's own program over the kit's printer): functions of the program, each with its contract. Lean checks it.
import Derived.Test.YtnjjchbhbicmoaaDoorRs
import Derived.Test.YtnjjchbhbicmoaaDoorX0
import Derived.Test.YtnjjchbhbicmoaaDoorX1
import Derived.Test.YtnjjchbhbicmoaaDoorX2
import Derived.Test.YtnjjchbhbicmoaaDoorX6
import Derived.Test.YtnjjchbhbicmoaaDoorX7
import Derived.Test.YtnjjchbhbicmoaaDoorX8
import Derived.Test.YtnjjchbhbicmoaaDoorX10
import Derived.Test.YtnjjchbhbicmoaaDoorX11
import Derived.Test.YtnjjchbhbicmoaaDoorX13
import Derived.Test.YtnjjchbhbicmoaaDoorX17
import Derived.Test.YtnjjchbhbicmoaaDoorX18
namespace Go.Proofs.YtnjjchbhbicmoaaDoor.X
open Go.RowKit Go.Proofs.YtnjjchbhbicmoaaDoorW.PrintWords Go.Proofs.YtnjjchbhbicmoaaDoorW.PrintLast Go.Proofs.YtnjjchbhbicmoaaDoorW.PrintMore
attribute [local go_sem] max2_int min2_int max_two min_two max_three min_three max_four min_four   -- for this text's walks alone
set_option linter.unusedVariables false
set_option linter.unusedSimpArgs false

attribute [local go_sem high] eqA27 eqA33
/-! ### laws_FnLogs: function 4 -/
mutual
def laws_FnLogs.j0 : Nat → Int → Bool → ByteArray → ByteArray → Int → ByteArray → ByteArray → ByteArray → ByteArray → Int → Option (Bool)
 | 0, _, _, _, _, _, _, _, _, _, _ => none
 | k + 1, x14, x103, x470000, x470001, x470002, x471000, x471001, x476000, x476001, x476002 => if x103 = true then (some false) else ((impl_SyncLog.f k x470000 x470001 x470002).bind fun bt485 => ((spec_SyncLog.f k x470000 x470001 x470002).bind fun bt490 => ((impl_LogRecords.f k x470000 x470001 x470002).bind fun bt495 => ((spec_LogRecords.f k x470000 x470001 x470002).bind fun bt499 => (if (!(bt485.1.toList == bt490.1.toList) || (!(bt485.2.1.toList == bt490.2.1.toList) || (!(bt485.2.2.1 == bt490.2.2.1)))) = true then (laws_FnLogs.j1 k x14 bt485.2.2.2 bt495.1 true x470000 x470001 x470002 x471000 x471001 x476000 x476001 x476002 bt485.1 bt485.2.1 bt485.2.2.1) else (if (bt485.2.2.2 != bt490.2.2.2) = true then (laws_FnLogs.j1 k x14 bt485.2.2.2 bt495.1 true x470000 x470001 x470002 x471000 x471001 x476000 x476001 x476002 bt485.1 bt485.2.1 bt485.2.2.1) else (if (bt495.2 != bt499.2) = true then (laws_FnLogs.j1 k x14 bt485.2.2.2 bt495.1 true x470000 x470001 x470002 x471000 x471001 x476000 x476001 x476002 bt485.1 bt485.2.1 bt485.2.2.1) else ((laws_vRecords.f k bt495.1 bt499.1).bind fun t503 => (laws_FnLogs.j1 k x14 bt485.2.2.2 bt495.1 (!t503) x470000 x470001 x470002 x471000 x471001 x476000 x476001 x476002 bt485.1 bt485.2.1 bt485.2.2.1)))))))))
def laws_FnLogs.j1 : Nat → Int → Bool → List (S33) → Bool → ByteArray → ByteArray → Int → ByteArray → ByteArray → ByteArray → ByteArray → Int → ByteArray → ByteArray → Int → Option (Bool)
 | 0, _, _, _, _, _, _, _, _, _, _, _, _, _, _, _ => none
 | k + 1, x14, x18, x21, x142, x470000, x470001, x470002, x471000, x471001, x476000, x476001, x476002, x490000, x490001, x490002 => if x142 = true then (some false) else ((impl_LogRecords.f k x490000 x490001 x490002).bind fun bt504 => (if x18 = true then ((laws_vRecords.f k bt504.1 x21).bind fun t508 => (laws_FnLogs.j2 k x14 x21 (!t508) x470000 x470001 x470002 x471000 x471001 x476000 x476001 x476002)) else (laws_FnLogs.j2 k x14 x21 false x470000 x470001 x470002 x471000 x471001 x476000 x476001 x476002)))
def laws_FnLogs.j2 : Nat → Int → List (S33) → Bool → ByteArray → ByteArray → Int → ByteArray → ByteArray → ByteArray → ByteArray → Int → Option (Bool)
 | 0, _, _, _, _, _, _, _, _, _, _, _ => none
 | k + 1, x14, x21, x154, x470000, x470001, x470002, x471000, x471001, x476000, x476001, x476002 => if x154 = true then (some false) else (if x14 = 0 then ((impl_LogRecords.f k x476000 x476001 x476002).bind fun bt509 => ((impl_IsValidLog.f k x476000 x476001 x476002).bind fun t513 => (if t513 = true then (if (bt509.1.length : Int) = (wrap64 ((x21.length : Int) + 1)) then (if 0 ≤ (x21.length : Int) then (if (x21.length : Int) ≤ (bt509.1.length : Int) then ((laws_vRecords.f k (bt509.1.take ((x21.length : Int) : Int).toNat) x21).bind fun t518 => (if t518 = true then (if (x21.length : Int) < (bt509.1.length : Int) then (some ((((rd_T33 bt509.1 (x21.length : Int)).f0).toList) == x471000.toList && ((((rd_T33 bt509.1 (x21.length : Int)).f1).toList) == x471001.toList))) else (none)) else (some false))) else (none)) else (none)) else (some false)) else (some false)))) else (some (x476000.toList == x470000.toList && (x476001.toList == x470001.toList && (x476002 == x470002)))))
end
def laws_FnLogs.f (k : Nat) (l0 : List Int) : Option (Bool) := (laws_vBig.f l0).bind fun t439 => (if t439 = true then (some true) else ((spec_DrawIsValidRecord.f l0).bind fun bt440 => ((laws_vCut.f l0 1).bind fun t443 => ((spec_DrawEncodeRecord.f t443).bind fun bt446 => ((impl_EncodeRecord.f k bt446.1 bt446.2.1 bt446.2.2).bind fun bt450 => ((spec_EncodeRecord.f k bt446.1 bt446.2.1 bt446.2.2).bind fun bt452 => ((laws_vCut.f l0 2).bind fun t454 => ((spec_DrawIsValidLog.f k t454).bind fun bt457 => ((laws_vCut.f l0 3).bind fun t461 => ((spec_DrawAppendRecord.f k t461).bind fun bt464 => ((impl_AppendRecord.f k bt464.1 bt464.2.1 bt464.2.2.1 bt464.2.2.2.1 bt464.2.2.2.2).bind fun bt471 => ((spec_AppendRecord.f k bt464.1 bt464.2.1 bt464.2.2.1 bt464.2.2.2.1 bt464.2.2.2.2).bind fun bt476 => ((impl_IsValidRecord.f k bt440.1 bt440.2).bind fun t481 => ((spec_IsValidRecord.f k bt440.1 bt440.2).bind fun t482 => (if (t481 != t482) = true then (laws_FnLogs.j0 k bt471.2.2.2 true bt464.1 bt464.2.1 bt464.2.2.1 bt464.2.2.2.1 bt464.2.2.2.2 bt471.1 bt471.2.1 bt471.2.2.1) else (if bt450.1.toList = bt452.1.toList then (if (bt450.2 != bt452.2) = true then (laws_FnLogs.j0 k bt471.2.2.2 true bt464.1 bt464.2.1 bt464.2.2.1 bt464.2.2.2.1 bt464.2.2.2.2 bt471.1 bt471.2.1 bt471.2.2.1) else ((impl_IsValidLog.f k bt457.1 bt457.2.1 bt457.2.2).bind fun t483 => ((spec_IsValidLog.f k bt457.1 bt457.2.1 bt457.2.2).bind fun t484 => (if (t483 != t484) = true then (laws_FnLogs.j0 k bt471.2.2.2 true bt464.1 bt464.2.1 bt464.2.2.1 bt464.2.2.2.1 bt464.2.2.2.2 bt471.1 bt471.2.1 bt471.2.2.1) else (if (!(bt471.1.toList == bt476.1.toList) || (!(bt471.2.1.toList == bt476.2.1.toList) || (!(bt471.2.2.1 == bt476.2.2.1)))) = true then (laws_FnLogs.j0 k bt471.2.2.2 true bt464.1 bt464.2.1 bt464.2.2.1 bt464.2.2.2.1 bt464.2.2.2.2 bt471.1 bt471.2.1 bt471.2.2.1) else (laws_FnLogs.j0 k bt471.2.2.2 (bt471.2.2.2 != bt476.2.2.2) bt464.1 bt464.2.1 bt464.2.2.1 bt464.2.2.2.1 bt464.2.2.2.2 bt471.1 bt471.2.1 bt471.2.2.1)))))) else (laws_FnLogs.j0 k bt471.2.2.2 true bt464.1 bt464.2.1 bt464.2.2.1 bt464.2.2.2.1 bt464.2.2.2.2 bt471.1 bt471.2.1 bt471.2.2.1)))))))))))))))))
theorem laws_FnLogs.mono_l : ∀ k, (∀ y0 y1 y2 y3 y4 y5 y6 y7 y8 y9, LeO (laws_FnLogs.j0 k y0 y1 y2 y3 y4 y5 y6 y7 y8 y9) (laws_FnLogs.j0 (k + 1) y0 y1 y2 y3 y4 y5 y6 y7 y8 y9)) ∧ (∀ y0 y1 y2 y3 y4 y5 y6 y7 y8 y9 y10 y11 y12 y13 y14, LeO (laws_FnLogs.j1 k y0 y1 y2 y3 y4 y5 y6 y7 y8 y9 y10 y11 y12 y13 y14) (laws_FnLogs.j1 (k + 1) y0 y1 y2 y3 y4 y5 y6 y7 y8 y9 y10 y11 y12 y13 y14)) ∧ (∀ y0 y1 y2 y3 y4 y5 y6 y7 y8 y9 y10, LeO (laws_FnLogs.j2 k y0 y1 y2 y3 y4 y5 y6 y7 y8 y9 y10) (laws_FnLogs.j2 (k + 1) y0 y1 y2 y3 y4 y5 y6 y7 y8 y9 y10))
 | 0 => ⟨fun _ _ _ _ _ _ _ _ _ _ r h => by simp [laws_FnLogs.j0] at h, fun _ _ _ _ _ _ _ _ _ _ _ _ _ _ _ r h => by simp [laws_FnLogs.j1] at h, fun _ _ _ _ _ _ _ _ _ _ _ r h => by simp [laws_FnLogs.j2] at h⟩
 | k + 1 => by
  obtain ⟨ih0, ih1, ih2⟩ := laws_FnLogs.mono_l k
  refine ⟨?_, ?_, ?_⟩ <;> intros
  all_goals (first | unfold laws_FnLogs.j0 | unfold laws_FnLogs.j1 | unfold laws_FnLogs.j2)
  all_goals (repeat' first | (with_reducible first | exact ih0 .. | exact ih1 .. | exact ih2 .. | exact impl_AppendRecord.mono .. | exact impl_EncodeRecord.mono .. | exact impl_IsValidLog.mono .. | exact impl_IsValidRecord.mono .. | exact impl_LogRecords.mono .. | exact impl_SyncLog.mono .. | exact laws_vRecords.mono .. | exact spec_AppendRecord.mono .. | exact spec_DrawAppendRecord.mono .. | exact spec_DrawIsValidLog.mono .. | exact spec_EncodeRecord.mono .. | exact spec_IsValidLog.mono .. | exact spec_IsValidRecord.mono .. | exact spec_LogRecords.mono .. | exact spec_SyncLog.mono .. | exact LeO.refl _ | exact LeO.none _ | refine LeO.ite ?_ ?_ | refine LeO.bind ?_ (fun _ => ?_)) | exact ih0 .. | exact ih1 .. | exact ih2 .. | exact impl_AppendRecord.mono .. | exact impl_EncodeRecord.mono .. | exact impl_IsValidLog.mono .. | exact impl_IsValidRecord.mono .. | exact impl_LogRecords.mono .. | exact impl_SyncLog.mono .. | exact laws_vRecords.mono .. | exact spec_AppendRecord.mono .. | exact spec_DrawAppendRecord.mono .. | exact spec_DrawIsValidLog.mono .. | exact spec_EncodeRecord.mono .. | exact spec_IsValidLog.mono .. | exact spec_IsValidRecord.mono .. | exact spec_LogRecords.mono .. | exact spec_SyncLog.mono .. | exact LeO.none _ | refine LeO.ite ?_ ?_ | refine LeO.bind ?_ (fun _ => ?_))
theorem laws_FnLogs.mono : ∀ a0 k, LeO (laws_FnLogs.f k a0) (laws_FnLogs.f (k + 1) a0) := by
 intro a0 k
 obtain ⟨ih0, ih1, ih2⟩ := laws_FnLogs.mono_l k
 unfold laws_FnLogs.f
 repeat' first | (with_reducible first | exact ih0 .. | exact ih1 .. | exact ih2 .. | exact impl_AppendRecord.mono .. | exact impl_EncodeRecord.mono .. | exact impl_IsValidLog.mono .. | exact impl_IsValidRecord.mono .. | exact impl_LogRecords.mono .. | exact impl_SyncLog.mono .. | exact laws_vRecords.mono .. | exact spec_AppendRecord.mono .. | exact spec_DrawAppendRecord.mono .. | exact spec_DrawIsValidLog.mono .. | exact spec_EncodeRecord.mono .. | exact spec_IsValidLog.mono .. | exact spec_IsValidRecord.mono .. | exact spec_LogRecords.mono .. | exact spec_SyncLog.mono .. | exact LeO.refl _ | exact LeO.none _ | refine LeO.ite ?_ ?_ | refine LeO.bind ?_ (fun _ => ?_)) | exact ih0 .. | exact ih1 .. | exact ih2 .. | exact impl_AppendRecord.mono .. | exact impl_EncodeRecord.mono .. | exact impl_IsValidLog.mono .. | exact impl_IsValidRecord.mono .. | exact impl_LogRecords.mono .. | exact impl_SyncLog.mono .. | exact laws_vRecords.mono .. | exact spec_AppendRecord.mono .. | exact spec_DrawAppendRecord.mono .. | exact spec_DrawIsValidLog.mono .. | exact spec_EncodeRecord.mono .. | exact spec_IsValidLog.mono .. | exact spec_IsValidRecord.mono .. | exact spec_LogRecords.mono .. | exact spec_SyncLog.mono .. | exact LeO.none _ | refine LeO.ite ?_ ?_ | refine LeO.bind ?_ (fun _ => ?_)
def laws_FnLogs.T11 : Bool × List (List Nat × List Nat) := (true, [([], []), ([0], [0]), ([], []), ([2, 1], [2]), ([1, 3], [1, 3]), ([4, 3], [4]), ([5], [5]), ([5], [5]), ([6, 7, 5], [5, 6, 7]), ([5, 8], [5, 8]), ([9, 5], [9]), ([10], [10]), ([10], [10]), ([11, 12, 10], [10, 11, 12]), ([10, 13], [10, 13]), ([14, 10], [14]), ([15], [15]), ([16, 15, 15], [15, 16]), ([15], [15]), ([18, 17, 15], [15, 18]), ([17, 19, 15], [15, 17, 19]), ([15, 20], [15, 20]), ([21, 19], [21]), ([22], [22]), ([22], [22]), ([23, 24, 22], [22, 23, 24]), ([22, 25], [22, 25]), ([26, 22], [26]), ([27], [27]), ([27], [27]), ([28, 29, 27], [27, 28, 29]), ([27, 30], [27, 30])])
def laws_FnLogs.B11 : List Nat := [0, 1, 0, 7, 15, 31, 63, 63, 255, 511, 1023, 2047, 2047, 8191, 16383, 32767, 65535, 131071, 65535, 524287, 1048575, 2097151, 4194303, 8388607, 8388607, 33554431, 67108863, 134217727, 268435455, 268435455, 1073741823, 2147483647]
theorem laws_FnLogs.tab11 : rtab .any (opsOf Tryd.f4 11) = laws_FnLogs.T11 := by kernel_rfl
theorem laws_FnLogs.bits11 : waitsOk laws_FnLogs.T11.2 laws_FnLogs.B11 = true := by kernel_rfl
def laws_FnLogs.T25 : Bool × List (List Nat × List Nat) := (true, [([], []), ([0], [0]), ([1, 1], [1]), ([2], [2]), ([3, 2], [2, 3]), ([2], [2]), ([5, 2], [2, 5]), ([6, 2], [2, 6]), ([4, 7, 2], [2, 4, 7]), ([2, 8], [2, 8]), ([9, 2], [9]), ([10], [10]), ([10], [10]), ([12, 10], [10, 12]), ([11, 13, 10], [10, 11, 13]), ([10], [10]), ([14, 15, 10, 10], [10, 14, 15]), ([10, 16], [10, 16]), ([17, 16], [17]), ([18], [18]), ([18], [18]), ([20, 18], [18, 20]), ([19, 21, 18], [18, 19, 21]), ([22, 18], [18, 22]), ([18], [18]), ([23, 24, 18], [18, 23, 24]), ([18, 25], [18, 25]), ([26, 18, 0, 1, 2, 3, 4, 5, 6, 7, 8, 9, 10, 11, 12, 13, 14, 15, 16, 17, 18, 19, 20, 21, 22, 23, 24, 25, 26], [26])])
def laws_FnLogs.B25 : List Nat := [0, 1, 3, 7, 15, 7, 39, 103, 255, 511, 1023, 2047, 2047, 6143, 16383, 2047, 65535, 131071, 262143, 524287, 524287, 1572863, 4194303, 8388607, 524287, 33554431, 67108863, 134217727]
theorem laws_FnLogs.tab25 : rtab .any (opsOf Tryd.f4 25) = laws_FnLogs.T25 := by kernel_rfl
theorem laws_FnLogs.bits25 : waitsOk laws_FnLogs.T25.2 laws_FnLogs.B25 = true := by kernel_rfl
set_option maxHeartbeats 8000000 in
set_option maxRecDepth 100000 in
theorem laws_FnLogs.calls (k : Nat) (A0 : Option Addr) (c0 : Nat) (l0 : List Int) (r : Bool) (w : World) (hr0 : Kd.C (Kd.int .u8) w A0 l0.length l0) (hc0 : l0.length ≤ c0) (hG : GL w) (h : laws_FnLogs.f k l0 = some r) (hr_ : r = true) :
  Calls Tryd.prog 4 #[.slice A0 l0.length c0] w fun e w' => e = .returned (.bool r) ∧ Below w.heap.size w w' := by
 have hu33 := Tryd.underlying33; have hu27 := Tryd.underlying27; have HR0 := Aside0.mk hr0; have HC0 := Aside0.mk hc0; clear hr0 hc0; have HB := Aside0.mk (Below.refl w.heap.size w); have HG := Aside0.mk hG; clear hG; have HRT := Aside0.mk hr_; clear hr_
 have H : ((laws_vBig.f l0).bind fun t439 => (if t439 = true then (some true) else ((spec_DrawIsValidRecord.f l0).bind fun bt440 => ((laws_vCut.f l0 1).bind fun t443 => ((spec_DrawEncodeRecord.f t443).bind fun bt446 => ((impl_EncodeRecord.f k bt446.1 bt446.2.1 bt446.2.2).bind fun bt450 => ((spec_EncodeRecord.f k bt446.1 bt446.2.1 bt446.2.2).bind fun bt452 => ((laws_vCut.f l0 2).bind fun t454 => ((spec_DrawIsValidLog.f k t454).bind fun bt457 => ((laws_vCut.f l0 3).bind fun t461 => ((spec_DrawAppendRecord.f k t461).bind fun bt464 => ((impl_AppendRecord.f k bt464.1 bt464.2.1 bt464.2.2.1 bt464.2.2.2.1 bt464.2.2.2.2).bind fun bt471 => ((spec_AppendRecord.f k bt464.1 bt464.2.1 bt464.2.2.1 bt464.2.2.2.1 bt464.2.2.2.2).bind fun bt476 => ((impl_IsValidRecord.f k bt440.1 bt440.2).bind fun t481 => ((spec_IsValidRecord.f k bt440.1 bt440.2).bind fun t482 => (if (t481 != t482) = true then (laws_FnLogs.j0 k bt471.2.2.2 true bt464.1 bt464.2.1 bt464.2.2.1 bt464.2.2.2.1 bt464.2.2.2.2 bt471.1 bt471.2.1 bt471.2.2.1) else (if bt450.1.toList = bt452.1.toList then (if (bt450.2 != bt452.2) = true then (laws_FnLogs.j0 k bt471.2.2.2 true bt464.1 bt464.2.1 bt464.2.2.1 bt464.2.2.2.1 bt464.2.2.2.2 bt471.1 bt471.2.1 bt471.2.2.1) else ((impl_IsValidLog.f k bt457.1 bt457.2.1 bt457.2.2).bind fun t483 => ((spec_IsValidLog.f k bt457.1 bt457.2.1 bt457.2.2).bind fun t484 => (if (t483 != t484) = true then (laws_FnLogs.j0 k bt471.2.2.2 true bt464.1 bt464.2.1 bt464.2.2.1 bt464.2.2.2.1 bt464.2.2.2.2 bt471.1 bt471.2.1 bt471.2.2.1) else (if (!(bt471.1.toList == bt476.1.toList) || (!(bt471.2.1.toList == bt476.2.1.toList) || (!(bt471.2.2.1 == bt476.2.2.1)))) = true then (laws_FnLogs.j0 k bt471.2.2.2 true bt464.1 bt464.2.1 bt464.2.2.1 bt464.2.2.2.1 bt464.2.2.2.2 bt471.1 bt471.2.1 bt471.2.2.1) else (laws_FnLogs.j0 k bt471.2.2.2 (bt471.2.2.2 != bt476.2.2.2) bt464.1 bt464.2.1 bt464.2.2.1 bt464.2.2.2.1 bt464.2.2.2.2 bt471.1 bt471.2.1 bt471.2.2.1)))))) else (laws_FnLogs.j0 k bt471.2.2.2 true bt464.1 bt464.2.1 bt464.2.2.1 bt464.2.2.2.1 bt464.2.2.2.2 bt471.1 bt471.2.1 bt471.2.2.1)))))))))))))))))) = some r := h
 clear h
 obtain ⟨t439, A2, H⟩ := bs H
 by_cases c3 : t439 = true
 ·subst c3
  rw [if_pos rfl] at H
  as_aux_lemma =>
   obtain rfl := Option.some.inj H
   go_enter Tryd.func4, Tryd.ntmps4
   go_wp2_with (first | (refine stg ?_; refine stw ?_; (try simp only [World.setCells, Nat.zero_add, Nat.reduceAdd, Act.put, List.setIfInBounds_toArray, List.set_cons_zero, List.set_cons_succ])) | (refine gd 30 10 ?_; refine gc 30 Tryd.func10 #[.slice A0 l0.length c0] (laws_vBig.calls _ _ l0 true _ ax137 (HC0.out) A2.out) ?_; rintro e w' ⟨rfl, ⟨nd, rfl⟩⟩; refine ⟨_, rfl, ?_⟩))
   go_ret
   exact ⟨ax18, by repeat (first | (with_reducible first | exact HB.out | apply below_alloc | apply pw_below_drewN | apply below_drew1) | exact HB.out)⟩
 ·replace c3 := Bool.eq_false_iff.mpr c3
  subst c3
  rw [if_neg (show ¬ (false = true) by decide)] at H
  obtain ⟨⟨t440, t441⟩, A4, H⟩ := bs H
  obtain ⟨t443, A5, H⟩ := bs H
  obtain ⟨⟨t446, t447, t448⟩, A6, H⟩ := bs H
  obtain ⟨⟨t450, t451⟩, A7, H⟩ := bs H
  obtain ⟨⟨t452, t453⟩, A8, H⟩ := bs H
  obtain ⟨t454, A9, H⟩ := bs H
  obtain ⟨⟨t457, t458, t459⟩, A10, H⟩ := bs H
  obtain ⟨t461, A11, H⟩ := bs H
  obtain ⟨⟨t464, t465, t466, t467, t468⟩, A12, H⟩ := bs H
  obtain ⟨⟨t471, t472, t473, t474⟩, A13, H⟩ := bs H
  obtain ⟨⟨t476, t477, t478, t479⟩, A14, H⟩ := bs H
  have HC15 := Aside0.mk H; clear H
  go_enter Tryd.func4, Tryd.ntmps4
  go_upto_region 11 with (first | (refine stg ?_; refine stw ?_; (try simp only [World.setCells, Nat.zero_add, Nat.reduceAdd, Act.put, List.setIfInBounds_toArray, List.set_cons_zero, List.set_cons_succ])) | (refine ldg gb442 ?_; refine ldw gb442 (cs := #[.string t440, .string t441]) (ty := 33) ?_ (by (with_reducible repeat (first | refine blk_drewN ?_ _ | refine blk_drew ?_ | refine blk_alloc ?_ _)); refine blk_put (cs := #[.string t440, .string (⟨#[]⟩ : ByteArray)]) ?_ 1 _ rfl; (with_reducible repeat (first | refine blk_drewN ?_ _ | refine blk_drew ?_ | refine blk_alloc ?_ _)); refine blk_put (cs := #[.string (⟨#[]⟩ : ByteArray), .string (⟨#[]⟩ : ByteArray)]) ?_ 0 _ rfl; (with_reducible repeat (first | refine blk_drewN ?_ _ | refine blk_drew ?_ | refine blk_alloc ?_ _)); exact BK442.out); (try simp only [Act.put, List.setIfInBounds_toArray, List.set_cons_zero, List.set_cons_succ])) | (refine ldg gb442 ?_; refine ldw gb442 (cs := #[.string t440, .string t441]) (ty := 33) ?_ (by (with_reducible repeat (first | refine blk_drewN ?_ _ | refine blk_drew ?_ | refine blk_alloc ?_ _)); refine blk_far ?_ NB442_449.out _; (with_reducible repeat (first | refine blk_drewN ?_ _ | refine blk_drew ?_ | refine blk_alloc ?_ _)); refine blk_far ?_ NB442_449.out _; (with_reducible repeat (first | refine blk_drewN ?_ _ | refine blk_drew ?_ | refine blk_alloc ?_ _)); exact BK442.out); (try simp only [Act.put, List.setIfInBounds_toArray, List.set_cons_zero, List.set_cons_succ])) | (refine ldg gb449 ?_; refine ldw gb449 (cs := #[.string t447, .string t448]) (ty := 33) ?_ (by (with_reducible repeat (first | refine blk_drewN ?_ _ | refine blk_drew ?_ | refine blk_alloc ?_ _)); refine blk_put (cs := #[.string t447, .string (⟨#[]⟩ : ByteArray)]) ?_ 1 _ rfl; (with_reducible repeat (first | refine blk_drewN ?_ _ | refine blk_drew ?_ | refine blk_alloc ?_ _)); refine blk_put (cs := #[.string (⟨#[]⟩ : ByteArray), .string (⟨#[]⟩ : ByteArray)]) ?_ 0 _ rfl; (with_reducible repeat (first | refine blk_drewN ?_ _ | refine blk_drew ?_ | refine blk_alloc ?_ _)); exact BK449.out); (try simp only [Act.put, List.setIfInBounds_toArray, List.set_cons_zero, List.set_cons_succ])) | (refine ldg gb442 ?_; refine ldw gb442 (cs := #[.string t440, .string t441]) (ty := 33) ?_ (by (with_reducible repeat (first | refine blk_drewN ?_ _ | refine blk_drew ?_ | refine blk_alloc ?_ _)); refine blk_far ?_ NB442_460.out _; (with_reducible repeat (first | refine blk_drewN ?_ _ | refine blk_drew ?_ | refine blk_alloc ?_ _)); refine blk_far ?_ NB442_460.out _; (with_reducible repeat (first | refine blk_drewN ?_ _ | refine blk_drew ?_ | refine blk_alloc ?_ _)); refine blk_far ?_ NB442_460.out _; (with_reducible repeat (first | refine blk_drewN ?_ _ | refine blk_drew ?_ | refine blk_alloc ?_ _)); exact BK442.out); (try simp only [Act.put, List.setIfInBounds_toArray, List.set_cons_zero, List.set_cons_succ])) | (refine ldg gb449 ?_; refine ldw gb449 (cs := #[.string t447, .string t448]) (ty := 33) ?_ (by (with_reducible repeat (first | refine blk_drewN ?_ _ | refine blk_drew ?_ | refine blk_alloc ?_ _)); refine blk_far ?_ NB449_460.out _; (with_reducible repeat (first | refine blk_drewN ?_ _ | refine blk_drew ?_ | refine blk_alloc ?_ _)); refine blk_far ?_ NB449_460.out _; (with_reducible repeat (first | refine blk_drewN ?_ _ | refine blk_drew ?_ | refine blk_alloc ?_ _)); refine blk_far ?_ NB449_460.out _; (with_reducible repeat (first | refine blk_drewN ?_ _ | refine blk_drew ?_ | refine blk_alloc ?_ _)); exact BK449.out); (try simp only [Act.put, List.setIfInBounds_toArray, List.set_cons_zero, List.set_cons_succ])) | (refine ldg gb460 ?_; refine ldw gb460 (cs := #[.string t457, .string t458, .int .i64 t459]) (ty := 27) ?_ (by (with_reducible repeat (first | refine blk_drewN ?_ _ | refine blk_drew ?_ | refine blk_alloc ?_ _)); refine blk_put (cs := #[.string t457, .string t458, .int .i64 0]) ?_ 2 _ rfl; (with_reducible repeat (first | refine blk_drewN ?_ _ | refine blk_drew ?_ | refine blk_alloc ?_ _)); refine blk_put (cs := #[.string t457, .string (⟨#[]⟩ : ByteArray), .int .i64 0]) ?_ 1 _ rfl; (with_reducible repeat (first | refine blk_drewN ?_ _ | refine blk_drew ?_ | refine blk_alloc ?_ _)); refine blk_put (cs := #[.string (⟨#[]⟩ : ByteArray), .string (⟨#[]⟩ : ByteArray), .int .i64 0]) ?_ 0 _ rfl; (with_reducible repeat (first | refine blk_drewN ?_ _ | refine blk_drew ?_ | refine blk_alloc ?_ _)); exact BK460.out); (try simp only [Act.put, List.setIfInBounds_toArray, List.set_cons_zero, List.set_cons_succ])) | (refine ldg gb442 ?_; refine ldw gb442 (cs := #[.string t440, .string t441]) (ty := 33) ?_ (by (with_reducible repeat (first | refine blk_drewN ?_ _ | refine blk_drew ?_ | refine blk_alloc ?_ _)); refine blk_far ?_ NB442_470.out _; (with_reducible repeat (first | refine blk_drewN ?_ _ | refine blk_drew ?_ | refine blk_alloc ?_ _)); refine blk_far ?_ NB442_470.out _; (with_reducible repeat (first | refine blk_drewN ?_ _ | refine blk_drew ?_ | refine blk_alloc ?_ _)); refine blk_far ?_ NB442_469.out _; (with_reducible repeat (first | refine blk_drewN ?_ _ | refine blk_drew ?_ | refine blk_alloc ?_ _)); refine blk_far ?_ NB442_469.out _; (with_reducible repeat (first | refine blk_drewN ?_ _ | refine blk_drew ?_ | refine blk_alloc ?_ _)); refine blk_far ?_ NB442_469.out _; (with_reducible repeat (first | refine blk_drewN ?_ _ | refine blk_drew ?_ | refine blk_alloc ?_ _)); exact BK442.out); (try simp only [Act.put, List.setIfInBounds_toArray, List.set_cons_zero, List.set_cons_succ])) | (refine ldg gb449 ?_; refine ldw gb449 (cs := #[.string t447, .string t448]) (ty := 33) ?_ (by (with_reducible repeat (first | refine blk_drewN ?_ _ | refine blk_drew ?_ | refine blk_alloc ?_ _)); refine blk_far ?_ NB449_470.out _; (with_reducible repeat (first | refine blk_drewN ?_ _ | refine blk_drew ?_ | refine blk_alloc ?_ _)); refine blk_far ?_ NB449_470.out _; (with_reducible repeat (first | refine blk_drewN ?_ _ | refine blk_drew ?_ | refine blk_alloc ?_ _)); refine blk_far ?_ NB449_469.out _; (with_reducible repeat (first | refine blk_drewN ?_ _ | refine blk_drew ?_ | refine blk_alloc ?_ _)); refine blk_far ?_ NB449_469.out _; (with_reducible repeat (first | refine blk_drewN ?_ _ | refine blk_drew ?_ | refine blk_alloc ?_ _)); refine blk_far ?_ NB449_469.out _; (with_reducible repeat (first | refine blk_drewN ?_ _ | refine blk_drew ?_ | refine blk_alloc ?_ _)); exact BK449.out); (try simp only [Act.put, List.setIfInBounds_toArray, List.set_cons_zero, List.set_cons_succ])) | (refine ldg gb460 ?_; refine ldw gb460 (cs := #[.string t457, .string t458, .int .i64 t459]) (ty := 27) ?_ (by (with_reducible repeat (first | refine blk_drewN ?_ _ | refine blk_drew ?_ | refine blk_alloc ?_ _)); refine blk_far ?_ NB460_470.out _; (with_reducible repeat (first | refine blk_drewN ?_ _ | refine blk_drew ?_ | refine blk_alloc ?_ _)); refine blk_far ?_ NB460_470.out _; (with_reducible repeat (first | refine blk_drewN ?_ _ | refine blk_drew ?_ | refine blk_alloc ?_ _)); refine blk_far ?_ NB460_469.out _; (with_reducible repeat (first | refine blk_drewN ?_ _ | refine blk_drew ?_ | refine blk_alloc ?_ _)); refine blk_far ?_ NB460_469.out _; (with_reducible repeat (first | refine blk_drewN ?_ _ | refine blk_drew ?_ | refine blk_alloc ?_ _)); refine blk_far ?_ NB460_469.out _; (with_reducible repeat (first | refine blk_drewN ?_ _ | refine blk_drew ?_ | refine blk_alloc ?_ _)); exact BK460.out); (try simp only [Act.put, List.setIfInBounds_toArray, List.set_cons_zero, List.set_cons_succ])) | (refine ldg gb469 ?_; refine ldw gb469 (cs := #[.string t464, .string t465, .int .i64 t466]) (ty := 27) ?_ (by (with_reducible repeat (first | refine blk_drewN ?_ _ | refine blk_drew ?_ | refine blk_alloc ?_ _)); refine blk_far ?_ NB469_470.out _; (with_reducible repeat (first | refine blk_drewN ?_ _ | refine blk_drew ?_ | refine blk_alloc ?_ _)); refine blk_far ?_ NB469_470.out _; (with_reducible repeat (first | refine blk_drewN ?_ _ | refine blk_drew ?_ | refine blk_alloc ?_ _)); refine blk_put (cs := #[.string t464, .string t465, .int .i64 0]) ?_ 2 _ rfl; (with_reducible repeat (first | refine blk_drewN ?_ _ | refine blk_drew ?_ | refine blk_alloc ?_ _)); refine blk_put (cs := #[.string t464, .string (⟨#[]⟩ : ByteArray), .int .i64 0]) ?_ 1 _ rfl; (with_reducible repeat (first | refine blk_drewN ?_ _ | refine blk_drew ?_ | refine blk_alloc ?_ _)); refine blk_put (cs := #[.string (⟨#[]⟩ : ByteArray), .string (⟨#[]⟩ : ByteArray), .int .i64 0]) ?_ 0 _ rfl; (with_reducible repeat (first | refine blk_drewN ?_ _ | refine blk_drew ?_ | refine blk_alloc ?_ _)); exact BK469.out); (try simp only [Act.put, List.setIfInBounds_toArray, List.set_cons_zero, List.set_cons_succ])) | (refine ldg gb470 ?_; refine ldw gb470 (cs := #[.string t467, .string t468]) (ty := 33) ?_ (by (with_reducible repeat (first | refine blk_drewN ?_ _ | refine blk_drew ?_ | refine blk_alloc ?_ _)); refine blk_put (cs := #[.string t467, .string (⟨#[]⟩ : ByteArray)]) ?_ 1 _ rfl; (with_reducible repeat (first | refine blk_drewN ?_ _ | refine blk_drew ?_ | refine blk_alloc ?_ _)); refine blk_put (cs := #[.string (⟨#[]⟩ : ByteArray), .string (⟨#[]⟩ : ByteArray)]) ?_ 0 _ rfl; (with_reducible repeat (first | refine blk_drewN ?_ _ | refine blk_drew ?_ | refine blk_alloc ?_ _)); refine blk_far ?_ NB470_469.out _; (with_reducible repeat (first | refine blk_drewN ?_ _ | refine blk_drew ?_ | refine blk_alloc ?_ _)); refine blk_far ?_ NB470_469.out _; (with_reducible repeat (first | refine blk_drewN ?_ _ | refine blk_drew ?_ | refine blk_alloc ?_ _)); refine blk_far ?_ NB470_469.out _; (with_reducible repeat (first | refine blk_drewN ?_ _ | refine blk_drew ?_ | refine blk_alloc ?_ _)); exact BK470.out); (try simp only [Act.put, List.setIfInBounds_toArray, List.set_cons_zero, List.set_cons_succ])) | (refine ldg gb442 ?_; refine ldw gb442 (cs := #[.string t440, .string t441]) (ty := 33) ?_ (by (with_reducible repeat (first | refine blk_drewN ?_ _ | refine blk_drew ?_ | refine blk_alloc ?_ _)); refine blk_far ?_ NB442_475.out _; (with_reducible repeat (first | refine blk_drewN ?_ _ | refine blk_drew ?_ | refine blk_alloc ?_ _)); refine blk_far ?_ NB442_475.out _; (with_reducible repeat (first | refine blk_drewN ?_ _ | refine blk_drew ?_ | refine blk_alloc ?_ _)); refine blk_far ?_ NB442_475.out _; (with_reducible repeat (first | refine blk_drewN ?_ _ | refine blk_drew ?_ | refine blk_alloc ?_ _)); exact BK442.out); (try simp only [Act.put, List.setIfInBounds_toArray, List.set_cons_zero, List.set_cons_succ])) | (refine ldg gb449 ?_; refine ldw gb449 (cs := #[.string t447, .string t448]) (ty := 33) ?_ (by (with_reducible repeat (first | refine blk_drewN ?_ _ | refine blk_drew ?_ | refine blk_alloc ?_ _)); refine blk_far ?_ NB449_475.out _; (with_reducible repeat (first | refine blk_drewN ?_ _ | refine blk_drew ?_ | refine blk_alloc ?_ _)); refine blk_far ?_ NB449_475.out _; (with_reducible repeat (first | refine blk_drewN ?_ _ | refine blk_drew ?_ | refine blk_alloc ?_ _)); refine blk_far ?_ NB449_475.out _; (with_reducible repeat (first | refine blk_drewN ?_ _ | refine blk_drew ?_ | refine blk_alloc ?_ _)); exact BK449.out); (try simp only [Act.put, List.setIfInBounds_toArray, List.set_cons_zero, List.set_cons_succ])) | (refine ldg gb460 ?_; refine ldw gb460 (cs := #[.string t457, .string t458, .int .i64 t459]) (ty := 27) ?_ (by (with_reducible repeat (first | refine blk_drewN ?_ _ | refine blk_drew ?_ | refine blk_alloc ?_ _)); refine blk_far ?_ NB460_475.out _; (with_reducible repeat (first | refine blk_drewN ?_ _ | refine blk_drew ?_ | refine blk_alloc ?_ _)); refine blk_far ?_ NB460_475.out _; (with_reducible repeat (first | refine blk_drewN ?_ _ | refine blk_drew ?_ | refine blk_alloc ?_ _)); refine blk_far ?_ NB460_475.out _; (with_reducible repeat (first | refine blk_drewN ?_ _ | refine blk_drew ?_ | refine blk_alloc ?_ _)); exact BK460.out); (try simp only [Act.put, List.setIfInBounds_toArray, List.set_cons_zero, List.set_cons_succ])) | (refine ldg gb469 ?_; refine ldw gb469 (cs := #[.string t464, .string t465, .int .i64 t466]) (ty := 27) ?_ (by (with_reducible repeat (first | refine blk_drewN ?_ _ | refine blk_drew ?_ | refine blk_alloc ?_ _)); refine blk_far ?_ NB469_475.out _; (with_reducible repeat (first | refine blk_drewN ?_ _ | refine blk_drew ?_ | refine blk_alloc ?_ _)); refine blk_far ?_ NB469_475.out _; (with_reducible repeat (first | refine blk_drewN ?_ _ | refine blk_drew ?_ | refine blk_alloc ?_ _)); refine blk_far ?_ NB469_475.out _; (with_reducible repeat (first | refine blk_drewN ?_ _ | refine blk_drew ?_ | refine blk_alloc ?_ _)); exact BK469.out); (try simp only [Act.put, List.setIfInBounds_toArray, List.set_cons_zero, List.set_cons_succ])) | (refine ldg gb470 ?_; refine ldw gb470 (cs := #[.string t467, .string t468]) (ty := 33) ?_ (by (with_reducible repeat (first | refine blk_drewN ?_ _ | refine blk_drew ?_ | refine blk_alloc ?_ _)); refine blk_far ?_ NB470_475.out _; (with_reducible repeat (first | refine blk_drewN ?_ _ | refine blk_drew ?_ | refine blk_alloc ?_ _)); refine blk_far ?_ NB470_475.out _; (with_reducible repeat (first | refine blk_drewN ?_ _ | refine blk_drew ?_ | refine blk_alloc ?_ _)); refine blk_far ?_ NB470_475.out _; (with_reducible repeat (first | refine blk_drewN ?_ _ | refine blk_drew ?_ | refine blk_alloc ?_ _)); exact BK470.out); (try simp only [Act.put, List.setIfInBounds_toArray, List.set_cons_zero, List.set_cons_succ])) | (refine ldg gb475 ?_; refine ldw gb475 (cs := #[.string t471, .string t472, .int .i64 t473]) (ty := 27) ?_ (by (with_reducible repeat (first | refine blk_drewN ?_ _ | refine blk_drew ?_ | refine blk_alloc ?_ _)); refine blk_put (cs := #[.string t471, .string t472, .int .i64 0]) ?_ 2 _ rfl; (with_reducible repeat (first | refine blk_drewN ?_ _ | refine blk_drew ?_ | refine blk_alloc ?_ _)); refine blk_put (cs := #[.string t471, .string (⟨#[]⟩ : ByteArray), .int .i64 0]) ?_ 1 _ rfl; (with_reducible repeat (first | refine blk_drewN ?_ _ | refine blk_drew ?_ | refine blk_alloc ?_ _)); refine blk_put (cs := #[.string (⟨#[]⟩ : ByteArray), .string (⟨#[]⟩ : ByteArray), .int .i64 0]) ?_ 0 _ rfl; (with_reducible repeat (first | refine blk_drewN ?_ _ | refine blk_drew ?_ | refine blk_alloc ?_ _)); exact BK475.out); (try simp only [Act.put, List.setIfInBounds_toArray, List.set_cons_zero, List.set_cons_succ])) | (refine ldg gb442 ?_; refine ldw gb442 ?_ BK442.out; (try simp only [Act.put, List.setIfInBounds_toArray, List.set_cons_zero, List.set_cons_succ])) | (refine ldg gb449 ?_; refine ldw gb449 ?_ BK449.out; (try simp only [Act.put, List.setIfInBounds_toArray, List.set_cons_zero, List.set_cons_succ])) | (refine ldg gb460 ?_; refine ldw gb460 ?_ BK460.out; (try simp only [Act.put, List.setIfInBounds_toArray, List.set_cons_zero, List.set_cons_succ])) | (refine ldg gb469 ?_; refine ldw gb469 ?_ BK469.out; (try simp only [Act.put, List.setIfInBounds_toArray, List.set_cons_zero, List.set_cons_succ])) | (refine ldg gb470 ?_; refine ldw gb470 ?_ BK470.out; (try simp only [Act.put, List.setIfInBounds_toArray, List.set_cons_zero, List.set_cons_succ])) | (refine ldg gb475 ?_; refine ldw gb475 ?_ BK475.out; (try simp only [Act.put, List.setIfInBounds_toArray, List.set_cons_zero, List.set_cons_succ])) | (refine ldg gb480 ?_; refine ldw gb480 ?_ BK480.out; (try simp only [Act.put, List.setIfInBounds_toArray, List.set_cons_zero, List.set_cons_succ])) | (refine gd 30 10 ?_; refine gc 30 Tryd.func10 #[.slice A0 l0.length c0] (laws_vBig.calls _ _ l0 false _ ax137 (HC0.out) A2.out) ?_; rintro e w' ⟨rfl, ⟨nd, rfl⟩⟩; refine ⟨_, rfl, ?_⟩) | (refine gd 32 11 ?_; refine gc 32 Tryd.func11 #[.slice A0 l0.length c0] (spec_DrawIsValidRecord.calls _ _ l0 t440 t441 _ ax137 (HC0.out) A4.out) ?_; rintro e w16 ⟨rfl, hb⟩; refine ⟨_, rfl, ?_⟩; replace HB := uB HB hb; (try clear hb); (try clear hb2); (try clear hk); (try clear hi)) | ((with_reducible refine gate_dst (N := 3) rfl ?_); (try (refine gate_guard (by rfl) ?_; dsimp only)); refine box_event ?hg (N := 3) ?hd (cs := #[.string (⟨#[]⟩ : ByteArray), .string (⟨#[]⟩ : ByteArray)]) (t := 33) ?hr ?_; (case hd => rfl); (case hg => rfl); (case hr => exact ax9); intro gb442 hg w17 hbox hb; have BK442 := Aside0.mk (hbox); have GW442 := uG hg HB; have GE442 := uG hg HB; replace HB := uB HB hb; clear hb hbox hg; have hcz18_0 := bc (.string (⟨#[]⟩ : ByteArray)) BK442 0; have hcz18_1 := bc (.string (⟨#[]⟩ : ByteArray)) BK442 1; have hfz18_0 := blk_frozen BK442.out 0; have hfz18_1 := blk_frozen BK442.out 1) | (refine gd 35 13 ?_; refine gc 35 Tryd.func13 #[.slice A0 l0.length c0, .int .i64 1] (laws_vCut.calls _ _ l0 1 t443 _ (Kd.C_below HR0.out ax209) (HC0.out) A5.out) ?_; rintro e w19 ⟨v444, rfl, ho0, hb⟩; refine ⟨_, rfl, ?_⟩; have HO445 := Aside0.mk (Kd.R_lower ho0 (below_size ax209)); replace BK442 := Aside0.mk (blk_below (g := gb442) (o := .cells #[.string t440, .string t441] 33 (0, 0)) (by (with_reducible repeat (first | refine blk_drewN ?_ _ | refine blk_drew ?_ | refine blk_alloc ?_ _)); refine blk_put (cs := #[.string t440, .string (⟨#[]⟩ : ByteArray)]) ?_ 1 _ rfl; (with_reducible repeat (first | refine blk_drewN ?_ _ | refine blk_drew ?_ | refine blk_alloc ?_ _)); refine blk_put (cs := #[.string (⟨#[]⟩ : ByteArray), .string (⟨#[]⟩ : ByteArray)]) ?_ 0 _ rfl; (with_reducible repeat (first | refine blk_drewN ?_ _ | refine blk_drew ?_ | refine blk_alloc ?_ _)); exact BK442.out) hb); replace HB := Aside0.mk (below_step ax209 hb); (try clear hb); (try clear hb2); (try clear hk); (try clear hi); (try clear ho0); obtain ⟨Ao20, co20, eo20⟩ := Kd.R_slice HO445.out; subst eo20) | (refine gd 36 12 ?_; refine gc 36 Tryd.func12 #[.slice Ao20 t443.length co20] (spec_DrawEncodeRecord.calls _ _ t443 t446 t447 t448 _ (by repeat (first | exact (Kd.R_reads' HO445.out).2.2 | (with_reducible refine Kd.C_alloc ?_ _) | (with_reducible refine Kd.C_drewN ?_ _) | (with_reducible refine Kd.C_drew ?_))) ((Kd.R_reads' HO445.out).2.1) A6.out) ?_; rintro e w21 ⟨rfl, hb⟩; refine ⟨_, rfl, ?_⟩; replace HO445 := uR HO445 hb; replace BK442 := ub BK442 hb; replace HB := Aside0.mk (below_step ax209 hb); (try clear hb); (try clear hb2); (try clear hk); (try clear hi)) | ((with_reducible refine gate_dst (N := 5) rfl ?_); (try (refine gate_guard (by rfl) ?_; dsimp only)); refine box_event ?hg (N := 5) ?hd (cs := #[.string (⟨#[]⟩ : ByteArray), .string (⟨#[]⟩ : ByteArray)]) (t := 33) ?hr ?_; (case hd => rfl); (case hg => rfl); (case hr => exact ax9); intro gb449 hg w22 hbox hb; replace HO445 := uR HO445 hb; have BK449 := Aside0.mk (hbox); have GW449 := Aside0.mk ((ax210 : w.heap.size ≤ gb449)); have GE449 := Aside0.mk ((ax210 : w.heap.size ≤ gb449)); replace HB := Aside0.mk (below_step ax209 hb); have NB442_449 := uN hg BK442; have NB449_442 := uM hg BK442; replace BK442 := ub BK442 hb; clear hb hbox hg; have hnb23 := NB449_442.out; have hnc23 := NB442_449.out; have hcz24_0 := bc (.string (⟨#[]⟩ : ByteArray)) BK449 0; have hcz24_1 := bc (.string (⟨#[]⟩ : ByteArray)) BK449 1; have hfz24_0 := blk_frozen BK449.out 0; have hfz24_1 := blk_frozen BK449.out 1) | (refine gd 42 14 ?_; refine gc 42 Tryd.func14 #[.int .i64 t446, .agg #[.string t447, .string t448]] (impl_EncodeRecord.calls k t446 t447 t448 t450 t451 _ (GL.below HG.out ax211) A7.out) ?_; rintro e w25 ⟨rfl, hb⟩; refine ⟨_, rfl, ?_⟩; replace HO445 := Aside0.mk (Kd.R_below (by (with_reducible repeat (first | apply Kd.R_alloc | apply Kd.R_drewN | apply Kd.R_drew)); exact (Kd.R_mono (Kd.R_far (p := ⟨gb449, 1, none⟩) (Kd.R_far (p := ⟨gb449, 0, none⟩) (Kd.R_types HO445.out BK449.out (by decide)) (fun _ hk => hk.2) (.string t447)) (fun _ hk => hk.2) (.string t448)) (fun _ h_ => h_.1))) hb); replace BK442 := Aside0.mk (blk_below (g := gb442) (o := .cells #[.string t440, .string t441] 33 (0, 0)) (by (with_reducible repeat (first | refine blk_drewN ?_ _ | refine blk_drew ?_ | refine blk_alloc ?_ _)); refine blk_far ?_ NB442_449.out _; (with_reducible repeat (first | refine blk_drewN ?_ _ | refine blk_drew ?_ | refine blk_alloc ?_ _)); refine blk_far ?_ NB442_449.out _; (with_reducible repeat (first | refine blk_drewN ?_ _ | refine blk_drew ?_ | refine blk_alloc ?_ _)); exact BK442.out) hb); replace BK449 := Aside0.mk (blk_below (g := gb449) (o := .cells #[.string t447, .string t448] 33 (0, 0)) (by (with_reducible repeat (first | refine blk_drewN ?_ _ | refine blk_drew ?_ | refine blk_alloc ?_ _)); refine blk_put (cs := #[.string t447, .string (⟨#[]⟩ : ByteArray)]) ?_ 1 _ rfl; (with_reducible repeat (first | refine blk_drewN ?_ _ | refine blk_drew ?_ | refine blk_alloc ?_ _)); refine blk_put (cs := #[.string (⟨#[]⟩ : ByteArray), .string (⟨#[]⟩ : ByteArray)]) ?_ 0 _ rfl; (with_reducible repeat (first | refine blk_drewN ?_ _ | refine blk_drew ?_ | refine blk_alloc ?_ _)); exact BK449.out) hb); replace HB := Aside0.mk (below_step ax211 hb); (try clear hb); (try clear hb2); (try clear hk); (try clear hi); have hcz26_0 := bc (.string t447) BK449 0; have hcz26_1 := bc (.string t448) BK449 1; have hfz26_0 := blk_frozen BK449.out 0; have hfz26_1 := blk_frozen BK449.out 1) | (refine gd 48 15 ?_; refine gc 48 Tryd.func15 #[.int .i64 t446, .agg #[.string t447, .string t448]] (spec_EncodeRecord.calls k t446 t447 t448 t452 t453 _ A8.out) ?_; rintro e w27 ⟨rfl, hb⟩; refine ⟨_, rfl, ?_⟩; replace HO445 := uR HO445 hb; replace BK442 := ub BK442 hb; replace BK449 := ub BK449 hb; replace HB := Aside0.mk (below_step ax211 hb); (try clear hb); (try clear hb2); (try clear hk); (try clear hi)) | (refine gd 52 13 ?_; refine gc 52 Tryd.func13 #[.slice A0 l0.length c0, .int .i64 2] (laws_vCut.calls _ _ l0 2 t454 _ ax139 (HC0.out) A9.out) ?_; rintro e w28 ⟨v455, rfl, ho0, hb⟩; refine ⟨_, rfl, ?_⟩; have HO456 := Aside0.mk (Kd.R_lower (Kd.R_new' ho0 (Kd.R_lt ax212)) (below_size ax211)); replace HO445 := Aside0.mk (Kd.R_elder' ax212 (Kd.R_base ho0) hb); replace BK442 := ub BK442 hb; replace BK449 := ub BK449 hb; replace HB := Aside0.mk (below_step ax211 hb); (try clear hb); (try clear hb2); (try clear hk); (try clear hi); (try clear ho0); obtain ⟨Ao29, co29, eo29⟩ := Kd.R_slice HO456.out; subst eo29) | (refine gd 53 16 ?_; refine gc 53 Tryd.func16 #[.slice Ao29 t454.length co29] (spec_DrawIsValidLog.calls k _ _ t454 t457 t458 t459 _ (by repeat (first | exact (Kd.R_reads' HO456.out).2.2 | (with_reducible refine Kd.C_alloc ?_ _) | (with_reducible refine Kd.C_drewN ?_ _) | (with_reducible refine Kd.C_drew ?_))) ((Kd.R_reads' HO456.out).2.1) A10.out) ?_; rintro e w30 ⟨rfl, hb⟩; refine ⟨_, rfl, ?_⟩; replace HO445 := uR HO445 hb; replace HO456 := uR HO456 hb; replace BK442 := ub BK442 hb; replace BK449 := ub BK449 hb; replace HB := Aside0.mk (below_step ax211 hb); (try clear hb); (try clear hb2); (try clear hk); (try clear hi)) | ((with_reducible refine gate_dst (N := 10) rfl ?_); (try (refine gate_guard (by rfl) ?_; dsimp only)); refine box_event ?hg (N := 10) ?hd (cs := #[.string (⟨#[]⟩ : ByteArray), .string (⟨#[]⟩ : ByteArray), .int .i64 0]) (t := 27) ?hr ?_; (case hd => rfl); (case hg => rfl); (case hr => exact ax9); intro gb460 hg w31 hbox hb; replace HO445 := uR HO445 hb; replace HO456 := uR HO456 hb; have BK460 := Aside0.mk (hbox); have GW460 := Aside0.mk ((ax213 : w.heap.size ≤ gb460)); have GE460 := Aside0.mk ((ax213 : w.heap.size ≤ gb460)); replace HB := Aside0.mk (below_step ax211 hb); have NB442_460 := uN hg BK442; have NB460_442 := uM hg BK442; replace BK442 := ub BK442 hb; have NB449_460 := uN hg BK449; have NB460_449 := uM hg BK449; replace BK449 := ub BK449 hb; clear hb hbox hg; have hnb32 := NB460_442.out; have hnc32 := NB442_460.out; have hnb33 := NB460_449.out; have hnc33 := NB449_460.out; have hcz34_0 := bc (.string (⟨#[]⟩ : ByteArray)) BK460 0; have hcz34_1 := bc (.string (⟨#[]⟩ : ByteArray)) BK460 1; have hcz34_2 := bc (.int .i64 0) BK460 2; have hfz34_0 := blk_frozen BK460.out 0; have hfz34_1 := blk_frozen BK460.out 1; have hfz34_2 := blk_frozen BK460.out 2) | (refine gd 56 13 ?_; refine gc 56 Tryd.func13 #[.slice A0 l0.length c0, .int .i64 3] (laws_vCut.calls _ _ l0 3 t461 _ (Kd.C_below HR0.out ax214) (HC0.out) A11.out) ?_; rintro e w35 ⟨v462, rfl, ho0, hb⟩; refine ⟨_, rfl, ?_⟩; have HO463 := Aside0.mk (Kd.R_lower (Kd.R_new' (Kd.R_new' ho0 (Kd.R_lt ax215)) (Kd.R_lt ax216)) (below_size ax214)); replace HO445 := Aside0.mk (Kd.R_elder' ax215 (Kd.R_base ho0) hb); replace HO456 := Aside0.mk (Kd.R_elder' ax216 (Kd.R_base ho0) hb); replace BK442 := Aside0.mk (blk_below (g := gb442) (o := .cells #[.string t440, .string t441] 33 (0, 0)) (by (with_reducible repeat (first | refine blk_drewN ?_ _ | refine blk_drew ?_ | refine blk_alloc ?_ _)); refine blk_far ?_ NB442_460.out _; (with_reducible repeat (first | refine blk_drewN ?_ _ | refine blk_drew ?_ | refine blk_alloc ?_ _)); refine blk_far ?_ NB442_460.out _; (with_reducible repeat (first | refine blk_drewN ?_ _ | refine blk_drew ?_ | refine blk_alloc ?_ _)); refine blk_far ?_ NB442_460.out _; (with_reducible repeat (first | refine blk_drewN ?_ _ | refine blk_drew ?_ | refine blk_alloc ?_ _)); exact BK442.out) hb); replace BK449 := Aside0.mk (blk_below (g := gb449) (o := .cells #[.string t447, .string t448] 33 (0, 0)) (by (with_reducible repeat (first | refine blk_drewN ?_ _ | refine blk_drew ?_ | refine blk_alloc ?_ _)); refine blk_far ?_ NB449_460.out _; (with_reducible repeat (first | refine blk_drewN ?_ _ | refine blk_drew ?_ | refine blk_alloc ?_ _)); refine blk_far ?_ NB449_460.out _; (with_reducible repeat (first | refine blk_drewN ?_ _ | refine blk_drew ?_ | refine blk_alloc ?_ _)); refine blk_far ?_ NB449_460.out _; (with_reducible repeat (first | refine blk_drewN ?_ _ | refine blk_drew ?_ | refine blk_alloc ?_ _)); exact BK449.out) hb); replace BK460 := Aside0.mk (blk_below (g := gb460) (o := .cells #[.string t457, .string t458, .int .i64 t459] 27 (0, 0)) (by (with_reducible repeat (first | refine blk_drewN ?_ _ | refine blk_drew ?_ | refine blk_alloc ?_ _)); refine blk_put (cs := #[.string t457, .string t458, .int .i64 0]) ?_ 2 _ rfl; (with_reducible repeat (first | refine blk_drewN ?_ _ | refine blk_drew ?_ | refine blk_alloc ?_ _)); refine blk_put (cs := #[.string t457, .string (⟨#[]⟩ : ByteArray), .int .i64 0]) ?_ 1 _ rfl; (with_reducible repeat (first | refine blk_drewN ?_ _ | refine blk_drew ?_ | refine blk_alloc ?_ _)); refine blk_put (cs := #[.string (⟨#[]⟩ : ByteArray), .string (⟨#[]⟩ : ByteArray), .int .i64 0]) ?_ 0 _ rfl; (with_reducible repeat (first | refine blk_drewN ?_ _ | refine blk_drew ?_ | refine blk_alloc ?_ _)); exact BK460.out) hb); replace HB := Aside0.mk (below_step ax214 hb); (try clear hb); (try clear hb2); (try clear hk); (try clear hi); (try clear ho0); obtain ⟨Ao36, co36, eo36⟩ := Kd.R_slice HO463.out; subst eo36) | (refine gd 57 17 ?_; refine gc 57 Tryd.func17 #[.slice Ao36 t461.length co36] (spec_DrawAppendRecord.calls k _ _ t461 t464 t465 t466 t467 t468 _ (by repeat (first | exact (Kd.R_reads' HO463.out).2.2 | (with_reducible refine Kd.C_alloc ?_ _) | (with_reducible refine Kd.C_drewN ?_ _) | (with_reducible refine Kd.C_drew ?_))) ((Kd.R_reads' HO463.out).2.1) A12.out) ?_; rintro e w37 ⟨rfl, hb⟩; refine ⟨_, rfl, ?_⟩; replace HO445 := uR HO445 hb; replace HO456 := uR HO456 hb; replace HO463 := uR HO463 hb; replace BK442 := ub BK442 hb; replace BK449 := ub BK449 hb; replace BK460 := ub BK460 hb; replace HB := Aside0.mk (below_step ax214 hb); (try clear hb); (try clear hb2); (try clear hk); (try clear hi)) | ((with_reducible refine gate_dst (N := 11) rfl ?_); (try (refine gate_guard (by rfl) ?_; dsimp only)); refine box_event ?hg (N := 11) ?hd (cs := #[.string (⟨#[]⟩ : ByteArray), .string (⟨#[]⟩ : ByteArray), .int .i64 0]) (t := 27) ?hr ?_; (case hd => rfl); (case hg => rfl); (case hr => exact ax9); intro gb469 hg w38 hbox hb; replace HO445 := uR HO445 hb; replace HO456 := uR HO456 hb; replace HO463 := uR HO463 hb; have BK469 := Aside0.mk (hbox); have GW469 := Aside0.mk ((ax217 : w.heap.size ≤ gb469)); have GE469 := Aside0.mk ((ax217 : w.heap.size ≤ gb469)); replace HB := Aside0.mk (below_step ax214 hb); have NB442_469 := uN hg BK442; have NB469_442 := uM hg BK442; replace BK442 := ub BK442 hb; have NB449_469 := uN hg BK449; have NB469_449 := uM hg BK449; replace BK449 := ub BK449 hb; have NB460_469 := uN hg BK460; have NB469_460 := uM hg BK460; replace BK460 := ub BK460 hb; clear hb hbox hg) | ((with_reducible refine gate_dst (N := 12) rfl ?_); (try (refine gate_guard (by rfl) ?_; dsimp only)); refine box_event ?hg (N := 12) ?hd (cs := #[.string (⟨#[]⟩ : ByteArray), .string (⟨#[]⟩ : ByteArray)]) (t := 33) ?hr ?_; (case hd => rfl); (case hg => rfl); (case hr => exact ax9); intro gb470 hg w39 hbox hb; replace HO445 := uR HO445 hb; replace HO456 := uR HO456 hb; replace HO463 := uR HO463 hb; have BK470 := Aside0.mk (hbox); have GW470 := Aside0.mk ((ax218 : w.heap.size ≤ gb470)); have GE470 := Aside0.mk ((ax218 : w.heap.size ≤ gb470)); replace HB := Aside0.mk (below_step ax219 hb); have NB442_470 := uN hg BK442; have NB470_442 := uM hg BK442; replace BK442 := ub BK442 hb; have NB449_470 := uN hg BK449; have NB470_449 := uM hg BK449; replace BK449 := ub BK449 hb; have NB460_470 := uN hg BK460; have NB470_460 := uM hg BK460; replace BK460 := ub BK460 hb; have NB469_470 := uN hg BK469; have NB470_469 := uM hg BK469; replace BK469 := ub BK469 hb; clear hb hbox hg; have hnb40 := NB469_442.out; have hnc40 := NB442_469.out; have hnb41 := NB469_449.out; have hnc41 := NB449_469.out; have hnb42 := NB469_460.out; have hnc42 := NB460_469.out; have hnb43 := NB469_470.out; have hnc43 := NB470_469.out; have hcz44_0 := bc (.string (⟨#[]⟩ : ByteArray)) BK469 0; have hcz44_1 := bc (.string (⟨#[]⟩ : ByteArray)) BK469 1; have hcz44_2 := bc (.int .i64 0) BK469 2; have hfz44_0 := blk_frozen BK469.out 0; have hfz44_1 := blk_frozen BK469.out 1; have hfz44_2 := blk_frozen BK469.out 2; have hnb45 := NB470_442.out; have hnc45 := NB442_470.out; have hnb46 := NB470_449.out; have hnc46 := NB449_470.out; have hnb47 := NB470_460.out; have hnc47 := NB460_470.out; have hcz48_0 := bc (.string (⟨#[]⟩ : ByteArray)) BK470 0; have hcz48_1 := bc (.string (⟨#[]⟩ : ByteArray)) BK470 1; have hfz48_0 := blk_frozen BK470.out 0; have hfz48_1 := blk_frozen BK470.out 1) | (refine gd 63 18 ?_; refine gc 63 Tryd.func18 #[.agg #[.string t464, .string t465, .int .i64 t466], .agg #[.string t467, .string t468]] (impl_AppendRecord.calls k t464 t465 t466 t467 t468 t471 t472 t473 t474 _ (GL.below HG.out ax220) A13.out) ?_; rintro e w49 ⟨rfl, hb⟩; refine ⟨_, rfl, ?_⟩; replace HO445 := Aside0.mk (Kd.R_below (by (with_reducible repeat (first | apply Kd.R_alloc | apply Kd.R_drewN | apply Kd.R_drew)); exact (Kd.R_mono (Kd.R_mono (Kd.R_far (p := ⟨gb470, 1, none⟩) (Kd.R_far (p := ⟨gb470, 0, none⟩) (Kd.R_far (p := ⟨gb469, 2, none⟩) (Kd.R_far (p := ⟨gb469, 1, none⟩) (Kd.R_far (p := ⟨gb469, 0, none⟩) (Kd.R_types (Kd.R_types HO445.out BK469.out (by decide)) BK470.out (by decide)) (fun _ hk => hk.1.2) (.string t464)) (fun _ hk => hk.1.2) (.string t465)) (fun _ hk => hk.1.2) (.int .i64 t466)) (fun _ hk => hk.2) (.string t467)) (fun _ hk => hk.2) (.string t468)) (fun _ h_ => h_.1)) (fun _ h_ => h_.1))) hb); replace HO456 := Aside0.mk (Kd.R_below (by (with_reducible repeat (first | apply Kd.R_alloc | apply Kd.R_drewN | apply Kd.R_drew)); exact (Kd.R_mono (Kd.R_mono (Kd.R_far (p := ⟨gb470, 1, none⟩) (Kd.R_far (p := ⟨gb470, 0, none⟩) (Kd.R_far (p := ⟨gb469, 2, none⟩) (Kd.R_far (p := ⟨gb469, 1, none⟩) (Kd.R_far (p := ⟨gb469, 0, none⟩) (Kd.R_types (Kd.R_types HO456.out BK469.out (by decide)) BK470.out (by decide)) (fun _ hk => hk.1.2) (.string t464)) (fun _ hk => hk.1.2) (.string t465)) (fun _ hk => hk.1.2) (.int .i64 t466)) (fun _ hk => hk.2) (.string t467)) (fun _ hk => hk.2) (.string t468)) (fun _ h_ => h_.1)) (fun _ h_ => h_.1))) hb); replace HO463 := Aside0.mk (Kd.R_below (by (with_reducible repeat (first | apply Kd.R_alloc | apply Kd.R_drewN | apply Kd.R_drew)); exact (Kd.R_mono (Kd.R_mono (Kd.R_far (p := ⟨gb470, 1, none⟩) (Kd.R_far (p := ⟨gb470, 0, none⟩) (Kd.R_far (p := ⟨gb469, 2, none⟩) (Kd.R_far (p := ⟨gb469, 1, none⟩) (Kd.R_far (p := ⟨gb469, 0, none⟩) (Kd.R_types (Kd.R_types HO463.out BK469.out (by decide)) BK470.out (by decide)) (fun _ hk => hk.1.2) (.string t464)) (fun _ hk => hk.1.2) (.string t465)) (fun _ hk => hk.1.2) (.int .i64 t466)) (fun _ hk => hk.2) (.string t467)) (fun _ hk => hk.2) (.string t468)) (fun _ h_ => h_.1)) (fun _ h_ => h_.1))) hb); replace BK442 := Aside0.mk (blk_below (g := gb442) (o := .cells #[.string t440, .string t441] 33 (0, 0)) (by (with_reducible repeat (first | refine blk_drewN ?_ _ | refine blk_drew ?_ | refine blk_alloc ?_ _)); refine blk_far ?_ NB442_470.out _; (with_reducible repeat (first | refine blk_drewN ?_ _ | refine blk_drew ?_ | refine blk_alloc ?_ _)); refine blk_far ?_ NB442_470.out _; (with_reducible repeat (first | refine blk_drewN ?_ _ | refine blk_drew ?_ | refine blk_alloc ?_ _)); refine blk_far ?_ NB442_469.out _; (with_reducible repeat (first | refine blk_drewN ?_ _ | refine blk_drew ?_ | refine blk_alloc ?_ _)); refine blk_far ?_ NB442_469.out _; (with_reducible repeat (first | refine blk_drewN ?_ _ | refine blk_drew ?_ | refine blk_alloc ?_ _)); refine blk_far ?_ NB442_469.out _; (with_reducible repeat (first | refine blk_drewN ?_ _ | refine blk_drew ?_ | refine blk_alloc ?_ _)); exact BK442.out) hb); replace BK449 := Aside0.mk (blk_below (g := gb449) (o := .cells #[.string t447, .string t448] 33 (0, 0)) (by (with_reducible repeat (first | refine blk_drewN ?_ _ | refine blk_drew ?_ | refine blk_alloc ?_ _)); refine blk_far ?_ NB449_470.out _; (with_reducible repeat (first | refine blk_drewN ?_ _ | refine blk_drew ?_ | refine blk_alloc ?_ _)); refine blk_far ?_ NB449_470.out _; (with_reducible repeat (first | refine blk_drewN ?_ _ | refine blk_drew ?_ | refine blk_alloc ?_ _)); refine blk_far ?_ NB449_469.out _; (with_reducible repeat (first | refine blk_drewN ?_ _ | refine blk_drew ?_ | refine blk_alloc ?_ _)); refine blk_far ?_ NB449_469.out _; (with_reducible repeat (first | refine blk_drewN ?_ _ | refine blk_drew ?_ | refine blk_alloc ?_ _)); refine blk_far ?_ NB449_469.out _; (with_reducible repeat (first | refine blk_drewN ?_ _ | refine blk_drew ?_ | refine blk_alloc ?_ _)); exact BK449.out) hb); replace BK460 := Aside0.mk (blk_below (g := gb460) (o := .cells #[.string t457, .string t458, .int .i64 t459] 27 (0, 0)) (by (with_reducible repeat (first | refine blk_drewN ?_ _ | refine blk_drew ?_ | refine blk_alloc ?_ _)); refine blk_far ?_ NB460_470.out _; (with_reducible repeat (first | refine blk_drewN ?_ _ | refine blk_drew ?_ | refine blk_alloc ?_ _)); refine blk_far ?_ NB460_470.out _; (with_reducible repeat (first | refine blk_drewN ?_ _ | refine blk_drew ?_ | refine blk_alloc ?_ _)); refine blk_far ?_ NB460_469.out _; (with_reducible repeat (first | refine blk_drewN ?_ _ | refine blk_drew ?_ | refine blk_alloc ?_ _)); refine blk_far ?_ NB460_469.out _; (with_reducible repeat (first | refine blk_drewN ?_ _ | refine blk_drew ?_ | refine blk_alloc ?_ _)); refine blk_far ?_ NB460_469.out _; (with_reducible repeat (first | refine blk_drewN ?_ _ | refine blk_drew ?_ | refine blk_alloc ?_ _)); exact BK460.out) hb); replace BK469 := Aside0.mk (blk_below (g := gb469) (o := .cells #[.string t464, .string t465, .int .i64 t466] 27 (0, 0)) (by (with_reducible repeat (first | refine blk_drewN ?_ _ | refine blk_drew ?_ | refine blk_alloc ?_ _)); refine blk_far ?_ NB469_470.out _; (with_reducible repeat (first | refine blk_drewN ?_ _ | refine blk_drew ?_ | refine blk_alloc ?_ _)); refine blk_far ?_ NB469_470.out _; (with_reducible repeat (first | refine blk_drewN ?_ _ | refine blk_drew ?_ | refine blk_alloc ?_ _)); refine blk_put (cs := #[.string t464, .string t465, .int .i64 0]) ?_ 2 _ rfl; (with_reducible repeat (first | refine blk_drewN ?_ _ | refine blk_drew ?_ | refine blk_alloc ?_ _)); refine blk_put (cs := #[.string t464, .string (⟨#[]⟩ : ByteArray), .int .i64 0]) ?_ 1 _ rfl; (with_reducible repeat (first | refine blk_drewN ?_ _ | refine blk_drew ?_ | refine blk_alloc ?_ _)); refine blk_put (cs := #[.string (⟨#[]⟩ : ByteArray), .string (⟨#[]⟩ : ByteArray), .int .i64 0]) ?_ 0 _ rfl; (with_reducible repeat (first | refine blk_drewN ?_ _ | refine blk_drew ?_ | refine blk_alloc ?_ _)); exact BK469.out) hb); replace BK470 := Aside0.mk (blk_below (g := gb470) (o := .cells #[.string t467, .string t468] 33 (0, 0)) (by (with_reducible repeat (first | refine blk_drewN ?_ _ | refine blk_drew ?_ | refine blk_alloc ?_ _)); refine blk_put (cs := #[.string t467, .string (⟨#[]⟩ : ByteArray)]) ?_ 1 _ rfl; (with_reducible repeat (first | refine blk_drewN ?_ _ | refine blk_drew ?_ | refine blk_alloc ?_ _)); refine blk_put (cs := #[.string (⟨#[]⟩ : ByteArray), .string (⟨#[]⟩ : ByteArray)]) ?_ 0 _ rfl; (with_reducible repeat (first | refine blk_drewN ?_ _ | refine blk_drew ?_ | refine blk_alloc ?_ _)); refine blk_far ?_ NB470_469.out _; (with_reducible repeat (first | refine blk_drewN ?_ _ | refine blk_drew ?_ | refine blk_alloc ?_ _)); refine blk_far ?_ NB470_469.out _; (with_reducible repeat (first | refine blk_drewN ?_ _ | refine blk_drew ?_ | refine blk_alloc ?_ _)); refine blk_far ?_ NB470_469.out _; (with_reducible repeat (first | refine blk_drewN ?_ _ | refine blk_drew ?_ | refine blk_alloc ?_ _)); exact BK470.out) hb); replace HB := Aside0.mk (below_step ax220 hb); (try clear hb); (try clear hb2); (try clear hk); (try clear hi)) | ((with_reducible refine gate_dst (N := 13) rfl ?_); (try (refine gate_guard (by rfl) ?_; dsimp only)); refine box_event ?hg (N := 13) ?hd (cs := #[.string (⟨#[]⟩ : ByteArray), .string (⟨#[]⟩ : ByteArray), .int .i64 0]) (t := 27) ?hr ?_; (case hd => rfl); (case hg => rfl); (case hr => exact ax9); intro gb475 hg w50 hbox hb; replace HO445 := uR HO445 hb; replace HO456 := uR HO456 hb; replace HO463 := uR HO463 hb; have BK475 := Aside0.mk (hbox); have GW475 := Aside0.mk ((ax221 : w.heap.size ≤ gb475)); have GE475 := Aside0.mk ((ax221 : w.heap.size ≤ gb475)); replace HB := Aside0.mk (below_step ax220 hb); have NB442_475 := uN hg BK442; have NB475_442 := uM hg BK442; replace BK442 := ub BK442 hb; have NB449_475 := uN hg BK449; have NB475_449 := uM hg BK449; replace BK449 := ub BK449 hb; have NB460_475 := uN hg BK460; have NB475_460 := uM hg BK460; replace BK460 := ub BK460 hb; have NB469_475 := uN hg BK469; have NB475_469 := uM hg BK469; replace BK469 := ub BK469 hb; have NB470_475 := uN hg BK470; have NB475_470 := uM hg BK470; replace BK470 := ub BK470 hb; clear hb hbox hg; have hnb51 := NB475_442.out; have hnc51 := NB442_475.out; have hnb52 := NB475_449.out; have hnc52 := NB449_475.out; have hnb53 := NB475_460.out; have hnc53 := NB460_475.out; have hnb54 := NB475_469.out; have hnc54 := NB469_475.out; have hnb55 := NB475_470.out; have hnc55 := NB470_475.out; have hcz56_0 := bc (.string (⟨#[]⟩ : ByteArray)) BK475 0; have hcz56_1 := bc (.string (⟨#[]⟩ : ByteArray)) BK475 1; have hcz56_2 := bc (.int .i64 0) BK475 2; have hfz56_0 := blk_frozen BK475.out 0; have hfz56_1 := blk_frozen BK475.out 1; have hfz56_2 := blk_frozen BK475.out 2; have hcz57_0 := bc (.string t464) BK469 0; have hcz57_1 := bc (.string t465) BK469 1; have hcz57_2 := bc (.int .i64 t466) BK469 2; have hfz57_0 := blk_frozen BK469.out 0; have hfz57_1 := blk_frozen BK469.out 1; have hfz57_2 := blk_frozen BK469.out 2; have hcz58_0 := bc (.string t467) BK470 0; have hcz58_1 := bc (.string t468) BK470 1; have hfz58_0 := blk_frozen BK470.out 0; have hfz58_1 := blk_frozen BK470.out 1) | (refine gd 69 19 ?_; refine gc 69 Tryd.func19 #[.agg #[.string t464, .string t465, .int .i64 t466], .agg #[.string t467, .string t468]] (spec_AppendRecord.calls k t464 t465 t466 t467 t468 t476 t477 t478 t479 _ A14.out) ?_; rintro e w59 ⟨rfl, hb⟩; refine ⟨_, rfl, ?_⟩; replace HO445 := Aside0.mk (Kd.R_below (by (with_reducible repeat (first | apply Kd.R_alloc | apply Kd.R_drewN | apply Kd.R_drew)); exact (Kd.R_mono (Kd.R_far (p := ⟨gb475, 2, none⟩) (Kd.R_far (p := ⟨gb475, 1, none⟩) (Kd.R_far (p := ⟨gb475, 0, none⟩) (Kd.R_types HO445.out BK475.out (by decide)) (fun _ hk => hk.2) (.string t471)) (fun _ hk => hk.2) (.string t472)) (fun _ hk => hk.2) (.int .i64 t473)) (fun _ h_ => h_.1))) hb); replace HO456 := Aside0.mk (Kd.R_below (by (with_reducible repeat (first | apply Kd.R_alloc | apply Kd.R_drewN | apply Kd.R_drew)); exact (Kd.R_mono (Kd.R_far (p := ⟨gb475, 2, none⟩) (Kd.R_far (p := ⟨gb475, 1, none⟩) (Kd.R_far (p := ⟨gb475, 0, none⟩) (Kd.R_types HO456.out BK475.out (by decide)) (fun _ hk => hk.2) (.string t471)) (fun _ hk => hk.2) (.string t472)) (fun _ hk => hk.2) (.int .i64 t473)) (fun _ h_ => h_.1))) hb); replace HO463 := Aside0.mk (Kd.R_below (by (with_reducible repeat (first | apply Kd.R_alloc | apply Kd.R_drewN | apply Kd.R_drew)); exact (Kd.R_mono (Kd.R_far (p := ⟨gb475, 2, none⟩) (Kd.R_far (p := ⟨gb475, 1, none⟩) (Kd.R_far (p := ⟨gb475, 0, none⟩) (Kd.R_types HO463.out BK475.out (by decide)) (fun _ hk => hk.2) (.string t471)) (fun _ hk => hk.2) (.string t472)) (fun _ hk => hk.2) (.int .i64 t473)) (fun _ h_ => h_.1))) hb); replace BK442 := Aside0.mk (blk_below (g := gb442) (o := .cells #[.string t440, .string t441] 33 (0, 0)) (by (with_reducible repeat (first | refine blk_drewN ?_ _ | refine blk_drew ?_ | refine blk_alloc ?_ _)); refine blk_far ?_ NB442_475.out _; (with_reducible repeat (first | refine blk_drewN ?_ _ | refine blk_drew ?_ | refine blk_alloc ?_ _)); refine blk_far ?_ NB442_475.out _; (with_reducible repeat (first | refine blk_drewN ?_ _ | refine blk_drew ?_ | refine blk_alloc ?_ _)); refine blk_far ?_ NB442_475.out _; (with_reducible repeat (first | refine blk_drewN ?_ _ | refine blk_drew ?_ | refine blk_alloc ?_ _)); exact BK442.out) hb); replace BK449 := Aside0.mk (blk_below (g := gb449) (o := .cells #[.string t447, .string t448] 33 (0, 0)) (by (with_reducible repeat (first | refine blk_drewN ?_ _ | refine blk_drew ?_ | refine blk_alloc ?_ _)); refine blk_far ?_ NB449_475.out _; (with_reducible repeat (first | refine blk_drewN ?_ _ | refine blk_drew ?_ | refine blk_alloc ?_ _)); refine blk_far ?_ NB449_475.out _; (with_reducible repeat (first | refine blk_drewN ?_ _ | refine blk_drew ?_ | refine blk_alloc ?_ _)); refine blk_far ?_ NB449_475.out _; (with_reducible repeat (first | refine blk_drewN ?_ _ | refine blk_drew ?_ | refine blk_alloc ?_ _)); exact BK449.out) hb); replace BK460 := Aside0.mk (blk_below (g := gb460) (o := .cells #[.string t457, .string t458, .int .i64 t459] 27 (0, 0)) (by (with_reducible repeat (first | refine blk_drewN ?_ _ | refine blk_drew ?_ | refine blk_alloc ?_ _)); refine blk_far ?_ NB460_475.out _; (with_reducible repeat (first | refine blk_drewN ?_ _ | refine blk_drew ?_ | refine blk_alloc ?_ _)); refine blk_far ?_ NB460_475.out _; (with_reducible repeat (first | refine blk_drewN ?_ _ | refine blk_drew ?_ | refine blk_alloc ?_ _)); refine blk_far ?_ NB460_475.out _; (with_reducible repeat (first | refine blk_drewN ?_ _ | refine blk_drew ?_ | refine blk_alloc ?_ _)); exact BK460.out) hb); replace BK469 := Aside0.mk (blk_below (g := gb469) (o := .cells #[.string t464, .string t465, .int .i64 t466] 27 (0, 0)) (by (with_reducible repeat (first | refine blk_drewN ?_ _ | refine blk_drew ?_ | refine blk_alloc ?_ _)); refine blk_far ?_ NB469_475.out _; (with_reducible repeat (first | refine blk_drewN ?_ _ | refine blk_drew ?_ | refine blk_alloc ?_ _)); refine blk_far ?_ NB469_475.out _; (with_reducible repeat (first | refine blk_drewN ?_ _ | refine blk_drew ?_ | refine blk_alloc ?_ _)); refine blk_far ?_ NB469_475.out _; (with_reducible repeat (first | refine blk_drewN ?_ _ | refine blk_drew ?_ | refine blk_alloc ?_ _)); exact BK469.out) hb); replace BK470 := Aside0.mk (blk_below (g := gb470) (o := .cells #[.string t467, .string t468] 33 (0, 0)) (by (with_reducible repeat (first | refine blk_drewN ?_ _ | refine blk_drew ?_ | refine blk_alloc ?_ _)); refine blk_far ?_ NB470_475.out _; (with_reducible repeat (first | refine blk_drewN ?_ _ | refine blk_drew ?_ | refine blk_alloc ?_ _)); refine blk_far ?_ NB470_475.out _; (with_reducible repeat (first | refine blk_drewN ?_ _ | refine blk_drew ?_ | refine blk_alloc ?_ _)); refine blk_far ?_ NB470_475.out _; (with_reducible repeat (first | refine blk_drewN ?_ _ | refine blk_drew ?_ | refine blk_alloc ?_ _)); exact BK470.out) hb); replace BK475 := Aside0.mk (blk_below (g := gb475) (o := .cells #[.string t471, .string t472, .int .i64 t473] 27 (0, 0)) (by (with_reducible repeat (first | refine blk_drewN ?_ _ | refine blk_drew ?_ | refine blk_alloc ?_ _)); refine blk_put (cs := #[.string t471, .string t472, .int .i64 0]) ?_ 2 _ rfl; (with_reducible repeat (first | refine blk_drewN ?_ _ | refine blk_drew ?_ | refine blk_alloc ?_ _)); refine blk_put (cs := #[.string t471, .string (⟨#[]⟩ : ByteArray), .int .i64 0]) ?_ 1 _ rfl; (with_reducible repeat (first | refine blk_drewN ?_ _ | refine blk_drew ?_ | refine blk_alloc ?_ _)); refine blk_put (cs := #[.string (⟨#[]⟩ : ByteArray), .string (⟨#[]⟩ : ByteArray), .int .i64 0]) ?_ 0 _ rfl; (with_reducible repeat (first | refine blk_drewN ?_ _ | refine blk_drew ?_ | refine blk_alloc ?_ _)); exact BK475.out) hb); replace HB := Aside0.mk (below_step ax222 hb); (try clear hb); (try clear hb2); (try clear hk); (try clear hi)) | ((with_reducible refine gate_dst (N := 15) rfl ?_); (try (refine gate_guard (by rfl) ?_; dsimp only)); refine box_event ?hg (N := 15) ?hd (cs := #[.string (⟨#[]⟩ : ByteArray), .string (⟨#[]⟩ : ByteArray), .int .i64 0]) (t := 27) ?hr ?_; (case hd => rfl); (case hg => rfl); (case hr => exact ax9); intro gb480 hg w60 hbox hb; replace HO445 := uR HO445 hb; replace HO456 := uR HO456 hb; replace HO463 := uR HO463 hb; have BK480 := Aside0.mk (hbox); have GW480 := Aside0.mk ((ax223 : w.heap.size ≤ gb480)); have GE480 := Aside0.mk ((ax223 : w.heap.size ≤ gb480)); replace HB := Aside0.mk (below_step ax222 hb); have NB442_480 := uN hg BK442; have NB480_442 := uM hg BK442; replace BK442 := ub BK442 hb; have NB449_480 := uN hg BK449; have NB480_449 := uM hg BK449; replace BK449 := ub BK449 hb; have NB460_480 := uN hg BK460; have NB480_460 := uM hg BK460; replace BK460 := ub BK460 hb; have NB469_480 := uN hg BK469; have NB480_469 := uM hg BK469; replace BK469 := ub BK469 hb; have NB470_480 := uN hg BK470; have NB480_470 := uM hg BK470; replace BK470 := ub BK470 hb; have NB475_480 := uN hg BK475; have NB480_475 := uM hg BK475; replace BK475 := ub BK475 hb; clear hb hbox hg; have hnb61 := NB480_442.out; have hnc61 := NB442_480.out; have hnb62 := NB480_449.out; have hnc62 := NB449_480.out; have hnb63 := NB480_460.out; have hnc63 := NB460_480.out; have hnb64 := NB480_469.out; have hnc64 := NB469_480.out; have hnb65 := NB480_470.out; have hnc65 := NB470_480.out; have hnb66 := NB480_475.out; have hnc66 := NB475_480.out; have hcz67_0 := bc (.string (⟨#[]⟩ : ByteArray)) BK480 0; have hcz67_1 := bc (.string (⟨#[]⟩ : ByteArray)) BK480 1; have hcz67_2 := bc (.int .i64 0) BK480 2; have hfz67_0 := blk_frozen BK480.out 0; have hfz67_1 := blk_frozen BK480.out 1; have hfz67_2 := blk_frozen BK480.out 2))
  (try simp only [Act.put, List.setIfInBounds_toArray, List.set_cons_zero, List.set_cons_succ])
  go_cut [103] (fun v103 wc => ∃ (kq : Nat) (x103_14 : Bool), v103 = .bool x103_14 ∧ Aside0 (laws_FnLogs.j0 kq t474 x103_14 t464 t465 t466 t467 t468 t471 t472 t473 = some r) ∧ Aside0 (kq ≤ k) ∧ Aside0 (wc.heap[gb442]? = some (.cells #[.string t440, .string t441] 33 (0, 0))) ∧ Aside0 (wc.heap[gb449]? = some (.cells #[.string t447, .string t448] 33 (0, 0))) ∧ Aside0 (wc.heap[gb460]? = some (.cells #[.string t457, .string t458, .int .i64 t459] 27 (0, 0))) ∧ Aside0 (wc.heap[gb469]? = some (.cells #[.string t464, .string t465, .int .i64 t466] 27 (0, 0))) ∧ Aside0 (wc.heap[gb470]? = some (.cells #[.string t467, .string t468] 33 (0, 0))) ∧ Aside0 (wc.heap[gb475]? = some (.cells #[.string t471, .string t472, .int .i64 t473] 27 (0, 0))) ∧ Aside0 (wc.heap[gb480]? = some (.cells #[.string t476, .string t477, .int .i64 t478] 27 (0, 0))) ∧ Aside0 (Below w.heap.size w wc))
  case first =>
   have H := HC15.out; clear HC15
   obtain ⟨t481, A68, H⟩ := bs H
   obtain ⟨t482, A69, H⟩ := bs H
   by_cases c70 : (t481 != t482) = true
   ·rw [if_pos c70] at H
    have c70b0 : (t481 != t482) = true := c70
    (try (have c70b1 : decide (t481 = t482) = false := by simpa using c70))
    (try (have c70b2 : (t481 == t482) = false := by simpa using c70))
    (try (have c70b3 : ¬ (t481 = t482) := by simpa using c70))
    clear c70
    (first | rw [c70b0] | (simp only [i64_w, i32_w]; rw [c70b0]) | skip)
    as_aux_lemma =>
     have H' := Aside0.mk H
     clear H
     try go_wp2
     have n0_ : Aside0 (Kd.R (Kd.int .u8) 5 (((w60.setCell ⟨gb480, 0, none⟩ (.string t476)).setCell ⟨gb480, 1, none⟩ (.string t477)).setCell ⟨gb480, 2, none⟩ (.int .i64 t478)) w.heap.size (fun k_ => some k_ ≠ (.slice Ao29 t454.length co29 : Value).ownBlock ∧ some k_ ≠ (.slice Ao36 t461.length co36 : Value).ownBlock) (.slice Ao20 t443.length co20) t443) := ⟨ax224⟩
     have n1_ : Aside0 (Kd.R (Kd.int .u8) 5 (((w60.setCell ⟨gb480, 0, none⟩ (.string t476)).setCell ⟨gb480, 1, none⟩ (.string t477)).setCell ⟨gb480, 2, none⟩ (.int .i64 t478)) w.heap.size (fun k_ => some k_ ≠ (.slice Ao20 t443.length co20 : Value).ownBlock ∧ some k_ ≠ (.slice Ao36 t461.length co36 : Value).ownBlock) (.slice Ao29 t454.length co29) t454) := ⟨ax225⟩
     have n2_ : Aside0 (Kd.R (Kd.int .u8) 5 (((w60.setCell ⟨gb480, 0, none⟩ (.string t476)).setCell ⟨gb480, 1, none⟩ (.string t477)).setCell ⟨gb480, 2, none⟩ (.int .i64 t478)) w.heap.size (fun k_ => some k_ ≠ (.slice Ao20 t443.length co20 : Value).ownBlock ∧ some k_ ≠ (.slice Ao29 t454.length co29 : Value).ownBlock) (.slice Ao36 t461.length co36) t461) := ⟨ax226⟩
     have n3_ : Aside0 ((((w60.setCell ⟨gb480, 0, none⟩ (.string t476)).setCell ⟨gb480, 1, none⟩ (.string t477)).setCell ⟨gb480, 2, none⟩ (.int .i64 t478)).heap[gb442]? = some (.cells #[.string t440, .string t441] 33 (0, 0))) := ⟨ax227⟩
     have n4_ : Aside0 ((((w60.setCell ⟨gb480, 0, none⟩ (.string t476)).setCell ⟨gb480, 1, none⟩ (.string t477)).setCell ⟨gb480, 2, none⟩ (.int .i64 t478)).heap[gb449]? = some (.cells #[.string t447, .string t448] 33 (0, 0))) := ⟨ax228⟩
     have n5_ : Aside0 ((((w60.setCell ⟨gb480, 0, none⟩ (.string t476)).setCell ⟨gb480, 1, none⟩ (.string t477)).setCell ⟨gb480, 2, none⟩ (.int .i64 t478)).heap[gb460]? = some (.cells #[.string t457, .string t458, .int .i64 t459] 27 (0, 0))) := ⟨ax229⟩
     have n6_ : Aside0 ((((w60.setCell ⟨gb480, 0, none⟩ (.string t476)).setCell ⟨gb480, 1, none⟩ (.string t477)).setCell ⟨gb480, 2, none⟩ (.int .i64 t478)).heap[gb469]? = some (.cells #[.string t464, .string t465, .int .i64 t466] 27 (0, 0))) := ⟨ax230⟩
     have n7_ : Aside0 ((((w60.setCell ⟨gb480, 0, none⟩ (.string t476)).setCell ⟨gb480, 1, none⟩ (.string t477)).setCell ⟨gb480, 2, none⟩ (.int .i64 t478)).heap[gb470]? = some (.cells #[.string t467, .string t468] 33 (0, 0))) := ⟨ax231⟩
     have n8_ : Aside0 ((((w60.setCell ⟨gb480, 0, none⟩ (.string t476)).setCell ⟨gb480, 1, none⟩ (.string t477)).setCell ⟨gb480, 2, none⟩ (.int .i64 t478)).heap[gb475]? = some (.cells #[.string t471, .string t472, .int .i64 t473] 27 (0, 0))) := ⟨ax232⟩
     have n9_ : Aside0 ((((w60.setCell ⟨gb480, 0, none⟩ (.string t476)).setCell ⟨gb480, 1, none⟩ (.string t477)).setCell ⟨gb480, 2, none⟩ (.int .i64 t478)).heap[gb480]? = some (.cells #[.string t476, .string t477, .int .i64 t478] 27 (0, 0))) := ⟨ax233⟩
     have n10_ : Aside0 (Below w.heap.size w (((w60.setCell ⟨gb480, 0, none⟩ (.string t476)).setCell ⟨gb480, 1, none⟩ (.string t477)).setCell ⟨gb480, 2, none⟩ (.int .i64 t478))) := ⟨ax234⟩
     (try clear HO445); (try clear HO456); (try clear HO463); (try clear BK442); (try clear BK449); (try clear BK460); (try clear BK469); (try clear BK470); (try clear BK475); (try clear BK480); (try clear HB); generalize (((w60.setCell ⟨gb480, 0, none⟩ (.string t476)).setCell ⟨gb480, 1, none⟩ (.string t477)).setCell ⟨gb480, 2, none⟩ (.int .i64 t478)) = w71 at n0_ n1_ n2_ n3_ n4_ n5_ n6_ n7_ n8_ n9_ n10_ ⊢; have HO445 := n0_; have HO456 := n1_; have HO463 := n2_; have BK442 := n3_; have BK449 := n4_; have BK460 := n5_; have BK469 := n6_; have BK470 := n7_; have BK475 := n8_; have BK480 := n9_; have HB := n10_; clear n0_ n1_ n2_ n3_ n4_ n5_ n6_ n7_ n8_ n9_ n10_; replace HO445 := Aside0.mk (Kd.R_drew HO445.out); replace HO456 := Aside0.mk (Kd.R_drew HO456.out); replace HO463 := Aside0.mk (Kd.R_drew HO463.out); replace BK442 := Aside0.mk (blk_drew BK442.out); replace BK449 := Aside0.mk (blk_drew BK449.out); replace BK460 := Aside0.mk (blk_drew BK460.out); replace BK469 := Aside0.mk (blk_drew BK469.out); replace BK470 := Aside0.mk (blk_drew BK470.out); replace BK475 := Aside0.mk (blk_drew BK475.out); replace BK480 := Aside0.mk (blk_drew BK480.out); replace HB := Aside0.mk (below_drew1 HB.out)
     refine start_ (n := 32) (S := fun w' => w'.cell? ⟨gb442, 0, none⟩ = some (.string t440) ∧ w'.cell? ⟨gb442, 1, none⟩ = some (.string t441)) (ds := []) (ob 32 0) (by kernel_rfl) rfl rfl ⟨(blk_cell BK442.out 0).trans rfl, (blk_cell BK442.out 1).trans rfl⟩ (fun hHeld => ?_); refine with_tabW laws_FnLogs.tab11 laws_FnLogs.bits11 (fun HT_ HW_ => ?_)
     generalize w71.drew = w72 at HO445 HO456 HO463 BK442 BK449 BK460 BK469 BK470 BK475 BK480 HB hHeld ⊢
     refine tk 0 72 ?_; refine tk 2 74 ?_
     refine one_ (i := 1) (N := some 73) (ob 32 7) rfl rfl (one_of HT_.out (by kernel_rfl)) (by decide) (fun K hK => ?_)
     refine goes_ Tryd.func20 (by kernel_rfl) rfl #[.agg #[.string t440, .string t441]] (by rfl) rfl rfl ax20 ?_
     with_reducible refine (impl_IsValidRecord.calls k t440 t441 t481 _ A68.out).mono ?_
     rintro e w73 ⟨rfl, hb⟩
     refine ⟨_, rfl, ?_⟩
     replace HO445 := uR HO445 hb; replace HO456 := uR HO456 hb; replace HO463 := uR HO463 hb; replace BK442 := ub BK442 hb; replace BK449 := ub BK449 hb; replace BK460 := ub BK460 hb; replace BK469 := ub BK469 hb; replace BK470 := ub BK470 hb; replace BK475 := ub BK475 hb; replace BK480 := ub BK480 hb; replace HB := Aside0.mk (below_step ax234 hb); (try clear hb); (try clear hb2); (try clear hk); (try clear hi)
     refine hK.out _ _ ⟨(blk_cell BK442.out 0).trans rfl, (blk_cell BK442.out 1).trans rfl⟩ (fun hHeld => ?_)
     clear hK K
     refine nm 73 ?_
     refine one_ (i := 3) (N := some 75) (ob 32 15) rfl rfl (one_of HT_.out (by kernel_rfl)) (by decide) (fun K hK => ?_)
     refine goes_ Tryd.func21 (by kernel_rfl) rfl #[.agg #[.string t440, .string t441]] (by rfl) rfl rfl ax20 ?_
     with_reducible refine (spec_IsValidRecord.calls k t440 t441 t482 _ A69.out).mono ?_
     rintro e w74 ⟨rfl, hb⟩
     refine ⟨_, rfl, ?_⟩
     replace HO445 := uR HO445 hb; replace HO456 := uR HO456 hb; replace HO463 := uR HO463 hb; replace BK442 := ub BK442 hb; replace BK449 := ub BK449 hb; replace BK460 := ub BK460 hb; replace BK469 := ub BK469 hb; replace BK470 := ub BK470 hb; replace BK475 := ub BK475 hb; replace BK480 := ub BK480 hb; replace HB := Aside0.mk (below_step ax234 hb); (try clear hb); (try clear hb2); (try clear hk); (try clear hi)
     refine hK.out _ _ ⟨(blk_cell BK442.out 0).trans rfl, (blk_cell BK442.out 1).trans rfl⟩ (fun hHeld => ?_)
     clear hK K
     refine nm 75 ?_
     refine pu 4 76 ?_; refine pu 5 77 ?_; refine pu 6 78 ?_; refine pu 7 79 ?_; refine pu 8 80 ?_; refine pu 9 81 ?_; refine pu 10 82 ?_; refine pu 11 83 ?_; refine pu 12 84 ?_; refine pu 13 85 ?_; refine pu 14 86 ?_; refine pu 15 87 ?_; refine pu 16 88 ?_; refine pu 17 89 ?_; refine pu 18 90 ?_; refine pu 19 91 ?_; refine pu 20 92 ?_; refine pu 21 93 ?_; refine pu 22 94 ?_; refine pu 23 95 ?_; refine pu 24 96 ?_; refine pu 25 97 ?_; refine pu 26 98 ?_; refine pu 27 99 ?_; refine pu 28 100 ?_; refine pu 29 101 ?_; refine pu 30 102 ?_; refine pu 31 103 ?_
     refine dn ?_
     try go_wp2
     go_meet
     case rel => exact ⟨_, (true), ax10, H', ⟨by first | omega | exact Nat.le_refl _⟩, ⟨ax235⟩, ⟨ax236⟩, ⟨ax237⟩, ⟨ax238⟩, ⟨ax239⟩, ⟨ax240⟩, ⟨ax241⟩, ⟨ax234⟩⟩
   ·rw [if_neg c70] at H
    have c70b0 : (t481 != t482) = false := by simpa using c70
    (try (have c70b1 : decide (t481 = t482) = true := by simpa using c70))
    (try (have c70b2 : (t481 == t482) = true := by simpa using c70))
    clear c70
    (first | rw [c70b0] | (simp only [i64_w, i32_w]; rw [c70b0]) | skip)
    by_cases c75 : t450.toList = t452.toList
    ·rw [if_pos c75] at H
     have c75b0 : (t450.toList == t452.toList) = true := beq_iff_eq.mpr c75
     have c75b1 : (t450.toList != t452.toList) = false := bne_eq_false_iff_eq.mpr c75
     clear c75
     by_cases c76 : (t451 != t453) = true
     ·rw [if_pos c76] at H
      have c76b0 : (t451 != t453) = true := c76
      (try (have c76b1 : decide (t451 = t453) = false := by simpa using c76))
      (try (have c76b2 : (t451 == t453) = false := by simpa using c76))
      (try (have c76b3 : ¬ (t451 = t453) := by simpa using c76))
      clear c76
      as_aux_lemma =>
       have H' := Aside0.mk H
       clear H
       try go_wp2
       have n0_ : Aside0 (Kd.R (Kd.int .u8) 5 (((w60.setCell ⟨gb480, 0, none⟩ (.string t476)).setCell ⟨gb480, 1, none⟩ (.string t477)).setCell ⟨gb480, 2, none⟩ (.int .i64 t478)) w.heap.size (fun k_ => some k_ ≠ (.slice Ao29 t454.length co29 : Value).ownBlock ∧ some k_ ≠ (.slice Ao36 t461.length co36 : Value).ownBlock) (.slice Ao20 t443.length co20) t443) := ⟨ax224⟩
       have n1_ : Aside0 (Kd.R (Kd.int .u8) 5 (((w60.setCell ⟨gb480, 0, none⟩ (.string t476)).setCell ⟨gb480, 1, none⟩ (.string t477)).setCell ⟨gb480, 2, none⟩ (.int .i64 t478)) w.heap.size (fun k_ => some k_ ≠ (.slice Ao20 t443.length co20 : Value).ownBlock ∧ some k_ ≠ (.slice Ao36 t461.length co36 : Value).ownBlock) (.slice Ao29 t454.length co29) t454) := ⟨ax225⟩
       have n2_ : Aside0 (Kd.R (Kd.int .u8) 5 (((w60.setCell ⟨gb480, 0, none⟩ (.string t476)).setCell ⟨gb480, 1, none⟩ (.string t477)).setCell ⟨gb480, 2, none⟩ (.int .i64 t478)) w.heap.size (fun k_ => some k_ ≠ (.slice Ao20 t443.length co20 : Value).ownBlock ∧ some k_ ≠ (.slice Ao29 t454.length co29 : Value).ownBlock) (.slice Ao36 t461.length co36) t461) := ⟨ax226⟩
       have n3_ : Aside0 ((((w60.setCell ⟨gb480, 0, none⟩ (.string t476)).setCell ⟨gb480, 1, none⟩ (.string t477)).setCell ⟨gb480, 2, none⟩ (.int .i64 t478)).heap[gb442]? = some (.cells #[.string t440, .string t441] 33 (0, 0))) := ⟨ax227⟩
       have n4_ : Aside0 ((((w60.setCell ⟨gb480, 0, none⟩ (.string t476)).setCell ⟨gb480, 1, none⟩ (.string t477)).setCell ⟨gb480, 2, none⟩ (.int .i64 t478)).heap[gb449]? = some (.cells #[.string t447, .string t448] 33 (0, 0))) := ⟨ax228⟩
       have n5_ : Aside0 ((((w60.setCell ⟨gb480, 0, none⟩ (.string t476)).setCell ⟨gb480, 1, none⟩ (.string t477)).setCell ⟨gb480, 2, none⟩ (.int .i64 t478)).heap[gb460]? = some (.cells #[.string t457, .string t458, .int .i64 t459] 27 (0, 0))) := ⟨ax229⟩
       have n6_ : Aside0 ((((w60.setCell ⟨gb480, 0, none⟩ (.string t476)).setCell ⟨gb480, 1, none⟩ (.string t477)).setCell ⟨gb480, 2, none⟩ (.int .i64 t478)).heap[gb469]? = some (.cells #[.string t464, .string t465, .int .i64 t466] 27 (0, 0))) := ⟨ax230⟩
       have n7_ : Aside0 ((((w60.setCell ⟨gb480, 0, none⟩ (.string t476)).setCell ⟨gb480, 1, none⟩ (.string t477)).setCell ⟨gb480, 2, none⟩ (.int .i64 t478)).heap[gb470]? = some (.cells #[.string t467, .string t468] 33 (0, 0))) := ⟨ax231⟩
       have n8_ : Aside0 ((((w60.setCell ⟨gb480, 0, none⟩ (.string t476)).setCell ⟨gb480, 1, none⟩ (.string t477)).setCell ⟨gb480, 2, none⟩ (.int .i64 t478)).heap[gb475]? = some (.cells #[.string t471, .string t472, .int .i64 t473] 27 (0, 0))) := ⟨ax232⟩
       have n9_ : Aside0 ((((w60.setCell ⟨gb480, 0, none⟩ (.string t476)).setCell ⟨gb480, 1, none⟩ (.string t477)).setCell ⟨gb480, 2, none⟩ (.int .i64 t478)).heap[gb480]? = some (.cells #[.string t476, .string t477, .int .i64 t478] 27 (0, 0))) := ⟨ax233⟩
       have n10_ : Aside0 (Below w.heap.size w (((w60.setCell ⟨gb480, 0, none⟩ (.string t476)).setCell ⟨gb480, 1, none⟩ (.string t477)).setCell ⟨gb480, 2, none⟩ (.int .i64 t478))) := ⟨ax234⟩
       (try clear HO445); (try clear HO456); (try clear HO463); (try clear BK442); (try clear BK449); (try clear BK460); (try clear BK469); (try clear BK470); (try clear BK475); (try clear BK480); (try clear HB); generalize (((w60.setCell ⟨gb480, 0, none⟩ (.string t476)).setCell ⟨gb480, 1, none⟩ (.string t477)).setCell ⟨gb480, 2, none⟩ (.int .i64 t478)) = w77 at n0_ n1_ n2_ n3_ n4_ n5_ n6_ n7_ n8_ n9_ n10_ ⊢; have HO445 := n0_; have HO456 := n1_; have HO463 := n2_; have BK442 := n3_; have BK449 := n4_; have BK460 := n5_; have BK469 := n6_; have BK470 := n7_; have BK475 := n8_; have BK480 := n9_; have HB := n10_; clear n0_ n1_ n2_ n3_ n4_ n5_ n6_ n7_ n8_ n9_ n10_; replace HO445 := Aside0.mk (Kd.R_drew HO445.out); replace HO456 := Aside0.mk (Kd.R_drew HO456.out); replace HO463 := Aside0.mk (Kd.R_drew HO463.out); replace BK442 := Aside0.mk (blk_drew BK442.out); replace BK449 := Aside0.mk (blk_drew BK449.out); replace BK460 := Aside0.mk (blk_drew BK460.out); replace BK469 := Aside0.mk (blk_drew BK469.out); replace BK470 := Aside0.mk (blk_drew BK470.out); replace BK475 := Aside0.mk (blk_drew BK475.out); replace BK480 := Aside0.mk (blk_drew BK480.out); replace HB := Aside0.mk (below_drew1 HB.out)
       refine start_ (n := 32) (S := fun w' => w'.cell? ⟨gb442, 0, none⟩ = some (.string t440) ∧ w'.cell? ⟨gb442, 1, none⟩ = some (.string t441)) (ds := []) (ob 32 0) (by kernel_rfl) rfl rfl ⟨(blk_cell BK442.out 0).trans rfl, (blk_cell BK442.out 1).trans rfl⟩ (fun hHeld => ?_); refine with_tabW laws_FnLogs.tab11 laws_FnLogs.bits11 (fun HT_ HW_ => ?_)
       generalize w77.drew = w78 at HO445 HO456 HO463 BK442 BK449 BK460 BK469 BK470 BK475 BK480 HB hHeld ⊢
       refine tk 0 72 ?_; refine tk 2 74 ?_
       refine one_ (i := 1) (N := some 73) (ob 32 7) rfl rfl (one_of HT_.out (by kernel_rfl)) (by decide) (fun K hK => ?_)
       refine goes_ Tryd.func20 (by kernel_rfl) rfl #[.agg #[.string t440, .string t441]] (by rfl) rfl rfl ax20 ?_
       with_reducible refine (impl_IsValidRecord.calls k t440 t441 t481 _ A68.out).mono ?_
       rintro e w79 ⟨rfl, hb⟩
       refine ⟨_, rfl, ?_⟩
       replace HO445 := uR HO445 hb; replace HO456 := uR HO456 hb; replace HO463 := uR HO463 hb; replace BK442 := ub BK442 hb; replace BK449 := ub BK449 hb; replace BK460 := ub BK460 hb; replace BK469 := ub BK469 hb; replace BK470 := ub BK470 hb; replace BK475 := ub BK475 hb; replace BK480 := ub BK480 hb; replace HB := Aside0.mk (below_step ax234 hb); (try clear hb); (try clear hb2); (try clear hk); (try clear hi)
       refine hK.out _ _ ⟨(blk_cell BK442.out 0).trans rfl, (blk_cell BK442.out 1).trans rfl⟩ (fun hHeld => ?_)
       clear hK K
       refine nm 73 ?_
       refine one_ (i := 3) (N := some 75) (ob 32 15) rfl rfl (one_of HT_.out (by kernel_rfl)) (by decide) (fun K hK => ?_)
       refine goes_ Tryd.func21 (by kernel_rfl) rfl #[.agg #[.string t440, .string t441]] (by rfl) rfl rfl ax20 ?_
       with_reducible refine (spec_IsValidRecord.calls k t440 t441 t482 _ A69.out).mono ?_
       rintro e w80 ⟨rfl, hb⟩
       refine ⟨_, rfl, ?_⟩
       replace HO445 := uR HO445 hb; replace HO456 := uR HO456 hb; replace HO463 := uR HO463 hb; replace BK442 := ub BK442 hb; replace BK449 := ub BK449 hb; replace BK460 := ub BK460 hb; replace BK469 := ub BK469 hb; replace BK470 := ub BK470 hb; replace BK475 := ub BK475 hb; replace BK480 := ub BK480 hb; replace HB := Aside0.mk (below_step ax234 hb); (try clear hb); (try clear hb2); (try clear hk); (try clear hi)
       refine hK.out _ _ ⟨(blk_cell BK442.out 0).trans rfl, (blk_cell BK442.out 1).trans rfl⟩ (fun hHeld => ?_)
       clear hK K
       refine nm 75 ?_
       refine pu 4 76 ?_; refine pu 5 77 ?_; refine pu 6 78 ?_; refine pu 7 79 ?_; refine pu 8 80 ?_; refine pu 9 81 ?_; refine pu 10 82 ?_; refine pu 11 83 ?_; refine pu 12 84 ?_; refine pu 13 85 ?_; refine pu 14 86 ?_; refine pu 15 87 ?_; refine pu 16 88 ?_; refine pu 17 89 ?_; refine pu 18 90 ?_; refine pu 19 91 ?_; refine pu 20 92 ?_; refine pu 21 93 ?_; refine pu 22 94 ?_; refine pu 23 95 ?_; refine pu 24 96 ?_; refine pu 25 97 ?_; refine pu 26 98 ?_; refine pu 27 99 ?_; refine pu 28 100 ?_; refine pu 29 101 ?_; refine pu 30 102 ?_; refine pu 31 103 ?_
       refine dn ?_
       try go_wp2
       go_meet
       case rel => exact ⟨_, (true), ax10, H', ⟨by first | omega | exact Nat.le_refl _⟩, ⟨ax235⟩, ⟨ax236⟩, ⟨ax237⟩, ⟨ax238⟩, ⟨ax239⟩, ⟨ax240⟩, ⟨ax241⟩, ⟨ax234⟩⟩
     ·rw [if_neg c76] at H
      have c76b0 : (t451 != t453) = false := by simpa using c76
      (try (have c76b1 : decide (t451 = t453) = true := by simpa using c76))
      (try (have c76b2 : (t451 == t453) = true := by simpa using c76))
      clear c76
      obtain ⟨t483, A81, H⟩ := bs H
      obtain ⟨t484, A82, H⟩ := bs H
      by_cases c83 : (t483 != t484) = true
      ·rw [if_pos c83] at H
       have c83b0 : (t483 != t484) = true := c83
       (try (have c83b1 : decide (t483 = t484) = false := by simpa using c83))
       (try (have c83b2 : (t483 == t484) = false := by simpa using c83))
       (try (have c83b3 : ¬ (t483 = t484) := by simpa using c83))
       clear c83
       as_aux_lemma =>
        have H' := Aside0.mk H
        clear H
        try go_wp2
        have n0_ : Aside0 (Kd.R (Kd.int .u8) 5 (((w60.setCell ⟨gb480, 0, none⟩ (.string t476)).setCell ⟨gb480, 1, none⟩ (.string t477)).setCell ⟨gb480, 2, none⟩ (.int .i64 t478)) w.heap.size (fun k_ => some k_ ≠ (.slice Ao29 t454.length co29 : Value).ownBlock ∧ some k_ ≠ (.slice Ao36 t461.length co36 : Value).ownBlock) (.slice Ao20 t443.length co20) t443) := ⟨ax224⟩
        have n1_ : Aside0 (Kd.R (Kd.int .u8) 5 (((w60.setCell ⟨gb480, 0, none⟩ (.string t476)).setCell ⟨gb480, 1, none⟩ (.string t477)).setCell ⟨gb480, 2, none⟩ (.int .i64 t478)) w.heap.size (fun k_ => some k_ ≠ (.slice Ao20 t443.length co20 : Value).ownBlock ∧ some k_ ≠ (.slice Ao36 t461.length co36 : Value).ownBlock) (.slice Ao29 t454.length co29) t454) := ⟨ax225⟩
        have n2_ : Aside0 (Kd.R (Kd.int .u8) 5 (((w60.setCell ⟨gb480, 0, none⟩ (.string t476)).setCell ⟨gb480, 1, none⟩ (.string t477)).setCell ⟨gb480, 2, none⟩ (.int .i64 t478)) w.heap.size (fun k_ => some k_ ≠ (.slice Ao20 t443.length co20 : Value).ownBlock ∧ some k_ ≠ (.slice Ao29 t454.length co29 : Value).ownBlock) (.slice Ao36 t461.length co36) t461) := ⟨ax226⟩
        have n3_ : Aside0 ((((w60.setCell ⟨gb480, 0, none⟩ (.string t476)).setCell ⟨gb480, 1, none⟩ (.string t477)).setCell ⟨gb480, 2, none⟩ (.int .i64 t478)).heap[gb442]? = some (.cells #[.string t440, .string t441] 33 (0, 0))) := ⟨ax227⟩
        have n4_ : Aside0 ((((w60.setCell ⟨gb480, 0, none⟩ (.string t476)).setCell ⟨gb480, 1, none⟩ (.string t477)).setCell ⟨gb480, 2, none⟩ (.int .i64 t478)).heap[gb449]? = some (.cells #[.string t447, .string t448] 33 (0, 0))) := ⟨ax228⟩
        have n5_ : Aside0 ((((w60.setCell ⟨gb480, 0, none⟩ (.string t476)).setCell ⟨gb480, 1, none⟩ (.string t477)).setCell ⟨gb480, 2, none⟩ (.int .i64 t478)).heap[gb460]? = some (.cells #[.string t457, .string t458, .int .i64 t459] 27 (0, 0))) := ⟨ax229⟩
        have n6_ : Aside0 ((((w60.setCell ⟨gb480, 0, none⟩ (.string t476)).setCell ⟨gb480, 1, none⟩ (.string t477)).setCell ⟨gb480, 2, none⟩ (.int .i64 t478)).heap[gb469]? = some (.cells #[.string t464, .string t465, .int .i64 t466] 27 (0, 0))) := ⟨ax230⟩
        have n7_ : Aside0 ((((w60.setCell ⟨gb480, 0, none⟩ (.string t476)).setCell ⟨gb480, 1, none⟩ (.string t477)).setCell ⟨gb480, 2, none⟩ (.int .i64 t478)).heap[gb470]? = some (.cells #[.string t467, .string t468] 33 (0, 0))) := ⟨ax231⟩
        have n8_ : Aside0 ((((w60.setCell ⟨gb480, 0, none⟩ (.string t476)).setCell ⟨gb480, 1, none⟩ (.string t477)).setCell ⟨gb480, 2, none⟩ (.int .i64 t478)).heap[gb475]? = some (.cells #[.string t471, .string t472, .int .i64 t473] 27 (0, 0))) := ⟨ax232⟩
        have n9_ : Aside0 ((((w60.setCell ⟨gb480, 0, none⟩ (.string t476)).setCell ⟨gb480, 1, none⟩ (.string t477)).setCell ⟨gb480, 2, none⟩ (.int .i64 t478)).heap[gb480]? = some (.cells #[.string t476, .string t477, .int .i64 t478] 27 (0, 0))) := ⟨ax233⟩
        have n10_ : Aside0 (Below w.heap.size w (((w60.setCell ⟨gb480, 0, none⟩ (.string t476)).setCell ⟨gb480, 1, none⟩ (.string t477)).setCell ⟨gb480, 2, none⟩ (.int .i64 t478))) := ⟨ax234⟩
        (try clear HO445); (try clear HO456); (try clear HO463); (try clear BK442); (try clear BK449); (try clear BK460); (try clear BK469); (try clear BK470); (try clear BK475); (try clear BK480); (try clear HB); generalize (((w60.setCell ⟨gb480, 0, none⟩ (.string t476)).setCell ⟨gb480, 1, none⟩ (.string t477)).setCell ⟨gb480, 2, none⟩ (.int .i64 t478)) = w84 at n0_ n1_ n2_ n3_ n4_ n5_ n6_ n7_ n8_ n9_ n10_ ⊢; have HO445 := n0_; have HO456 := n1_; have HO463 := n2_; have BK442 := n3_; have BK449 := n4_; have BK460 := n5_; have BK469 := n6_; have BK470 := n7_; have BK475 := n8_; have BK480 := n9_; have HB := n10_; clear n0_ n1_ n2_ n3_ n4_ n5_ n6_ n7_ n8_ n9_ n10_; replace HO445 := Aside0.mk (Kd.R_drew HO445.out); replace HO456 := Aside0.mk (Kd.R_drew HO456.out); replace HO463 := Aside0.mk (Kd.R_drew HO463.out); replace BK442 := Aside0.mk (blk_drew BK442.out); replace BK449 := Aside0.mk (blk_drew BK449.out); replace BK460 := Aside0.mk (blk_drew BK460.out); replace BK469 := Aside0.mk (blk_drew BK469.out); replace BK470 := Aside0.mk (blk_drew BK470.out); replace BK475 := Aside0.mk (blk_drew BK475.out); replace BK480 := Aside0.mk (blk_drew BK480.out); replace HB := Aside0.mk (below_drew1 HB.out)
        refine start_ (n := 32) (S := fun w' => w'.cell? ⟨gb442, 0, none⟩ = some (.string t440) ∧ w'.cell? ⟨gb442, 1, none⟩ = some (.string t441) ∧ w'.cell? ⟨gb460, 0, none⟩ = some (.string t457) ∧ w'.cell? ⟨gb460, 1, none⟩ = some (.string t458) ∧ w'.cell? ⟨gb460, 2, none⟩ = some (.int .i64 t459)) (ds := []) (ob 32 0) (by kernel_rfl) rfl rfl ⟨(blk_cell BK442.out 0).trans rfl, (blk_cell BK442.out 1).trans rfl, (blk_cell BK460.out 0).trans rfl, (blk_cell BK460.out 1).trans rfl, (blk_cell BK460.out 2).trans rfl⟩ (fun hHeld => ?_); refine with_tabW laws_FnLogs.tab11 laws_FnLogs.bits11 (fun HT_ HW_ => ?_)
        generalize w84.drew = w85 at HO445 HO456 HO463 BK442 BK449 BK460 BK469 BK470 BK475 BK480 HB hHeld ⊢
        refine tk 0 72 ?_; refine tk 2 74 ?_
        refine one_ (i := 1) (N := some 73) (ob 32 7) rfl rfl (one_of HT_.out (by kernel_rfl)) (by decide) (fun K hK => ?_)
        refine goes_ Tryd.func20 (by kernel_rfl) rfl #[.agg #[.string t440, .string t441]] (by rfl) rfl rfl ax20 ?_
        with_reducible refine (impl_IsValidRecord.calls k t440 t441 t481 _ A68.out).mono ?_
        rintro e w86 ⟨rfl, hb⟩
        refine ⟨_, rfl, ?_⟩
        replace HO445 := uR HO445 hb; replace HO456 := uR HO456 hb; replace HO463 := uR HO463 hb; replace BK442 := ub BK442 hb; replace BK449 := ub BK449 hb; replace BK460 := ub BK460 hb; replace BK469 := ub BK469 hb; replace BK470 := ub BK470 hb; replace BK475 := ub BK475 hb; replace BK480 := ub BK480 hb; replace HB := Aside0.mk (below_step ax234 hb); (try clear hb); (try clear hb2); (try clear hk); (try clear hi)
        refine hK.out _ _ ⟨(blk_cell BK442.out 0).trans rfl, (blk_cell BK442.out 1).trans rfl, (blk_cell BK460.out 0).trans rfl, (blk_cell BK460.out 1).trans rfl, (blk_cell BK460.out 2).trans rfl⟩ (fun hHeld => ?_)
        clear hK K
        refine nm 73 ?_
        refine one_ (i := 3) (N := some 75) (ob 32 15) rfl rfl (one_of HT_.out (by kernel_rfl)) (by decide) (fun K hK => ?_)
        refine goes_ Tryd.func21 (by kernel_rfl) rfl #[.agg #[.string t440, .string t441]] (by rfl) rfl rfl ax20 ?_
        with_reducible refine (spec_IsValidRecord.calls k t440 t441 t482 _ A69.out).mono ?_
        rintro e w87 ⟨rfl, hb⟩
        refine ⟨_, rfl, ?_⟩
        replace HO445 := uR HO445 hb; replace HO456 := uR HO456 hb; replace HO463 := uR HO463 hb; replace BK442 := ub BK442 hb; replace BK449 := ub BK449 hb; replace BK460 := ub BK460 hb; replace BK469 := ub BK469 hb; replace BK470 := ub BK470 hb; replace BK475 := ub BK475 hb; replace BK480 := ub BK480 hb; replace HB := Aside0.mk (below_step ax234 hb); (try clear hb); (try clear hb2); (try clear hk); (try clear hi)
        refine hK.out _ _ ⟨(blk_cell BK442.out 0).trans rfl, (blk_cell BK442.out 1).trans rfl, (blk_cell BK460.out 0).trans rfl, (blk_cell BK460.out 1).trans rfl, (blk_cell BK460.out 2).trans rfl⟩ (fun hHeld => ?_)
        clear hK K
        refine nm 75 ?_
        refine pu 4 76 ?_; refine pu 5 77 ?_; refine pu 6 78 ?_; refine pu 7 79 ?_; refine pu 8 80 ?_; refine pu 9 81 ?_; refine pu 10 82 ?_; refine pu 11 83 ?_; refine pu 12 84 ?_; refine pu 13 85 ?_; refine pu 14 86 ?_; refine pu 15 87 ?_; refine tk 16 88 ?_; refine tk 18 90 ?_
        refine one_ (i := 17) (N := some 89) (ob 32 524287) rfl rfl (one_of HT_.out (by kernel_rfl)) (by decide) (fun K hK => ?_)
        refine goes_ Tryd.func22 (by kernel_rfl) rfl #[.agg #[.string t457, .string t458, .int .i64 t459]] (by rfl) rfl rfl ax20 ?_
        with_reducible refine (impl_IsValidLog.calls k t457 t458 t459 t483 _ ?side1 A81.out).mono ?_
        (case side1 => exact ax242)
        rintro e w88 ⟨rfl, hb⟩
        refine ⟨_, rfl, ?_⟩
        replace HO445 := uR HO445 hb; replace HO456 := uR HO456 hb; replace HO463 := uR HO463 hb; replace BK442 := ub BK442 hb; replace BK449 := ub BK449 hb; replace BK460 := ub BK460 hb; replace BK469 := ub BK469 hb; replace BK470 := ub BK470 hb; replace BK475 := ub BK475 hb; replace BK480 := ub BK480 hb; replace HB := Aside0.mk (below_step ax234 hb); (try clear hb); (try clear hb2); (try clear hk); (try clear hi)
        refine hK.out _ _ ⟨(blk_cell BK442.out 0).trans rfl, (blk_cell BK442.out 1).trans rfl, (blk_cell BK460.out 0).trans rfl, (blk_cell BK460.out 1).trans rfl, (blk_cell BK460.out 2).trans rfl⟩ (fun hHeld => ?_)
        clear hK K
        refine nm 89 ?_
        refine one_ (i := 19) (N := some 91) (ob 32 1048575) rfl rfl (one_of HT_.out (by kernel_rfl)) (by decide) (fun K hK => ?_)
        refine goes_ Tryd.func23 (by kernel_rfl) rfl #[.agg #[.string t457, .string t458, .int .i64 t459]] (by rfl) rfl rfl ax20 ?_
        with_reducible refine (spec_IsValidLog.calls k t457 t458 t459 t484 _ A82.out).mono ?_
        rintro e w89 ⟨rfl, hb⟩
        refine ⟨_, rfl, ?_⟩
        replace HO445 := uR HO445 hb; replace HO456 := uR HO456 hb; replace HO463 := uR HO463 hb; replace BK442 := ub BK442 hb; replace BK449 := ub BK449 hb; replace BK460 := ub BK460 hb; replace BK469 := ub BK469 hb; replace BK470 := ub BK470 hb; replace BK475 := ub BK475 hb; replace BK480 := ub BK480 hb; replace HB := Aside0.mk (below_step ax234 hb); (try clear hb); (try clear hb2); (try clear hk); (try clear hi)
        refine hK.out _ _ ⟨(blk_cell BK442.out 0).trans rfl, (blk_cell BK442.out 1).trans rfl, (blk_cell BK460.out 0).trans rfl, (blk_cell BK460.out 1).trans rfl, (blk_cell BK460.out 2).trans rfl⟩ (fun hHeld => ?_)
        clear hK K
        refine nm 91 ?_
        refine pu 20 92 ?_; refine pu 21 93 ?_; refine pu 22 94 ?_; refine pu 23 95 ?_; refine pu 24 96 ?_; refine pu 25 97 ?_; refine pu 26 98 ?_; refine pu 27 99 ?_; refine pu 28 100 ?_; refine pu 29 101 ?_; refine pu 30 102 ?_; refine pu 31 103 ?_
        refine dn ?_
        try go_wp2
        go_meet
        case rel => exact ⟨_, (true), ax10, H', ⟨by first | omega | exact Nat.le_refl _⟩, ⟨ax235⟩, ⟨ax236⟩, ⟨ax237⟩, ⟨ax238⟩, ⟨ax239⟩, ⟨ax240⟩, ⟨ax241⟩, ⟨ax234⟩⟩
      ·rw [if_neg c83] at H
       have c83b0 : (t483 != t484) = false := by simpa using c83
       (try (have c83b1 : decide (t483 = t484) = true := by simpa using c83))
       (try (have c83b2 : (t483 == t484) = true := by simpa using c83))
       clear c83
       by_cases c90 : (!(t471.toList == t476.toList) || (!(t472.toList == t477.toList) || (!(t473 == t478)))) = true
       ·rw [if_pos c90] at H
        have c90b0 : (!(t471.toList == t476.toList) || (!(t472.toList == t477.toList) || (!(t473 == t478)))) = true := c90
        clear c90
        as_aux_lemma =>
         have H' := Aside0.mk H
         clear H
         try go_wp2
         have n0_ : Aside0 (Kd.R (Kd.int .u8) 5 (((w60.setCell ⟨gb480, 0, none⟩ (.string t476)).setCell ⟨gb480, 1, none⟩ (.string t477)).setCell ⟨gb480, 2, none⟩ (.int .i64 t478)) w.heap.size (fun k_ => some k_ ≠ (.slice Ao29 t454.length co29 : Value).ownBlock ∧ some k_ ≠ (.slice Ao36 t461.length co36 : Value).ownBlock) (.slice Ao20 t443.length co20) t443) := ⟨ax224⟩
         have n1_ : Aside0 (Kd.R (Kd.int .u8) 5 (((w60.setCell ⟨gb480, 0, none⟩ (.string t476)).setCell ⟨gb480, 1, none⟩ (.string t477)).setCell ⟨gb480, 2, none⟩ (.int .i64 t478)) w.heap.size (fun k_ => some k_ ≠ (.slice Ao20 t443.length co20 : Value).ownBlock ∧ some k_ ≠ (.slice Ao36 t461.length co36 : Value).ownBlock) (.slice Ao29 t454.length co29) t454) := ⟨ax225⟩
         have n2_ : Aside0 (Kd.R (Kd.int .u8) 5 (((w60.setCell ⟨gb480, 0, none⟩ (.string t476)).setCell ⟨gb480, 1, none⟩ (.string t477)).setCell ⟨gb480, 2, none⟩ (.int .i64 t478)) w.heap.size (fun k_ => some k_ ≠ (.slice Ao20 t443.length co20 : Value).ownBlock ∧ some k_ ≠ (.slice Ao29 t454.length co29 : Value).ownBlock) (.slice Ao36 t461.length co36) t461) := ⟨ax226⟩
         have n3_ : Aside0 ((((w60.setCell ⟨gb480, 0, none⟩ (.string t476)).setCell ⟨gb480, 1, none⟩ (.string t477)).setCell ⟨gb480, 2, none⟩ (.int .i64 t478)).heap[gb442]? = some (.cells #[.string t440, .string t441] 33 (0, 0))) := ⟨ax227⟩
         have n4_ : Aside0 ((((w60.setCell ⟨gb480, 0, none⟩ (.string t476)).setCell ⟨gb480, 1, none⟩ (.string t477)).setCell ⟨gb480, 2, none⟩ (.int .i64 t478)).heap[gb449]? = some (.cells #[.string t447, .string t448] 33 (0, 0))) := ⟨ax228⟩
         have n5_ : Aside0 ((((w60.setCell ⟨gb480, 0, none⟩ (.string t476)).setCell ⟨gb480, 1, none⟩ (.string t477)).setCell ⟨gb480, 2, none⟩ (.int .i64 t478)).heap[gb460]? = some (.cells #[.string t457, .string t458, .int .i64 t459] 27 (0, 0))) := ⟨ax229⟩
         have n6_ : Aside0 ((((w60.setCell ⟨gb480, 0, none⟩ (.string t476)).setCell ⟨gb480, 1, none⟩ (.string t477)).setCell ⟨gb480, 2, none⟩ (.int .i64 t478)).heap[gb469]? = some (.cells #[.string t464, .string t465, .int .i64 t466] 27 (0, 0))) := ⟨ax230⟩
         have n7_ : Aside0 ((((w60.setCell ⟨gb480, 0, none⟩ (.string t476)).setCell ⟨gb480, 1, none⟩ (.string t477)).setCell ⟨gb480, 2, none⟩ (.int .i64 t478)).heap[gb470]? = some (.cells #[.string t467, .string t468] 33 (0, 0))) := ⟨ax231⟩
         have n8_ : Aside0 ((((w60.setCell ⟨gb480, 0, none⟩ (.string t476)).setCell ⟨gb480, 1, none⟩ (.string t477)).setCell ⟨gb480, 2, none⟩ (.int .i64 t478)).heap[gb475]? = some (.cells #[.string t471, .string t472, .int .i64 t473] 27 (0, 0))) := ⟨ax232⟩
         have n9_ : Aside0 ((((w60.setCell ⟨gb480, 0, none⟩ (.string t476)).setCell ⟨gb480, 1, none⟩ (.string t477)).setCell ⟨gb480, 2, none⟩ (.int .i64 t478)).heap[gb480]? = some (.cells #[.string t476, .string t477, .int .i64 t478] 27 (0, 0))) := ⟨ax233⟩
         have n10_ : Aside0 (Below w.heap.size w (((w60.setCell ⟨gb480, 0, none⟩ (.string t476)).setCell ⟨gb480, 1, none⟩ (.string t477)).setCell ⟨gb480, 2, none⟩ (.int .i64 t478))) := ⟨ax234⟩
         (try clear HO445); (try clear HO456); (try clear HO463); (try clear BK442); (try clear BK449); (try clear BK460); (try clear BK469); (try clear BK470); (try clear BK475); (try clear BK480); (try clear HB); generalize (((w60.setCell ⟨gb480, 0, none⟩ (.string t476)).setCell ⟨gb480, 1, none⟩ (.string t477)).setCell ⟨gb480, 2, none⟩ (.int .i64 t478)) = w91 at n0_ n1_ n2_ n3_ n4_ n5_ n6_ n7_ n8_ n9_ n10_ ⊢; have HO445 := n0_; have HO456 := n1_; have HO463 := n2_; have BK442 := n3_; have BK449 := n4_; have BK460 := n5_; have BK469 := n6_; have BK470 := n7_; have BK475 := n8_; have BK480 := n9_; have HB := n10_; clear n0_ n1_ n2_ n3_ n4_ n5_ n6_ n7_ n8_ n9_ n10_; replace HO445 := Aside0.mk (Kd.R_drew HO445.out); replace HO456 := Aside0.mk (Kd.R_drew HO456.out); replace HO463 := Aside0.mk (Kd.R_drew HO463.out); replace BK442 := Aside0.mk (blk_drew BK442.out); replace BK449 := Aside0.mk (blk_drew BK449.out); replace BK460 := Aside0.mk (blk_drew BK460.out); replace BK469 := Aside0.mk (blk_drew BK469.out); replace BK470 := Aside0.mk (blk_drew BK470.out); replace BK475 := Aside0.mk (blk_drew BK475.out); replace BK480 := Aside0.mk (blk_drew BK480.out); replace HB := Aside0.mk (below_drew1 HB.out)
         refine start_ (n := 32) (S := fun w' => w'.cell? ⟨gb442, 0, none⟩ = some (.string t440) ∧ w'.cell? ⟨gb442, 1, none⟩ = some (.string t441) ∧ w'.cell? ⟨gb460, 0, none⟩ = some (.string t457) ∧ w'.cell? ⟨gb460, 1, none⟩ = some (.string t458) ∧ w'.cell? ⟨gb460, 2, none⟩ = some (.int .i64 t459) ∧ w'.cell? ⟨gb475, 0, none⟩ = some (.string t471) ∧ w'.cell? ⟨gb475, 1, none⟩ = some (.string t472) ∧ w'.cell? ⟨gb475, 2, none⟩ = some (.int .i64 t473) ∧ w'.cell? ⟨gb480, 0, none⟩ = some (.string t476) ∧ w'.cell? ⟨gb480, 1, none⟩ = some (.string t477) ∧ w'.cell? ⟨gb480, 2, none⟩ = some (.int .i64 t478)) (ds := []) (ob 32 0) (by kernel_rfl) rfl rfl ⟨(blk_cell BK442.out 0).trans rfl, (blk_cell BK442.out 1).trans rfl, (blk_cell BK460.out 0).trans rfl, (blk_cell BK460.out 1).trans rfl, (blk_cell BK460.out 2).trans rfl, (blk_cell BK475.out 0).trans rfl, (blk_cell BK475.out 1).trans rfl, (blk_cell BK475.out 2).trans rfl, (blk_cell BK480.out 0).trans rfl, (blk_cell BK480.out 1).trans rfl, (blk_cell BK480.out 2).trans rfl⟩ (fun hHeld => ?_); refine with_tabW laws_FnLogs.tab11 laws_FnLogs.bits11 (fun HT_ HW_ => ?_)
         generalize w91.drew = w92 at HO445 HO456 HO463 BK442 BK449 BK460 BK469 BK470 BK475 BK480 HB hHeld ⊢
         refine tk 0 72 ?_; refine tk 2 74 ?_
         refine one_ (i := 1) (N := some 73) (ob 32 7) rfl rfl (one_of HT_.out (by kernel_rfl)) (by decide) (fun K hK => ?_)
         refine goes_ Tryd.func20 (by kernel_rfl) rfl #[.agg #[.string t440, .string t441]] (by rfl) rfl rfl ax20 ?_
         with_reducible refine (impl_IsValidRecord.calls k t440 t441 t481 _ A68.out).mono ?_
         rintro e w93 ⟨rfl, hb⟩
         refine ⟨_, rfl, ?_⟩
         replace HO445 := uR HO445 hb; replace HO456 := uR HO456 hb; replace HO463 := uR HO463 hb; replace BK442 := ub BK442 hb; replace BK449 := ub BK449 hb; replace BK460 := ub BK460 hb; replace BK469 := ub BK469 hb; replace BK470 := ub BK470 hb; replace BK475 := ub BK475 hb; replace BK480 := ub BK480 hb; replace HB := Aside0.mk (below_step ax234 hb); (try clear hb); (try clear hb2); (try clear hk); (try clear hi)
         refine hK.out _ _ ⟨(blk_cell BK442.out 0).trans rfl, (blk_cell BK442.out 1).trans rfl, (blk_cell BK460.out 0).trans rfl, (blk_cell BK460.out 1).trans rfl, (blk_cell BK460.out 2).trans rfl, (blk_cell BK475.out 0).trans rfl, (blk_cell BK475.out 1).trans rfl, (blk_cell BK475.out 2).trans rfl, (blk_cell BK480.out 0).trans rfl, (blk_cell BK480.out 1).trans rfl, (blk_cell BK480.out 2).trans rfl⟩ (fun hHeld => ?_)
         clear hK K
         refine nm 73 ?_
         refine one_ (i := 3) (N := some 75) (ob 32 15) rfl rfl (one_of HT_.out (by kernel_rfl)) (by decide) (fun K hK => ?_)
         refine goes_ Tryd.func21 (by kernel_rfl) rfl #[.agg #[.string t440, .string t441]] (by rfl) rfl rfl ax20 ?_
         with_reducible refine (spec_IsValidRecord.calls k t440 t441 t482 _ A69.out).mono ?_
         rintro e w94 ⟨rfl, hb⟩
         refine ⟨_, rfl, ?_⟩
         replace HO445 := uR HO445 hb; replace HO456 := uR HO456 hb; replace HO463 := uR HO463 hb; replace BK442 := ub BK442 hb; replace BK449 := ub BK449 hb; replace BK460 := ub BK460 hb; replace BK469 := ub BK469 hb; replace BK470 := ub BK470 hb; replace BK475 := ub BK475 hb; replace BK480 := ub BK480 hb; replace HB := Aside0.mk (below_step ax234 hb); (try clear hb); (try clear hb2); (try clear hk); (try clear hi)
         refine hK.out _ _ ⟨(blk_cell BK442.out 0).trans rfl, (blk_cell BK442.out 1).trans rfl, (blk_cell BK460.out 0).trans rfl, (blk_cell BK460.out 1).trans rfl, (blk_cell BK460.out 2).trans rfl, (blk_cell BK475.out 0).trans rfl, (blk_cell BK475.out 1).trans rfl, (blk_cell BK475.out 2).trans rfl, (blk_cell BK480.out 0).trans rfl, (blk_cell BK480.out 1).trans rfl, (blk_cell BK480.out 2).trans rfl⟩ (fun hHeld => ?_)
         clear hK K
         refine nm 75 ?_
         refine pu 4 76 ?_; refine pu 5 77 ?_; refine pu 6 78 ?_; refine pu 7 79 ?_; refine pu 8 80 ?_; refine pu 9 81 ?_; refine pu 10 82 ?_; refine pu 11 83 ?_; refine pu 12 84 ?_; refine pu 13 85 ?_; refine pu 14 86 ?_; refine pu 15 87 ?_; refine tk 16 88 ?_; refine tk 18 90 ?_
         refine one_ (i := 17) (N := some 89) (ob 32 524287) rfl rfl (one_of HT_.out (by kernel_rfl)) (by decide) (fun K hK => ?_)
         refine goes_ Tryd.func22 (by kernel_rfl) rfl #[.agg #[.string t457, .string t458, .int .i64 t459]] (by rfl) rfl rfl ax20 ?_
         with_reducible refine (impl_IsValidLog.calls k t457 t458 t459 t483 _ ?side1 A81.out).mono ?_
         (case side1 => exact ax242)
         rintro e w95 ⟨rfl, hb⟩
         refine ⟨_, rfl, ?_⟩
         replace HO445 := uR HO445 hb; replace HO456 := uR HO456 hb; replace HO463 := uR HO463 hb; replace BK442 := ub BK442 hb; replace BK449 := ub BK449 hb; replace BK460 := ub BK460 hb; replace BK469 := ub BK469 hb; replace BK470 := ub BK470 hb; replace BK475 := ub BK475 hb; replace BK480 := ub BK480 hb; replace HB := Aside0.mk (below_step ax234 hb); (try clear hb); (try clear hb2); (try clear hk); (try clear hi)
         refine hK.out _ _ ⟨(blk_cell BK442.out 0).trans rfl, (blk_cell BK442.out 1).trans rfl, (blk_cell BK460.out 0).trans rfl, (blk_cell BK460.out 1).trans rfl, (blk_cell BK460.out 2).trans rfl, (blk_cell BK475.out 0).trans rfl, (blk_cell BK475.out 1).trans rfl, (blk_cell BK475.out 2).trans rfl, (blk_cell BK480.out 0).trans rfl, (blk_cell BK480.out 1).trans rfl, (blk_cell BK480.out 2).trans rfl⟩ (fun hHeld => ?_)
         clear hK K
         refine nm 89 ?_
         refine one_ (i := 19) (N := some 91) (ob 32 1048575) rfl rfl (one_of HT_.out (by kernel_rfl)) (by decide) (fun K hK => ?_)
         refine goes_ Tryd.func23 (by kernel_rfl) rfl #[.agg #[.string t457, .string t458, .int .i64 t459]] (by rfl) rfl rfl ax20 ?_
         with_reducible refine (spec_IsValidLog.calls k t457 t458 t459 t484 _ A82.out).mono ?_
         rintro e w96 ⟨rfl, hb⟩
         refine ⟨_, rfl, ?_⟩
         replace HO445 := uR HO445 hb; replace HO456 := uR HO456 hb; replace HO463 := uR HO463 hb; replace BK442 := ub BK442 hb; replace BK449 := ub BK449 hb; replace BK460 := ub BK460 hb; replace BK469 := ub BK469 hb; replace BK470 := ub BK470 hb; replace BK475 := ub BK475 hb; replace BK480 := ub BK480 hb; replace HB := Aside0.mk (below_step ax234 hb); (try clear hb); (try clear hb2); (try clear hk); (try clear hi)
         refine hK.out _ _ ⟨(blk_cell BK442.out 0).trans rfl, (blk_cell BK442.out 1).trans rfl, (blk_cell BK460.out 0).trans rfl, (blk_cell BK460.out 1).trans rfl, (blk_cell BK460.out 2).trans rfl, (blk_cell BK475.out 0).trans rfl, (blk_cell BK475.out 1).trans rfl, (blk_cell BK475.out 2).trans rfl, (blk_cell BK480.out 0).trans rfl, (blk_cell BK480.out 1).trans rfl, (blk_cell BK480.out 2).trans rfl⟩ (fun hHeld => ?_)
         clear hK K
         refine nm 91 ?_
         refine pu 20 92 ?_; refine pu 21 93 ?_; refine pu 22 94 ?_; refine tk 23 95 ?_; refine tk 24 96 ?_; refine pu 25 97 ?_; refine pu 26 98 ?_; refine pu 27 99 ?_; refine pu 28 100 ?_; refine pu 29 101 ?_; refine pu 30 102 ?_; refine pu 31 103 ?_
         refine dn ?_
         try go_wp2
         go_meet
         case rel => exact ⟨_, (true), ax10, H', ⟨by first | omega | exact Nat.le_refl _⟩, ⟨ax235⟩, ⟨ax236⟩, ⟨ax237⟩, ⟨ax238⟩, ⟨ax239⟩, ⟨ax240⟩, ⟨ax241⟩, ⟨ax234⟩⟩
       ·rw [if_neg c90] at H
        have c90b0 : (!(t471.toList == t476.toList) || (!(t472.toList == t477.toList) || (!(t473 == t478)))) = false := by simpa using c90
        clear c90
        as_aux_lemma =>
         have H' := Aside0.mk H
         clear H
         try go_wp2
         have n0_ : Aside0 (Kd.R (Kd.int .u8) 5 (((w60.setCell ⟨gb480, 0, none⟩ (.string t476)).setCell ⟨gb480, 1, none⟩ (.string t477)).setCell ⟨gb480, 2, none⟩ (.int .i64 t478)) w.heap.size (fun k_ => some k_ ≠ (.slice Ao29 t454.length co29 : Value).ownBlock ∧ some k_ ≠ (.slice Ao36 t461.length co36 : Value).ownBlock) (.slice Ao20 t443.length co20) t443) := ⟨ax224⟩
         have n1_ : Aside0 (Kd.R (Kd.int .u8) 5 (((w60.setCell ⟨gb480, 0, none⟩ (.string t476)).setCell ⟨gb480, 1, none⟩ (.string t477)).setCell ⟨gb480, 2, none⟩ (.int .i64 t478)) w.heap.size (fun k_ => some k_ ≠ (.slice Ao20 t443.length co20 : Value).ownBlock ∧ some k_ ≠ (.slice Ao36 t461.length co36 : Value).ownBlock) (.slice Ao29 t454.length co29) t454) := ⟨ax225⟩
         have n2_ : Aside0 (Kd.R (Kd.int .u8) 5 (((w60.setCell ⟨gb480, 0, none⟩ (.string t476)).setCell ⟨gb480, 1, none⟩ (.string t477)).setCell ⟨gb480, 2, none⟩ (.int .i64 t478)) w.heap.size (fun k_ => some k_ ≠ (.slice Ao20 t443.length co20 : Value).ownBlock ∧ some k_ ≠ (.slice Ao29 t454.length co29 : Value).ownBlock) (.slice Ao36 t461.length co36) t461) := ⟨ax226⟩
         have n3_ : Aside0 ((((w60.setCell ⟨gb480, 0, none⟩ (.string t476)).setCell ⟨gb480, 1, none⟩ (.string t477)).setCell ⟨gb480, 2, none⟩ (.int .i64 t478)).heap[gb442]? = some (.cells #[.string t440, .string t441] 33 (0, 0))) := ⟨ax227⟩
         have n4_ : Aside0 ((((w60.setCell ⟨gb480, 0, none⟩ (.string t476)).setCell ⟨gb480, 1, none⟩ (.string t477)).setCell ⟨gb480, 2, none⟩ (.int .i64 t478)).heap[gb449]? = some (.cells #[.string t447, .string t448] 33 (0, 0))) := ⟨ax228⟩
         have n5_ : Aside0 ((((w60.setCell ⟨gb480, 0, none⟩ (.string t476)).setCell ⟨gb480, 1, none⟩ (.string t477)).setCell ⟨gb480, 2, none⟩ (.int .i64 t478)).heap[gb460]? = some (.cells #[.string t457, .string t458, .int .i64 t459] 27 (0, 0))) := ⟨ax229⟩
         have n6_ : Aside0 ((((w60.setCell ⟨gb480, 0, none⟩ (.string t476)).setCell ⟨gb480, 1, none⟩ (.string t477)).setCell ⟨gb480, 2, none⟩ (.int .i64 t478)).heap[gb469]? = some (.cells #[.string t464, .string t465, .int .i64 t466] 27 (0, 0))) := ⟨ax230⟩
         have n7_ : Aside0 ((((w60.setCell ⟨gb480, 0, none⟩ (.string t476)).setCell ⟨gb480, 1, none⟩ (.string t477)).setCell ⟨gb480, 2, none⟩ (.int .i64 t478)).heap[gb470]? = some (.cells #[.string t467, .string t468] 33 (0, 0))) := ⟨ax231⟩
         have n8_ : Aside0 ((((w60.setCell ⟨gb480, 0, none⟩ (.string t476)).setCell ⟨gb480, 1, none⟩ (.string t477)).setCell ⟨gb480, 2, none⟩ (.int .i64 t478)).heap[gb475]? = some (.cells #[.string t471, .string t472, .int .i64 t473] 27 (0, 0))) := ⟨ax232⟩
         have n9_ : Aside0 ((((w60.setCell ⟨gb480, 0, none⟩ (.string t476)).setCell ⟨gb480, 1, none⟩ (.string t477)).setCell ⟨gb480, 2, none⟩ (.int .i64 t478)).heap[gb480]? = some (.cells #[.string t476, .string t477, .int .i64 t478] 27 (0, 0))) := ⟨ax233⟩
         have n10_ : Aside0 (Below w.heap.size w (((w60.setCell ⟨gb480, 0, none⟩ (.string t476)).setCell ⟨gb480, 1, none⟩ (.string t477)).setCell ⟨gb480, 2, none⟩ (.int .i64 t478))) := ⟨ax234⟩
         (try clear HO445); (try clear HO456); (try clear HO463); (try clear BK442); (try clear BK449); (try clear BK460); (try clear BK469); (try clear BK470); (try clear BK475); (try clear BK480); (try clear HB); generalize (((w60.setCell ⟨gb480, 0, none⟩ (.string t476)).setCell ⟨gb480, 1, none⟩ (.string t477)).setCell ⟨gb480, 2, none⟩ (.int .i64 t478)) = w97 at n0_ n1_ n2_ n3_ n4_ n5_ n6_ n7_ n8_ n9_ n10_ ⊢; have HO445 := n0_; have HO456 := n1_; have HO463 := n2_; have BK442 := n3_; have BK449 := n4_; have BK460 := n5_; have BK469 := n6_; have BK470 := n7_; have BK475 := n8_; have BK480 := n9_; have HB := n10_; clear n0_ n1_ n2_ n3_ n4_ n5_ n6_ n7_ n8_ n9_ n10_; replace HO445 := Aside0.mk (Kd.R_drew HO445.out); replace HO456 := Aside0.mk (Kd.R_drew HO456.out); replace HO463 := Aside0.mk (Kd.R_drew HO463.out); replace BK442 := Aside0.mk (blk_drew BK442.out); replace BK449 := Aside0.mk (blk_drew BK449.out); replace BK460 := Aside0.mk (blk_drew BK460.out); replace BK469 := Aside0.mk (blk_drew BK469.out); replace BK470 := Aside0.mk (blk_drew BK470.out); replace BK475 := Aside0.mk (blk_drew BK475.out); replace BK480 := Aside0.mk (blk_drew BK480.out); replace HB := Aside0.mk (below_drew1 HB.out)
         refine start_ (n := 32) (S := fun w' => w'.cell? ⟨gb442, 0, none⟩ = some (.string t440) ∧ w'.cell? ⟨gb442, 1, none⟩ = some (.string t441) ∧ w'.cell? ⟨gb460, 0, none⟩ = some (.string t457) ∧ w'.cell? ⟨gb460, 1, none⟩ = some (.string t458) ∧ w'.cell? ⟨gb460, 2, none⟩ = some (.int .i64 t459) ∧ w'.cell? ⟨gb475, 0, none⟩ = some (.string t471) ∧ w'.cell? ⟨gb475, 1, none⟩ = some (.string t472) ∧ w'.cell? ⟨gb475, 2, none⟩ = some (.int .i64 t473) ∧ w'.cell? ⟨gb480, 0, none⟩ = some (.string t476) ∧ w'.cell? ⟨gb480, 1, none⟩ = some (.string t477) ∧ w'.cell? ⟨gb480, 2, none⟩ = some (.int .i64 t478)) (ds := []) (ob 32 0) (by kernel_rfl) rfl rfl ⟨(blk_cell BK442.out 0).trans rfl, (blk_cell BK442.out 1).trans rfl, (blk_cell BK460.out 0).trans rfl, (blk_cell BK460.out 1).trans rfl, (blk_cell BK460.out 2).trans rfl, (blk_cell BK475.out 0).trans rfl, (blk_cell BK475.out 1).trans rfl, (blk_cell BK475.out 2).trans rfl, (blk_cell BK480.out 0).trans rfl, (blk_cell BK480.out 1).trans rfl, (blk_cell BK480.out 2).trans rfl⟩ (fun hHeld => ?_); refine with_tabW laws_FnLogs.tab11 laws_FnLogs.bits11 (fun HT_ HW_ => ?_)
         generalize w97.drew = w98 at HO445 HO456 HO463 BK442 BK449 BK460 BK469 BK470 BK475 BK480 HB hHeld ⊢
         refine tk 0 72 ?_; refine tk 2 74 ?_
         refine one_ (i := 1) (N := some 73) (ob 32 7) rfl rfl (one_of HT_.out (by kernel_rfl)) (by decide) (fun K hK => ?_)
         refine goes_ Tryd.func20 (by kernel_rfl) rfl #[.agg #[.string t440, .string t441]] (by rfl) rfl rfl ax20 ?_
         with_reducible refine (impl_IsValidRecord.calls k t440 t441 t481 _ A68.out).mono ?_
         rintro e w99 ⟨rfl, hb⟩
         refine ⟨_, rfl, ?_⟩
         replace HO445 := uR HO445 hb; replace HO456 := uR HO456 hb; replace HO463 := uR HO463 hb; replace BK442 := ub BK442 hb; replace BK449 := ub BK449 hb; replace BK460 := ub BK460 hb; replace BK469 := ub BK469 hb; replace BK470 := ub BK470 hb; replace BK475 := ub BK475 hb; replace BK480 := ub BK480 hb; replace HB := Aside0.mk (below_step ax234 hb); (try clear hb); (try clear hb2); (try clear hk); (try clear hi)
         refine hK.out _ _ ⟨(blk_cell BK442.out 0).trans rfl, (blk_cell BK442.out 1).trans rfl, (blk_cell BK460.out 0).trans rfl, (blk_cell BK460.out 1).trans rfl, (blk_cell BK460.out 2).trans rfl, (blk_cell BK475.out 0).trans rfl, (blk_cell BK475.out 1).trans rfl, (blk_cell BK475.out 2).trans rfl, (blk_cell BK480.out 0).trans rfl, (blk_cell BK480.out 1).trans rfl, (blk_cell BK480.out 2).trans rfl⟩ (fun hHeld => ?_)
         clear hK K
         refine nm 73 ?_
         refine one_ (i := 3) (N := some 75) (ob 32 15) rfl rfl (one_of HT_.out (by kernel_rfl)) (by decide) (fun K hK => ?_)
         refine goes_ Tryd.func21 (by kernel_rfl) rfl #[.agg #[.string t440, .string t441]] (by rfl) rfl rfl ax20 ?_
         with_reducible refine (spec_IsValidRecord.calls k t440 t441 t482 _ A69.out).mono ?_
         rintro e w100 ⟨rfl, hb⟩
         refine ⟨_, rfl, ?_⟩
         replace HO445 := uR HO445 hb; replace HO456 := uR HO456 hb; replace HO463 := uR HO463 hb; replace BK442 := ub BK442 hb; replace BK449 := ub BK449 hb; replace BK460 := ub BK460 hb; replace BK469 := ub BK469 hb; replace BK470 := ub BK470 hb; replace BK475 := ub BK475 hb; replace BK480 := ub BK480 hb; replace HB := Aside0.mk (below_step ax234 hb); (try clear hb); (try clear hb2); (try clear hk); (try clear hi)
         refine hK.out _ _ ⟨(blk_cell BK442.out 0).trans rfl, (blk_cell BK442.out 1).trans rfl, (blk_cell BK460.out 0).trans rfl, (blk_cell BK460.out 1).trans rfl, (blk_cell BK460.out 2).trans rfl, (blk_cell BK475.out 0).trans rfl, (blk_cell BK475.out 1).trans rfl, (blk_cell BK475.out 2).trans rfl, (blk_cell BK480.out 0).trans rfl, (blk_cell BK480.out 1).trans rfl, (blk_cell BK480.out 2).trans rfl⟩ (fun hHeld => ?_)
         clear hK K
         refine nm 75 ?_
         refine pu 4 76 ?_; refine pu 5 77 ?_; refine pu 6 78 ?_; refine pu 7 79 ?_; refine pu 8 80 ?_; refine pu 9 81 ?_; refine pu 10 82 ?_; refine pu 11 83 ?_; refine pu 12 84 ?_; refine pu 13 85 ?_; refine pu 14 86 ?_; refine pu 15 87 ?_; refine tk 16 88 ?_; refine tk 18 90 ?_
         refine one_ (i := 17) (N := some 89) (ob 32 524287) rfl rfl (one_of HT_.out (by kernel_rfl)) (by decide) (fun K hK => ?_)
         refine goes_ Tryd.func22 (by kernel_rfl) rfl #[.agg #[.string t457, .string t458, .int .i64 t459]] (by rfl) rfl rfl ax20 ?_
         with_reducible refine (impl_IsValidLog.calls k t457 t458 t459 t483 _ ?side1 A81.out).mono ?_
         (case side1 => exact ax242)
         rintro e w101 ⟨rfl, hb⟩
         refine ⟨_, rfl, ?_⟩
         replace HO445 := uR HO445 hb; replace HO456 := uR HO456 hb; replace HO463 := uR HO463 hb; replace BK442 := ub BK442 hb; replace BK449 := ub BK449 hb; replace BK460 := ub BK460 hb; replace BK469 := ub BK469 hb; replace BK470 := ub BK470 hb; replace BK475 := ub BK475 hb; replace BK480 := ub BK480 hb; replace HB := Aside0.mk (below_step ax234 hb); (try clear hb); (try clear hb2); (try clear hk); (try clear hi)
         refine hK.out _ _ ⟨(blk_cell BK442.out 0).trans rfl, (blk_cell BK442.out 1).trans rfl, (blk_cell BK460.out 0).trans rfl, (blk_cell BK460.out 1).trans rfl, (blk_cell BK460.out 2).trans rfl, (blk_cell BK475.out 0).trans rfl, (blk_cell BK475.out 1).trans rfl, (blk_cell BK475.out 2).trans rfl, (blk_cell BK480.out 0).trans rfl, (blk_cell BK480.out 1).trans rfl, (blk_cell BK480.out 2).trans rfl⟩ (fun hHeld => ?_)
         clear hK K
         refine nm 89 ?_
         refine one_ (i := 19) (N := some 91) (ob 32 1048575) rfl rfl (one_of HT_.out (by kernel_rfl)) (by decide) (fun K hK => ?_)
         refine goes_ Tryd.func23 (by kernel_rfl) rfl #[.agg #[.string t457, .string t458, .int .i64 t459]] (by rfl) rfl rfl ax20 ?_
         with_reducible refine (spec_IsValidLog.calls k t457 t458 t459 t484 _ A82.out).mono ?_
         rintro e w102 ⟨rfl, hb⟩
         refine ⟨_, rfl, ?_⟩
         replace HO445 := uR HO445 hb; replace HO456 := uR HO456 hb; replace HO463 := uR HO463 hb; replace BK442 := ub BK442 hb; replace BK449 := ub BK449 hb; replace BK460 := ub BK460 hb; replace BK469 := ub BK469 hb; replace BK470 := ub BK470 hb; replace BK475 := ub BK475 hb; replace BK480 := ub BK480 hb; replace HB := Aside0.mk (below_step ax234 hb); (try clear hb); (try clear hb2); (try clear hk); (try clear hi)
         refine hK.out _ _ ⟨(blk_cell BK442.out 0).trans rfl, (blk_cell BK442.out 1).trans rfl, (blk_cell BK460.out 0).trans rfl, (blk_cell BK460.out 1).trans rfl, (blk_cell BK460.out 2).trans rfl, (blk_cell BK475.out 0).trans rfl, (blk_cell BK475.out 1).trans rfl, (blk_cell BK475.out 2).trans rfl, (blk_cell BK480.out 0).trans rfl, (blk_cell BK480.out 1).trans rfl, (blk_cell BK480.out 2).trans rfl⟩ (fun hHeld => ?_)
         clear hK K
         refine nm 91 ?_
         refine pu 20 92 ?_; refine pu 21 93 ?_; refine pu 22 94 ?_; refine tk 23 95 ?_; refine tk 24 96 ?_; refine pu 25 97 ?_; refine pu 26 98 ?_; refine pu 27 99 ?_; refine pu 28 100 ?_; refine pu 29 101 ?_; refine pu 30 102 ?_; refine pu 31 103 ?_
         refine dn ?_
         try go_wp2
         go_meet
         case rel => exact ⟨_, ((t474 != t479)), ax10, H', ⟨by first | omega | exact Nat.le_refl _⟩, ⟨ax235⟩, ⟨ax236⟩, ⟨ax237⟩, ⟨ax238⟩, ⟨ax239⟩, ⟨ax240⟩, ⟨ax241⟩, ⟨ax234⟩⟩
    ·rw [if_neg c75] at H
     have c75b0 : (t450.toList == t452.toList) = false := beq_eq_false_iff_ne.mpr c75
     have c75b1 : (t450.toList != t452.toList) = true := bne_iff_ne.mpr c75
     as_aux_lemma =>
      have H' := Aside0.mk H
      clear H
      try go_wp2
      have n0_ : Aside0 (Kd.R (Kd.int .u8) 5 (((w60.setCell ⟨gb480, 0, none⟩ (.string t476)).setCell ⟨gb480, 1, none⟩ (.string t477)).setCell ⟨gb480, 2, none⟩ (.int .i64 t478)) w.heap.size (fun k_ => some k_ ≠ (.slice Ao29 t454.length co29 : Value).ownBlock ∧ some k_ ≠ (.slice Ao36 t461.length co36 : Value).ownBlock) (.slice Ao20 t443.length co20) t443) := ⟨ax224⟩
      have n1_ : Aside0 (Kd.R (Kd.int .u8) 5 (((w60.setCell ⟨gb480, 0, none⟩ (.string t476)).setCell ⟨gb480, 1, none⟩ (.string t477)).setCell ⟨gb480, 2, none⟩ (.int .i64 t478)) w.heap.size (fun k_ => some k_ ≠ (.slice Ao20 t443.length co20 : Value).ownBlock ∧ some k_ ≠ (.slice Ao36 t461.length co36 : Value).ownBlock) (.slice Ao29 t454.length co29) t454) := ⟨ax225⟩
      have n2_ : Aside0 (Kd.R (Kd.int .u8) 5 (((w60.setCell ⟨gb480, 0, none⟩ (.string t476)).setCell ⟨gb480, 1, none⟩ (.string t477)).setCell ⟨gb480, 2, none⟩ (.int .i64 t478)) w.heap.size (fun k_ => some k_ ≠ (.slice Ao20 t443.length co20 : Value).ownBlock ∧ some k_ ≠ (.slice Ao29 t454.length co29 : Value).ownBlock) (.slice Ao36 t461.length co36) t461) := ⟨ax226⟩
      have n3_ : Aside0 ((((w60.setCell ⟨gb480, 0, none⟩ (.string t476)).setCell ⟨gb480, 1, none⟩ (.string t477)).setCell ⟨gb480, 2, none⟩ (.int .i64 t478)).heap[gb442]? = some (.cells #[.string t440, .string t441] 33 (0, 0))) := ⟨ax227⟩
      have n4_ : Aside0 ((((w60.setCell ⟨gb480, 0, none⟩ (.string t476)).setCell ⟨gb480, 1, none⟩ (.string t477)).setCell ⟨gb480, 2, none⟩ (.int .i64 t478)).heap[gb449]? = some (.cells #[.string t447, .string t448] 33 (0, 0))) := ⟨ax228⟩
      have n5_ : Aside0 ((((w60.setCell ⟨gb480, 0, none⟩ (.string t476)).setCell ⟨gb480, 1, none⟩ (.string t477)).setCell ⟨gb480, 2, none⟩ (.int .i64 t478)).heap[gb460]? = some (.cells #[.string t457, .string t458, .int .i64 t459] 27 (0, 0))) := ⟨ax229⟩
      have n6_ : Aside0 ((((w60.setCell ⟨gb480, 0, none⟩ (.string t476)).setCell ⟨gb480, 1, none⟩ (.string t477)).setCell ⟨gb480, 2, none⟩ (.int .i64 t478)).heap[gb469]? = some (.cells #[.string t464, .string t465, .int .i64 t466] 27 (0, 0))) := ⟨ax230⟩
      have n7_ : Aside0 ((((w60.setCell ⟨gb480, 0, none⟩ (.string t476)).setCell ⟨gb480, 1, none⟩ (.string t477)).setCell ⟨gb480, 2, none⟩ (.int .i64 t478)).heap[gb470]? = some (.cells #[.string t467, .string t468] 33 (0, 0))) := ⟨ax231⟩
      have n8_ : Aside0 ((((w60.setCell ⟨gb480, 0, none⟩ (.string t476)).setCell ⟨gb480, 1, none⟩ (.string t477)).setCell ⟨gb480, 2, none⟩ (.int .i64 t478)).heap[gb475]? = some (.cells #[.string t471, .string t472, .int .i64 t473] 27 (0, 0))) := ⟨ax232⟩
      have n9_ : Aside0 ((((w60.setCell ⟨gb480, 0, none⟩ (.string t476)).setCell ⟨gb480, 1, none⟩ (.string t477)).setCell ⟨gb480, 2, none⟩ (.int .i64 t478)).heap[gb480]? = some (.cells #[.string t476, .string t477, .int .i64 t478] 27 (0, 0))) := ⟨ax233⟩
      have n10_ : Aside0 (Below w.heap.size w (((w60.setCell ⟨gb480, 0, none⟩ (.string t476)).setCell ⟨gb480, 1, none⟩ (.string t477)).setCell ⟨gb480, 2, none⟩ (.int .i64 t478))) := ⟨ax234⟩
      (try clear HO445); (try clear HO456); (try clear HO463); (try clear BK442); (try clear BK449); (try clear BK460); (try clear BK469); (try clear BK470); (try clear BK475); (try clear BK480); (try clear HB); generalize (((w60.setCell ⟨gb480, 0, none⟩ (.string t476)).setCell ⟨gb480, 1, none⟩ (.string t477)).setCell ⟨gb480, 2, none⟩ (.int .i64 t478)) = w103 at n0_ n1_ n2_ n3_ n4_ n5_ n6_ n7_ n8_ n9_ n10_ ⊢; have HO445 := n0_; have HO456 := n1_; have HO463 := n2_; have BK442 := n3_; have BK449 := n4_; have BK460 := n5_; have BK469 := n6_; have BK470 := n7_; have BK475 := n8_; have BK480 := n9_; have HB := n10_; clear n0_ n1_ n2_ n3_ n4_ n5_ n6_ n7_ n8_ n9_ n10_; replace HO445 := Aside0.mk (Kd.R_drew HO445.out); replace HO456 := Aside0.mk (Kd.R_drew HO456.out); replace HO463 := Aside0.mk (Kd.R_drew HO463.out); replace BK442 := Aside0.mk (blk_drew BK442.out); replace BK449 := Aside0.mk (blk_drew BK449.out); replace BK460 := Aside0.mk (blk_drew BK460.out); replace BK469 := Aside0.mk (blk_drew BK469.out); replace BK470 := Aside0.mk (blk_drew BK470.out); replace BK475 := Aside0.mk (blk_drew BK475.out); replace BK480 := Aside0.mk (blk_drew BK480.out); replace HB := Aside0.mk (below_drew1 HB.out)
      refine start_ (n := 32) (S := fun w' => w'.cell? ⟨gb442, 0, none⟩ = some (.string t440) ∧ w'.cell? ⟨gb442, 1, none⟩ = some (.string t441)) (ds := []) (ob 32 0) (by kernel_rfl) rfl rfl ⟨(blk_cell BK442.out 0).trans rfl, (blk_cell BK442.out 1).trans rfl⟩ (fun hHeld => ?_); refine with_tabW laws_FnLogs.tab11 laws_FnLogs.bits11 (fun HT_ HW_ => ?_)
      generalize w103.drew = w104 at HO445 HO456 HO463 BK442 BK449 BK460 BK469 BK470 BK475 BK480 HB hHeld ⊢
      refine tk 0 72 ?_; refine tk 2 74 ?_
      refine one_ (i := 1) (N := some 73) (ob 32 7) rfl rfl (one_of HT_.out (by kernel_rfl)) (by decide) (fun K hK => ?_)
      refine goes_ Tryd.func20 (by kernel_rfl) rfl #[.agg #[.string t440, .string t441]] (by rfl) rfl rfl ax20 ?_
      with_reducible refine (impl_IsValidRecord.calls k t440 t441 t481 _ A68.out).mono ?_
      rintro e w105 ⟨rfl, hb⟩
      refine ⟨_, rfl, ?_⟩
      replace HO445 := uR HO445 hb; replace HO456 := uR HO456 hb; replace HO463 := uR HO463 hb; replace BK442 := ub BK442 hb; replace BK449 := ub BK449 hb; replace BK460 := ub BK460 hb; replace BK469 := ub BK469 hb; replace BK470 := ub BK470 hb; replace BK475 := ub BK475 hb; replace BK480 := ub BK480 hb; replace HB := Aside0.mk (below_step ax234 hb); (try clear hb); (try clear hb2); (try clear hk); (try clear hi)
      refine hK.out _ _ ⟨(blk_cell BK442.out 0).trans rfl, (blk_cell BK442.out 1).trans rfl⟩ (fun hHeld => ?_)
      clear hK K
      refine nm 73 ?_
      refine one_ (i := 3) (N := some 75) (ob 32 15) rfl rfl (one_of HT_.out (by kernel_rfl)) (by decide) (fun K hK => ?_)
      refine goes_ Tryd.func21 (by kernel_rfl) rfl #[.agg #[.string t440, .string t441]] (by rfl) rfl rfl ax20 ?_
      with_reducible refine (spec_IsValidRecord.calls k t440 t441 t482 _ A69.out).mono ?_
      rintro e w106 ⟨rfl, hb⟩
      refine ⟨_, rfl, ?_⟩
      replace HO445 := uR HO445 hb; replace HO456 := uR HO456 hb; replace HO463 := uR HO463 hb; replace BK442 := ub BK442 hb; replace BK449 := ub BK449 hb; replace BK460 := ub BK460 hb; replace BK469 := ub BK469 hb; replace BK470 := ub BK470 hb; replace BK475 := ub BK475 hb; replace BK480 := ub BK480 hb; replace HB := Aside0.mk (below_step ax234 hb); (try clear hb); (try clear hb2); (try clear hk); (try clear hi)
      refine hK.out _ _ ⟨(blk_cell BK442.out 0).trans rfl, (blk_cell BK442.out 1).trans rfl⟩ (fun hHeld => ?_)
      clear hK K
      refine nm 75 ?_
      refine pu 4 76 ?_; refine pu 5 77 ?_; refine pu 6 78 ?_; refine pu 7 79 ?_; refine pu 8 80 ?_; refine pu 9 81 ?_; refine pu 10 82 ?_; refine pu 11 83 ?_; refine pu 12 84 ?_; refine pu 13 85 ?_; refine pu 14 86 ?_; refine pu 15 87 ?_; refine pu 16 88 ?_; refine pu 17 89 ?_; refine pu 18 90 ?_; refine pu 19 91 ?_; refine pu 20 92 ?_; refine pu 21 93 ?_; refine pu 22 94 ?_; refine pu 23 95 ?_; refine pu 24 96 ?_; refine pu 25 97 ?_; refine pu 26 98 ?_; refine pu 27 99 ?_; refine pu 28 100 ?_; refine pu 29 101 ?_; refine pu 30 102 ?_; refine pu 31 103 ?_
      refine dn ?_
      try go_wp2
      go_meet
      case rel => exact ⟨_, (true), ax10, H', ⟨by first | omega | exact Nat.le_refl _⟩, ⟨ax235⟩, ⟨ax236⟩, ⟨ax237⟩, ⟨ax238⟩, ⟨ax239⟩, ⟨ax240⟩, ⟨ax241⟩, ⟨ax234⟩⟩
  case rest =>
   clear HC15
   try clear c2
   try clear p2
   try clear c7
   try clear c20
   try clear c21
   try clear c22
   try clear c23
   try clear c75
   try clear c75b0
   try clear c75b1
   obtain ⟨kq, x103_14, rfl, HA, HJ14, BK442, BK449, BK460, BK469, BK470, BK475, BK480, HB⟩ := hcut
   cases kq with
   | zero => exact absurd HA.out (by simp [laws_FnLogs.j0])
   | succ kj14 =>
    have H := HA.out; clear HA
    simp only [laws_FnLogs.j0] at H
    by_cases c107 : x103_14 = true
    ·subst c107
     rw [if_pos rfl] at H
     as_aux_lemma =>
      exact absurd ((Option.some.inj H).trans HRT.out) (by decide)
    ·replace c107 := Bool.eq_false_iff.mpr c107
     subst c107
     rw [if_neg (show ¬ (false = true) by decide)] at H
     obtain ⟨⟨t485, t486, t487, t488⟩, A108, H⟩ := bs H
     obtain ⟨⟨t490, t491, t492, t493⟩, A109, H⟩ := bs H
     obtain ⟨⟨t495, t498⟩, A110, H⟩ := bs H
     obtain ⟨⟨t499, t502⟩, A111, H⟩ := bs H
     have HC112 := Aside0.mk H; clear H; have hnb113 := NB469_442.out; have hnc113 := NB442_469.out; have hnb114 := NB469_449.out; have hnc114 := NB449_469.out; have hnb115 := NB469_460.out; have hnc115 := NB460_469.out; have hnb116 := NB469_470.out; have hnc116 := NB470_469.out; have hnb117 := NB469_475.out; have hnc117 := NB475_469.out; have hnb118 := NB469_480.out; have hnc118 := NB480_469.out; have hcz119_0 := bc (.string t464) BK469 0; have hcz119_1 := bc (.string t465) BK469 1; have hcz119_2 := bc (.int .i64 t466) BK469 2; have hfz119_0 := blk_frozen BK469.out 0; have hfz119_1 := blk_frozen BK469.out 1; have hfz119_2 := blk_frozen BK469.out 2
     go_upto_region 17 with (first | (refine stg ?_; refine stw ?_; (try simp only [World.setCells, Nat.zero_add, Nat.reduceAdd, Act.put, List.setIfInBounds_toArray, List.set_cons_zero, List.set_cons_succ])) | (refine ldg gb442 ?_; refine ldw gb442 (cs := #[.string t440, .string t441]) (ty := 33) ?_ (by (with_reducible repeat (first | refine blk_drewN ?_ _ | refine blk_drew ?_ | refine blk_alloc ?_ _)); refine blk_far ?_ NB442_489.out _; (with_reducible repeat (first | refine blk_drewN ?_ _ | refine blk_drew ?_ | refine blk_alloc ?_ _)); refine blk_far ?_ NB442_489.out _; (with_reducible repeat (first | refine blk_drewN ?_ _ | refine blk_drew ?_ | refine blk_alloc ?_ _)); refine blk_far ?_ NB442_489.out _; (with_reducible repeat (first | refine blk_drewN ?_ _ | refine blk_drew ?_ | refine blk_alloc ?_ _)); exact BK442.out); (try simp only [Act.put, List.setIfInBounds_toArray, List.set_cons_zero, List.set_cons_succ])) | (refine ldg gb449 ?_; refine ldw gb449 (cs := #[.string t447, .string t448]) (ty := 33) ?_ (by (with_reducible repeat (first | refine blk_drewN ?_ _ | refine blk_drew ?_ | refine blk_alloc ?_ _)); refine blk_far ?_ NB449_489.out _; (with_reducible repeat (first | refine blk_drewN ?_ _ | refine blk_drew ?_ | refine blk_alloc ?_ _)); refine blk_far ?_ NB449_489.out _; (with_reducible repeat (first | refine blk_drewN ?_ _ | refine blk_drew ?_ | refine blk_alloc ?_ _)); refine blk_far ?_ NB449_489.out _; (with_reducible repeat (first | refine blk_drewN ?_ _ | refine blk_drew ?_ | refine blk_alloc ?_ _)); exact BK449.out); (try simp only [Act.put, List.setIfInBounds_toArray, List.set_cons_zero, List.set_cons_succ])) | (refine ldg gb460 ?_; refine ldw gb460 (cs := #[.string t457, .string t458, .int .i64 t459]) (ty := 27) ?_ (by (with_reducible repeat (first | refine blk_drewN ?_ _ | refine blk_drew ?_ | refine blk_alloc ?_ _)); refine blk_far ?_ NB460_489.out _; (with_reducible repeat (first | refine blk_drewN ?_ _ | refine blk_drew ?_ | refine blk_alloc ?_ _)); refine blk_far ?_ NB460_489.out _; (with_reducible repeat (first | refine blk_drewN ?_ _ | refine blk_drew ?_ | refine blk_alloc ?_ _)); refine blk_far ?_ NB460_489.out _; (with_reducible repeat (first | refine blk_drewN ?_ _ | refine blk_drew ?_ | refine blk_alloc ?_ _)); exact BK460.out); (try simp only [Act.put, List.setIfInBounds_toArray, List.set_cons_zero, List.set_cons_succ])) | (refine ldg gb469 ?_; refine ldw gb469 (cs := #[.string t464, .string t465, .int .i64 t466]) (ty := 27) ?_ (by (with_reducible repeat (first | refine blk_drewN ?_ _ | refine blk_drew ?_ | refine blk_alloc ?_ _)); refine blk_far ?_ NB469_489.out _; (with_reducible repeat (first | refine blk_drewN ?_ _ | refine blk_drew ?_ | refine blk_alloc ?_ _)); refine blk_far ?_ NB469_489.out _; (with_reducible repeat (first | refine blk_drewN ?_ _ | refine blk_drew ?_ | refine blk_alloc ?_ _)); refine blk_far ?_ NB469_489.out _; (with_reducible repeat (first | refine blk_drewN ?_ _ | refine blk_drew ?_ | refine blk_alloc ?_ _)); exact BK469.out); (try simp only [Act.put, List.setIfInBounds_toArray, List.set_cons_zero, List.set_cons_succ])) | (refine ldg gb470 ?_; refine ldw gb470 (cs := #[.string t467, .string t468]) (ty := 33) ?_ (by (with_reducible repeat (first | refine blk_drewN ?_ _ | refine blk_drew ?_ | refine blk_alloc ?_ _)); refine blk_far ?_ NB470_489.out _; (with_reducible repeat (first | refine blk_drewN ?_ _ | refine blk_drew ?_ | refine blk_alloc ?_ _)); refine blk_far ?_ NB470_489.out _; (with_reducible repeat (first | refine blk_drewN ?_ _ | refine blk_drew ?_ | refine blk_alloc ?_ _)); refine blk_far ?_ NB470_489.out _; (with_reducible repeat (first | refine blk_drewN ?_ _ | refine blk_drew ?_ | refine blk_alloc ?_ _)); exact BK470.out); (try simp only [Act.put, List.setIfInBounds_toArray, List.set_cons_zero, List.set_cons_succ])) | (refine ldg gb475 ?_; refine ldw gb475 (cs := #[.string t471, .string t472, .int .i64 t473]) (ty := 27) ?_ (by (with_reducible repeat (first | refine blk_drewN ?_ _ | refine blk_drew ?_ | refine blk_alloc ?_ _)); refine blk_far ?_ NB475_489.out _; (with_reducible repeat (first | refine blk_drewN ?_ _ | refine blk_drew ?_ | refine blk_alloc ?_ _)); refine blk_far ?_ NB475_489.out _; (with_reducible repeat (first | refine blk_drewN ?_ _ | refine blk_drew ?_ | refine blk_alloc ?_ _)); refine blk_far ?_ NB475_489.out _; (with_reducible repeat (first | refine blk_drewN ?_ _ | refine blk_drew ?_ | refine blk_alloc ?_ _)); exact BK475.out); (try simp only [Act.put, List.setIfInBounds_toArray, List.set_cons_zero, List.set_cons_succ])) | (refine ldg gb480 ?_; refine ldw gb480 (cs := #[.string t476, .string t477, .int .i64 t478]) (ty := 27) ?_ (by (with_reducible repeat (first | refine blk_drewN ?_ _ | refine blk_drew ?_ | refine blk_alloc ?_ _)); refine blk_far ?_ NB480_489.out _; (with_reducible repeat (first | refine blk_drewN ?_ _ | refine blk_drew ?_ | refine blk_alloc ?_ _)); refine blk_far ?_ NB480_489.out _; (with_reducible repeat (first | refine blk_drewN ?_ _ | refine blk_drew ?_ | refine blk_alloc ?_ _)); refine blk_far ?_ NB480_489.out _; (with_reducible repeat (first | refine blk_drewN ?_ _ | refine blk_drew ?_ | refine blk_alloc ?_ _)); exact BK480.out); (try simp only [Act.put, List.setIfInBounds_toArray, List.set_cons_zero, List.set_cons_succ])) | (refine ldg gb489 ?_; refine ldw gb489 (cs := #[.string t485, .string t486, .int .i64 t487]) (ty := 27) ?_ (by (with_reducible repeat (first | refine blk_drewN ?_ _ | refine blk_drew ?_ | refine blk_alloc ?_ _)); refine blk_put (cs := #[.string t485, .string t486, .int .i64 0]) ?_ 2 _ rfl; (with_reducible repeat (first | refine blk_drewN ?_ _ | refine blk_drew ?_ | refine blk_alloc ?_ _)); refine blk_put (cs := #[.string t485, .string (⟨#[]⟩ : ByteArray), .int .i64 0]) ?_ 1 _ rfl; (with_reducible repeat (first | refine blk_drewN ?_ _ | refine blk_drew ?_ | refine blk_alloc ?_ _)); refine blk_put (cs := #[.string (⟨#[]⟩ : ByteArray), .string (⟨#[]⟩ : ByteArray), .int .i64 0]) ?_ 0 _ rfl; (with_reducible repeat (first | refine blk_drewN ?_ _ | refine blk_drew ?_ | refine blk_alloc ?_ _)); exact BK489.out); (try simp only [Act.put, List.setIfInBounds_toArray, List.set_cons_zero, List.set_cons_succ])) | (refine ldg gb460 ?_; refine ldw gb460 (cs := #[.string t457, .string t458, .int .i64 t459]) (ty := 27) ?_ (by (with_reducible repeat (first | refine blk_drewN ?_ _ | refine blk_drew ?_ | refine blk_alloc ?_ _)); refine blk_far ?_ NB460_494.out _; (with_reducible repeat (first | refine blk_drewN ?_ _ | refine blk_drew ?_ | refine blk_alloc ?_ _)); refine blk_far ?_ NB460_494.out _; (with_reducible repeat (first | refine blk_drewN ?_ _ | refine blk_drew ?_ | refine blk_alloc ?_ _)); refine blk_far ?_ NB460_494.out _; (with_reducible repeat (first | refine blk_drewN ?_ _ | refine blk_drew ?_ | refine blk_alloc ?_ _)); exact BK460.out); (try simp only [Act.put, List.setIfInBounds_toArray, List.set_cons_zero, List.set_cons_succ])) | (refine ldg gb469 ?_; refine ldw gb469 (cs := #[.string t464, .string t465, .int .i64 t466]) (ty := 27) ?_ (by (with_reducible repeat (first | refine blk_drewN ?_ _ | refine blk_drew ?_ | refine blk_alloc ?_ _)); refine blk_far ?_ NB469_494.out _; (with_reducible repeat (first | refine blk_drewN ?_ _ | refine blk_drew ?_ | refine blk_alloc ?_ _)); refine blk_far ?_ NB469_494.out _; (with_reducible repeat (first | refine blk_drewN ?_ _ | refine blk_drew ?_ | refine blk_alloc ?_ _)); refine blk_far ?_ NB469_494.out _; (with_reducible repeat (first | refine blk_drewN ?_ _ | refine blk_drew ?_ | refine blk_alloc ?_ _)); exact BK469.out); (try simp only [Act.put, List.setIfInBounds_toArray, List.set_cons_zero, List.set_cons_succ])) | (refine ldg gb475 ?_; refine ldw gb475 (cs := #[.string t471, .string t472, .int .i64 t473]) (ty := 27) ?_ (by (with_reducible repeat (first | refine blk_drewN ?_ _ | refine blk_drew ?_ | refine blk_alloc ?_ _)); refine blk_far ?_ NB475_494.out _; (with_reducible repeat (first | refine blk_drewN ?_ _ | refine blk_drew ?_ | refine blk_alloc ?_ _)); refine blk_far ?_ NB475_494.out _; (with_reducible repeat (first | refine blk_drewN ?_ _ | refine blk_drew ?_ | refine blk_alloc ?_ _)); refine blk_far ?_ NB475_494.out _; (with_reducible repeat (first | refine blk_drewN ?_ _ | refine blk_drew ?_ | refine blk_alloc ?_ _)); exact BK475.out); (try simp only [Act.put, List.setIfInBounds_toArray, List.set_cons_zero, List.set_cons_succ])) | (refine ldg gb480 ?_; refine ldw gb480 (cs := #[.string t476, .string t477, .int .i64 t478]) (ty := 27) ?_ (by (with_reducible repeat (first | refine blk_drewN ?_ _ | refine blk_drew ?_ | refine blk_alloc ?_ _)); refine blk_far ?_ NB480_494.out _; (with_reducible repeat (first | refine blk_drewN ?_ _ | refine blk_drew ?_ | refine blk_alloc ?_ _)); refine blk_far ?_ NB480_494.out _; (with_reducible repeat (first | refine blk_drewN ?_ _ | refine blk_drew ?_ | refine blk_alloc ?_ _)); refine blk_far ?_ NB480_494.out _; (with_reducible repeat (first | refine blk_drewN ?_ _ | refine blk_drew ?_ | refine blk_alloc ?_ _)); exact BK480.out); (try simp only [Act.put, List.setIfInBounds_toArray, List.set_cons_zero, List.set_cons_succ])) | (refine ldg gb489 ?_; refine ldw gb489 (cs := #[.string t485, .string t486, .int .i64 t487]) (ty := 27) ?_ (by (with_reducible repeat (first | refine blk_drewN ?_ _ | refine blk_drew ?_ | refine blk_alloc ?_ _)); refine blk_far ?_ NB489_494.out _; (with_reducible repeat (first | refine blk_drewN ?_ _ | refine blk_drew ?_ | refine blk_alloc ?_ _)); refine blk_far ?_ NB489_494.out _; (with_reducible repeat (first | refine blk_drewN ?_ _ | refine blk_drew ?_ | refine blk_alloc ?_ _)); refine blk_far ?_ NB489_494.out _; (with_reducible repeat (first | refine blk_drewN ?_ _ | refine blk_drew ?_ | refine blk_alloc ?_ _)); exact BK489.out); (try simp only [Act.put, List.setIfInBounds_toArray, List.set_cons_zero, List.set_cons_succ])) | (refine ldg gb494 ?_; refine ldw gb494 (cs := #[.string t490, .string t491, .int .i64 t492]) (ty := 27) ?_ (by (with_reducible repeat (first | refine blk_drewN ?_ _ | refine blk_drew ?_ | refine blk_alloc ?_ _)); refine blk_put (cs := #[.string t490, .string t491, .int .i64 0]) ?_ 2 _ rfl; (with_reducible repeat (first | refine blk_drewN ?_ _ | refine blk_drew ?_ | refine blk_alloc ?_ _)); refine blk_put (cs := #[.string t490, .string (⟨#[]⟩ : ByteArray), .int .i64 0]) ?_ 1 _ rfl; (with_reducible repeat (first | refine blk_drewN ?_ _ | refine blk_drew ?_ | refine blk_alloc ?_ _)); refine blk_put (cs := #[.string (⟨#[]⟩ : ByteArray), .string (⟨#[]⟩ : ByteArray), .int .i64 0]) ?_ 0 _ rfl; (with_reducible repeat (first | refine blk_drewN ?_ _ | refine blk_drew ?_ | refine blk_alloc ?_ _)); exact BK494.out); (try simp only [Act.put, List.setIfInBounds_toArray, List.set_cons_zero, List.set_cons_succ])) | (refine ldg gb442 ?_; refine ldw gb442 ?_ BK442.out; (try simp only [Act.put, List.setIfInBounds_toArray, List.set_cons_zero, List.set_cons_succ])) | (refine ldg gb449 ?_; refine ldw gb449 ?_ BK449.out; (try simp only [Act.put, List.setIfInBounds_toArray, List.set_cons_zero, List.set_cons_succ])) | (refine ldg gb460 ?_; refine ldw gb460 ?_ BK460.out; (try simp only [Act.put, List.setIfInBounds_toArray, List.set_cons_zero, List.set_cons_succ])) | (refine ldg gb469 ?_; refine ldw gb469 ?_ BK469.out; (try simp only [Act.put, List.setIfInBounds_toArray, List.set_cons_zero, List.set_cons_succ])) | (refine ldg gb470 ?_; refine ldw gb470 ?_ BK470.out; (try simp only [Act.put, List.setIfInBounds_toArray, List.set_cons_zero, List.set_cons_succ])) | (refine ldg gb475 ?_; refine ldw gb475 ?_ BK475.out; (try simp only [Act.put, List.setIfInBounds_toArray, List.set_cons_zero, List.set_cons_succ])) | (refine ldg gb480 ?_; refine ldw gb480 ?_ BK480.out; (try simp only [Act.put, List.setIfInBounds_toArray, List.set_cons_zero, List.set_cons_succ])) | (refine ldg gb489 ?_; refine ldw gb489 ?_ BK489.out; (try simp only [Act.put, List.setIfInBounds_toArray, List.set_cons_zero, List.set_cons_succ])) | (refine ldg gb494 ?_; refine ldw gb494 ?_ BK494.out; (try simp only [Act.put, List.setIfInBounds_toArray, List.set_cons_zero, List.set_cons_succ])) | (refine gd 106 24 ?_; refine gc 106 Tryd.func24 #[.agg #[.string t464, .string t465, .int .i64 t466]] (impl_SyncLog.calls kj14 t464 t465 t466 t485 t486 t487 t488 _ (GL.below HG.out ax234) A108.out) ?_; rintro e w120 ⟨rfl, hb⟩; refine ⟨_, rfl, ?_⟩; replace BK442 := ub BK442 hb; replace BK449 := ub BK449 hb; replace BK460 := ub BK460 hb; replace BK469 := ub BK469 hb; replace BK470 := ub BK470 hb; replace BK475 := ub BK475 hb; replace BK480 := ub BK480 hb; replace HB := Aside0.mk (below_step ax234 hb); (try clear hb); (try clear hb2); (try clear hk); (try clear hi)) | ((with_reducible refine gate_dst (N := 17) rfl ?_); (try (refine gate_guard (by rfl) ?_; dsimp only)); refine box_event ?hg (N := 17) ?hd (cs := #[.string (⟨#[]⟩ : ByteArray), .string (⟨#[]⟩ : ByteArray), .int .i64 0]) (t := 27) ?hr ?_; (case hd => rfl); (case hg => rfl); (case hr => exact ax9); intro gb489 hg w121 hbox hb; have BK489 := Aside0.mk (hbox); have GW489 := Aside0.mk ((ax243 : w.heap.size ≤ gb489)); have GE489 := Aside0.mk ((ax243 : w.heap.size ≤ gb489)); replace HB := Aside0.mk (below_step ax234 hb); have NB442_489 := uN hg BK442; have NB489_442 := uM hg BK442; replace BK442 := ub BK442 hb; have NB449_489 := uN hg BK449; have NB489_449 := uM hg BK449; replace BK449 := ub BK449 hb; have NB460_489 := uN hg BK460; have NB489_460 := uM hg BK460; replace BK460 := ub BK460 hb; have NB469_489 := uN hg BK469; have NB489_469 := uM hg BK469; replace BK469 := ub BK469 hb; have NB470_489 := uN hg BK470; have NB489_470 := uM hg BK470; replace BK470 := ub BK470 hb; have NB475_489 := uN hg BK475; have NB489_475 := uM hg BK475; replace BK475 := ub BK475 hb; have NB480_489 := uN hg BK480; have NB489_480 := uM hg BK480; replace BK480 := ub BK480 hb; clear hb hbox hg; have hnb122 := NB489_442.out; have hnc122 := NB442_489.out; have hnb123 := NB489_449.out; have hnc123 := NB449_489.out; have hnb124 := NB489_460.out; have hnc124 := NB460_489.out; have hnb125 := NB489_469.out; have hnc125 := NB469_489.out; have hnb126 := NB489_470.out; have hnc126 := NB470_489.out; have hnb127 := NB489_475.out; have hnc127 := NB475_489.out; have hnb128 := NB489_480.out; have hnc128 := NB480_489.out; have hcz129_0 := bc (.string (⟨#[]⟩ : ByteArray)) BK489 0; have hcz129_1 := bc (.string (⟨#[]⟩ : ByteArray)) BK489 1; have hcz129_2 := bc (.int .i64 0) BK489 2; have hfz129_0 := blk_frozen BK489.out 0; have hfz129_1 := blk_frozen BK489.out 1; have hfz129_2 := blk_frozen BK489.out 2; have hcz130_0 := bc (.string t464) BK469 0; have hcz130_1 := bc (.string t465) BK469 1; have hcz130_2 := bc (.int .i64 t466) BK469 2; have hfz130_0 := blk_frozen BK469.out 0; have hfz130_1 := blk_frozen BK469.out 1; have hfz130_2 := blk_frozen BK469.out 2) | (refine gd 111 25 ?_; refine gc 111 Tryd.func25 #[.agg #[.string t464, .string t465, .int .i64 t466]] (spec_SyncLog.calls kj14 t464 t465 t466 t490 t491 t492 t493 _ A109.out) ?_; rintro e w131 ⟨rfl, hb⟩; refine ⟨_, rfl, ?_⟩; replace BK442 := Aside0.mk (blk_below (g := gb442) (o := .cells #[.string t440, .string t441] 33 (0, 0)) (by (with_reducible repeat (first | refine blk_drewN ?_ _ | refine blk_drew ?_ | refine blk_alloc ?_ _)); refine blk_far ?_ NB442_489.out _; (with_reducible repeat (first | refine blk_drewN ?_ _ | refine blk_drew ?_ | refine blk_alloc ?_ _)); refine blk_far ?_ NB442_489.out _; (with_reducible repeat (first | refine blk_drewN ?_ _ | refine blk_drew ?_ | refine blk_alloc ?_ _)); refine blk_far ?_ NB442_489.out _; (with_reducible repeat (first | refine blk_drewN ?_ _ | refine blk_drew ?_ | refine blk_alloc ?_ _)); exact BK442.out) hb); replace BK449 := Aside0.mk (blk_below (g := gb449) (o := .cells #[.string t447, .string t448] 33 (0, 0)) (by (with_reducible repeat (first | refine blk_drewN ?_ _ | refine blk_drew ?_ | refine blk_alloc ?_ _)); refine blk_far ?_ NB449_489.out _; (with_reducible repeat (first | refine blk_drewN ?_ _ | refine blk_drew ?_ | refine blk_alloc ?_ _)); refine blk_far ?_ NB449_489.out _; (with_reducible repeat (first | refine blk_drewN ?_ _ | refine blk_drew ?_ | refine blk_alloc ?_ _)); refine blk_far ?_ NB449_489.out _; (with_reducible repeat (first | refine blk_drewN ?_ _ | refine blk_drew ?_ | refine blk_alloc ?_ _)); exact BK449.out) hb); replace BK460 := Aside0.mk (blk_below (g := gb460) (o := .cells #[.string t457, .string t458, .int .i64 t459] 27 (0, 0)) (by (with_reducible repeat (first | refine blk_drewN ?_ _ | refine blk_drew ?_ | refine blk_alloc ?_ _)); refine blk_far ?_ NB460_489.out _; (with_reducible repeat (first | refine blk_drewN ?_ _ | refine blk_drew ?_ | refine blk_alloc ?_ _)); refine blk_far ?_ NB460_489.out _; (with_reducible repeat (first | refine blk_drewN ?_ _ | refine blk_drew ?_ | refine blk_alloc ?_ _)); refine blk_far ?_ NB460_489.out _; (with_reducible repeat (first | refine blk_drewN ?_ _ | refine blk_drew ?_ | refine blk_alloc ?_ _)); exact BK460.out) hb); replace BK469 := Aside0.mk (blk_below (g := gb469) (o := .cells #[.string t464, .string t465, .int .i64 t466] 27 (0, 0)) (by (with_reducible repeat (first | refine blk_drewN ?_ _ | refine blk_drew ?_ | refine blk_alloc ?_ _)); refine blk_far ?_ NB469_489.out _; (with_reducible repeat (first | refine blk_drewN ?_ _ | refine blk_drew ?_ | refine blk_alloc ?_ _)); refine blk_far ?_ NB469_489.out _; (with_reducible repeat (first | refine blk_drewN ?_ _ | refine blk_drew ?_ | refine blk_alloc ?_ _)); refine blk_far ?_ NB469_489.out _; (with_reducible repeat (first | refine blk_drewN ?_ _ | refine blk_drew ?_ | refine blk_alloc ?_ _)); exact BK469.out) hb); replace BK470 := Aside0.mk (blk_below (g := gb470) (o := .cells #[.string t467, .string t468] 33 (0, 0)) (by (with_reducible repeat (first | refine blk_drewN ?_ _ | refine blk_drew ?_ | refine blk_alloc ?_ _)); refine blk_far ?_ NB470_489.out _; (with_reducible repeat (first | refine blk_drewN ?_ _ | refine blk_drew ?_ | refine blk_alloc ?_ _)); refine blk_far ?_ NB470_489.out _; (with_reducible repeat (first | refine blk_drewN ?_ _ | refine blk_drew ?_ | refine blk_alloc ?_ _)); refine blk_far ?_ NB470_489.out _; (with_reducible repeat (first | refine blk_drewN ?_ _ | refine blk_drew ?_ | refine blk_alloc ?_ _)); exact BK470.out) hb); replace BK475 := Aside0.mk (blk_below (g := gb475) (o := .cells #[.string t471, .string t472, .int .i64 t473] 27 (0, 0)) (by (with_reducible repeat (first | refine blk_drewN ?_ _ | refine blk_drew ?_ | refine blk_alloc ?_ _)); refine blk_far ?_ NB475_489.out _; (with_reducible repeat (first | refine blk_drewN ?_ _ | refine blk_drew ?_ | refine blk_alloc ?_ _)); refine blk_far ?_ NB475_489.out _; (with_reducible repeat (first | refine blk_drewN ?_ _ | refine blk_drew ?_ | refine blk_alloc ?_ _)); refine blk_far ?_ NB475_489.out _; (with_reducible repeat (first | refine blk_drewN ?_ _ | refine blk_drew ?_ | refine blk_alloc ?_ _)); exact BK475.out) hb); replace BK480 := Aside0.mk (blk_below (g := gb480) (o := .cells #[.string t476, .string t477, .int .i64 t478] 27 (0, 0)) (by (with_reducible repeat (first | refine blk_drewN ?_ _ | refine blk_drew ?_ | refine blk_alloc ?_ _)); refine blk_far ?_ NB480_489.out _; (with_reducible repeat (first | refine blk_drewN ?_ _ | refine blk_drew ?_ | refine blk_alloc ?_ _)); refine blk_far ?_ NB480_489.out _; (with_reducible repeat (first | refine blk_drewN ?_ _ | refine blk_drew ?_ | refine blk_alloc ?_ _)); refine blk_far ?_ NB480_489.out _; (with_reducible repeat (first | refine blk_drewN ?_ _ | refine blk_drew ?_ | refine blk_alloc ?_ _)); exact BK480.out) hb); replace BK489 := Aside0.mk (blk_below (g := gb489) (o := .cells #[.string t485, .string t486, .int .i64 t487] 27 (0, 0)) (by (with_reducible repeat (first | refine blk_drewN ?_ _ | refine blk_drew ?_ | refine blk_alloc ?_ _)); refine blk_put (cs := #[.string t485, .string t486, .int .i64 0]) ?_ 2 _ rfl; (with_reducible repeat (first | refine blk_drewN ?_ _ | refine blk_drew ?_ | refine blk_alloc ?_ _)); refine blk_put (cs := #[.string t485, .string (⟨#[]⟩ : ByteArray), .int .i64 0]) ?_ 1 _ rfl; (with_reducible repeat (first | refine blk_drewN ?_ _ | refine blk_drew ?_ | refine blk_alloc ?_ _)); refine blk_put (cs := #[.string (⟨#[]⟩ : ByteArray), .string (⟨#[]⟩ : ByteArray), .int .i64 0]) ?_ 0 _ rfl; (with_reducible repeat (first | refine blk_drewN ?_ _ | refine blk_drew ?_ | refine blk_alloc ?_ _)); exact BK489.out) hb); replace HB := Aside0.mk (below_step ax244 hb); (try clear hb); (try clear hb2); (try clear hk); (try clear hi)) | ((with_reducible refine gate_dst (N := 19) rfl ?_); (try (refine gate_guard (by rfl) ?_; dsimp only)); refine box_event ?hg (N := 19) ?hd (cs := #[.string (⟨#[]⟩ : ByteArray), .string (⟨#[]⟩ : ByteArray), .int .i64 0]) (t := 27) ?hr ?_; (case hd => rfl); (case hg => rfl); (case hr => exact ax9); intro gb494 hg w132 hbox hb; have BK494 := Aside0.mk (hbox); have GW494 := Aside0.mk ((ax245 : w.heap.size ≤ gb494)); have GE494 := Aside0.mk ((ax245 : w.heap.size ≤ gb494)); replace HB := Aside0.mk (below_step ax244 hb); have NB442_494 := uN hg BK442; have NB494_442 := uM hg BK442; replace BK442 := ub BK442 hb; have NB449_494 := uN hg BK449; have NB494_449 := uM hg BK449; replace BK449 := ub BK449 hb; have NB460_494 := uN hg BK460; have NB494_460 := uM hg BK460; replace BK460 := ub BK460 hb; have NB469_494 := uN hg BK469; have NB494_469 := uM hg BK469; replace BK469 := ub BK469 hb; have NB470_494 := uN hg BK470; have NB494_470 := uM hg BK470; replace BK470 := ub BK470 hb; have NB475_494 := uN hg BK475; have NB494_475 := uM hg BK475; replace BK475 := ub BK475 hb; have NB480_494 := uN hg BK480; have NB494_480 := uM hg BK480; replace BK480 := ub BK480 hb; have NB489_494 := uN hg BK489; have NB494_489 := uM hg BK489; replace BK489 := ub BK489 hb; clear hb hbox hg; have hnb133 := NB494_442.out; have hnc133 := NB442_494.out; have hnb134 := NB494_449.out; have hnc134 := NB449_494.out; have hnb135 := NB494_460.out; have hnc135 := NB460_494.out; have hnb136 := NB494_469.out; have hnc136 := NB469_494.out; have hnb137 := NB494_470.out; have hnc137 := NB470_494.out; have hnb138 := NB494_475.out; have hnc138 := NB475_494.out; have hnb139 := NB494_480.out; have hnc139 := NB480_494.out; have hnb140 := NB494_489.out; have hnc140 := NB489_494.out; have hcz141_0 := bc (.string (⟨#[]⟩ : ByteArray)) BK494 0; have hcz141_1 := bc (.string (⟨#[]⟩ : ByteArray)) BK494 1; have hcz141_2 := bc (.int .i64 0) BK494 2; have hfz141_0 := blk_frozen BK494.out 0; have hfz141_1 := blk_frozen BK494.out 1; have hfz141_2 := blk_frozen BK494.out 2; have hcz142_0 := bc (.string t464) BK469 0; have hcz142_1 := bc (.string t465) BK469 1; have hcz142_2 := bc (.int .i64 t466) BK469 2; have hfz142_0 := blk_frozen BK469.out 0; have hfz142_1 := blk_frozen BK469.out 1; have hfz142_2 := blk_frozen BK469.out 2) | (refine gd 116 26 ?_; refine gc 116 Tryd.func26 #[.agg #[.string t464, .string t465, .int .i64 t466]] (impl_LogRecords.calls kj14 t464 t465 t466 t495 t498 _ (GL.below HG.out ax246) A110.out) ?_; rintro e w143 ⟨v496, rfl, ho0, hb⟩; refine ⟨_, rfl, ?_⟩; have HO497 := Aside0.mk (Kd.R_lower (Kd.R_newB (Kd.R_newB (Kd.R_newB ho0 (g := gb442) (o := .cells #[.string t440, .string t441] 33 (0, 0)) ax247) (g := gb449) (o := .cells #[.string t447, .string t448] 33 (0, 0)) ax248) (g := gb470) (o := .cells #[.string t467, .string t468] 33 (0, 0)) ax249) (below_size ax246)); replace BK442 := Aside0.mk (blk_below (g := gb442) (o := .cells #[.string t440, .string t441] 33 (0, 0)) ax247 hb); replace BK449 := Aside0.mk (blk_below (g := gb449) (o := .cells #[.string t447, .string t448] 33 (0, 0)) ax248 hb); replace BK460 := Aside0.mk (blk_below (g := gb460) (o := .cells #[.string t457, .string t458, .int .i64 t459] 27 (0, 0)) (by (with_reducible repeat (first | refine blk_drewN ?_ _ | refine blk_drew ?_ | refine blk_alloc ?_ _)); refine blk_far ?_ NB460_494.out _; (with_reducible repeat (first | refine blk_drewN ?_ _ | refine blk_drew ?_ | refine blk_alloc ?_ _)); refine blk_far ?_ NB460_494.out _; (with_reducible repeat (first | refine blk_drewN ?_ _ | refine blk_drew ?_ | refine blk_alloc ?_ _)); refine blk_far ?_ NB460_494.out _; (with_reducible repeat (first | refine blk_drewN ?_ _ | refine blk_drew ?_ | refine blk_alloc ?_ _)); exact BK460.out) hb); replace BK469 := Aside0.mk (blk_below (g := gb469) (o := .cells #[.string t464, .string t465, .int .i64 t466] 27 (0, 0)) (by (with_reducible repeat (first | refine blk_drewN ?_ _ | refine blk_drew ?_ | refine blk_alloc ?_ _)); refine blk_far ?_ NB469_494.out _; (with_reducible repeat (first | refine blk_drewN ?_ _ | refine blk_drew ?_ | refine blk_alloc ?_ _)); refine blk_far ?_ NB469_494.out _; (with_reducible repeat (first | refine blk_drewN ?_ _ | refine blk_drew ?_ | refine blk_alloc ?_ _)); refine blk_far ?_ NB469_494.out _; (with_reducible repeat (first | refine blk_drewN ?_ _ | refine blk_drew ?_ | refine blk_alloc ?_ _)); exact BK469.out) hb); replace BK470 := Aside0.mk (blk_below (g := gb470) (o := .cells #[.string t467, .string t468] 33 (0, 0)) ax249 hb); replace BK475 := Aside0.mk (blk_below (g := gb475) (o := .cells #[.string t471, .string t472, .int .i64 t473] 27 (0, 0)) (by (with_reducible repeat (first | refine blk_drewN ?_ _ | refine blk_drew ?_ | refine blk_alloc ?_ _)); refine blk_far ?_ NB475_494.out _; (with_reducible repeat (first | refine blk_drewN ?_ _ | refine blk_drew ?_ | refine blk_alloc ?_ _)); refine blk_far ?_ NB475_494.out _; (with_reducible repeat (first | refine blk_drewN ?_ _ | refine blk_drew ?_ | refine blk_alloc ?_ _)); refine blk_far ?_ NB475_494.out _; (with_reducible repeat (first | refine blk_drewN ?_ _ | refine blk_drew ?_ | refine blk_alloc ?_ _)); exact BK475.out) hb); replace BK480 := Aside0.mk (blk_below (g := gb480) (o := .cells #[.string t476, .string t477, .int .i64 t478] 27 (0, 0)) (by (with_reducible repeat (first | refine blk_drewN ?_ _ | refine blk_drew ?_ | refine blk_alloc ?_ _)); refine blk_far ?_ NB480_494.out _; (with_reducible repeat (first | refine blk_drewN ?_ _ | refine blk_drew ?_ | refine blk_alloc ?_ _)); refine blk_far ?_ NB480_494.out _; (with_reducible repeat (first | refine blk_drewN ?_ _ | refine blk_drew ?_ | refine blk_alloc ?_ _)); refine blk_far ?_ NB480_494.out _; (with_reducible repeat (first | refine blk_drewN ?_ _ | refine blk_drew ?_ | refine blk_alloc ?_ _)); exact BK480.out) hb); replace BK489 := Aside0.mk (blk_below (g := gb489) (o := .cells #[.string t485, .string t486, .int .i64 t487] 27 (0, 0)) (by (with_reducible repeat (first | refine blk_drewN ?_ _ | refine blk_drew ?_ | refine blk_alloc ?_ _)); refine blk_far ?_ NB489_494.out _; (with_reducible repeat (first | refine blk_drewN ?_ _ | refine blk_drew ?_ | refine blk_alloc ?_ _)); refine blk_far ?_ NB489_494.out _; (with_reducible repeat (first | refine blk_drewN ?_ _ | refine blk_drew ?_ | refine blk_alloc ?_ _)); refine blk_far ?_ NB489_494.out _; (with_reducible repeat (first | refine blk_drewN ?_ _ | refine blk_drew ?_ | refine blk_alloc ?_ _)); exact BK489.out) hb); replace BK494 := Aside0.mk (blk_below (g := gb494) (o := .cells #[.string t490, .string t491, .int .i64 t492] 27 (0, 0)) (by (with_reducible repeat (first | refine blk_drewN ?_ _ | refine blk_drew ?_ | refine blk_alloc ?_ _)); refine blk_put (cs := #[.string t490, .string t491, .int .i64 0]) ?_ 2 _ rfl; (with_reducible repeat (first | refine blk_drewN ?_ _ | refine blk_drew ?_ | refine blk_alloc ?_ _)); refine blk_put (cs := #[.string t490, .string (⟨#[]⟩ : ByteArray), .int .i64 0]) ?_ 1 _ rfl; (with_reducible repeat (first | refine blk_drewN ?_ _ | refine blk_drew ?_ | refine blk_alloc ?_ _)); refine blk_put (cs := #[.string (⟨#[]⟩ : ByteArray), .string (⟨#[]⟩ : ByteArray), .int .i64 0]) ?_ 0 _ rfl; (with_reducible repeat (first | refine blk_drewN ?_ _ | refine blk_drew ?_ | refine blk_alloc ?_ _)); exact BK494.out) hb); replace HB := Aside0.mk (below_step ax246 hb); (try clear hb); (try clear hb2); (try clear hk); (try clear hi); (try clear ho0); have hcz144_0 := bc (.string t464) BK469 0; have hcz144_1 := bc (.string t465) BK469 1; have hcz144_2 := bc (.int .i64 t466) BK469 2; have hfz144_0 := blk_frozen BK469.out 0; have hfz144_1 := blk_frozen BK469.out 1; have hfz144_2 := blk_frozen BK469.out 2) | (refine gd 121 27 ?_; refine gc 121 Tryd.func27 #[.agg #[.string t464, .string t465, .int .i64 t466]] (spec_LogRecords.calls kj14 t464 t465 t466 t499 t502 _ A111.out) ?_; rintro e w145 ⟨v500, rfl, ho0, hb⟩; refine ⟨_, rfl, ?_⟩; have HO501 := Aside0.mk (Kd.R_lower (Kd.R_newB (Kd.R_newB (Kd.R_newB (Kd.R_new' ho0 (Kd.R_lt ax250)) (g := gb442) (o := .cells #[.string t440, .string t441] 33 (0, 0)) ax235) (g := gb449) (o := .cells #[.string t447, .string t448] 33 (0, 0)) ax236) (g := gb470) (o := .cells #[.string t467, .string t468] 33 (0, 0)) ax239) (below_size ax246)); replace HO497 := Aside0.mk (Kd.R_elder' ax250 (Kd.R_base ho0) hb); replace BK442 := ub BK442 hb; replace BK449 := ub BK449 hb; replace BK460 := ub BK460 hb; replace BK469 := ub BK469 hb; replace BK470 := ub BK470 hb; replace BK475 := ub BK475 hb; replace BK480 := ub BK480 hb; replace BK489 := ub BK489 hb; replace BK494 := ub BK494 hb; replace HB := Aside0.mk (below_step ax246 hb); (try clear hb); (try clear hb2); (try clear hk); (try clear hi); (try clear ho0)))
     (try simp only [Act.put, List.setIfInBounds_toArray, List.set_cons_zero, List.set_cons_succ])
     go_cut [142] (fun v142 wc => ∃ (kq : Nat) (x142_111 : Bool), v142 = .bool x142_111 ∧ Aside0 (laws_FnLogs.j1 kq t474 t488 t495 x142_111 t464 t465 t466 t467 t468 t471 t472 t473 t485 t486 t487 = some r) ∧ Aside0 (kq ≤ kj14) ∧ Aside0 (Kd.R k33 33 wc w.heap.size (fun k_ => k_ ≠ gb442 ∧ k_ ≠ gb449 ∧ k_ ≠ gb470) v496 t495) ∧ Aside0 (wc.heap[gb442]? = some (.cells #[.string t440, .string t441] 33 (0, 0))) ∧ Aside0 (wc.heap[gb449]? = some (.cells #[.string t447, .string t448] 33 (0, 0))) ∧ Aside0 (wc.heap[gb460]? = some (.cells #[.string t457, .string t458, .int .i64 t459] 27 (0, 0))) ∧ Aside0 (wc.heap[gb469]? = some (.cells #[.string t464, .string t465, .int .i64 t466] 27 (0, 0))) ∧ Aside0 (wc.heap[gb470]? = some (.cells #[.string t467, .string t468] 33 (0, 0))) ∧ Aside0 (wc.heap[gb475]? = some (.cells #[.string t471, .string t472, .int .i64 t473] 27 (0, 0))) ∧ Aside0 (wc.heap[gb480]? = some (.cells #[.string t476, .string t477, .int .i64 t478] 27 (0, 0))) ∧ Aside0 (wc.heap[gb489]? = some (.cells #[.string t485, .string t486, .int .i64 t487] 27 (0, 0))) ∧ Aside0 (wc.heap[gb494]? = some (.cells #[.string t490, .string t491, .int .i64 t492] 27 (0, 0))) ∧ Aside0 (Below w.heap.size w wc))
     case first =>
      have H := HC112.out; clear HC112
      by_cases c146 : (!(t485.toList == t490.toList) || (!(t486.toList == t491.toList) || (!(t487 == t492)))) = true
      ·rw [if_pos c146] at H
       have c146b0 : (!(t485.toList == t490.toList) || (!(t486.toList == t491.toList) || (!(t487 == t492)))) = true := c146
       clear c146
       (first | rw [c146b0] | (simp only [i64_w, i32_w]; rw [c146b0]) | skip)
       as_aux_lemma =>
        have H' := Aside0.mk H
        clear H; have hnb147 := NB489_442.out; have hnc147 := NB442_489.out; have hnb148 := NB489_449.out; have hnc148 := NB449_489.out; have hnb149 := NB489_460.out; have hnc149 := NB460_489.out; have hnb150 := NB489_469.out; have hnc150 := NB469_489.out; have hnb151 := NB489_470.out; have hnc151 := NB470_489.out; have hnb152 := NB489_475.out; have hnc152 := NB475_489.out; have hnb153 := NB489_480.out; have hnc153 := NB480_489.out; have hnb154 := NB489_494.out; have hnc154 := NB494_489.out; have hcz155_0 := bc (.string t485) BK489 0; have hcz155_1 := bc (.string t486) BK489 1; have hcz155_2 := bc (.int .i64 t487) BK489 2; have hfz155_0 := blk_frozen BK489.out 0; have hfz155_1 := blk_frozen BK489.out 1; have hfz155_2 := blk_frozen BK489.out 2; have hnb156 := NB494_442.out; have hnc156 := NB442_494.out; have hnb157 := NB494_449.out; have hnc157 := NB449_494.out; have hnb158 := NB494_460.out; have hnc158 := NB460_494.out; have hnb159 := NB494_469.out; have hnc159 := NB469_494.out; have hnb160 := NB494_470.out; have hnc160 := NB470_494.out; have hnb161 := NB494_475.out; have hnc161 := NB475_494.out; have hnb162 := NB494_480.out; have hnc162 := NB480_494.out; have hcz163_0 := bc (.string t490) BK494 0; have hcz163_1 := bc (.string t491) BK494 1; have hcz163_2 := bc (.int .i64 t492) BK494 2; have hfz163_0 := blk_frozen BK494.out 0; have hfz163_1 := blk_frozen BK494.out 1; have hfz163_2 := blk_frozen BK494.out 2
        go_wp2
        go_meet
        case rel => exact ⟨_, (true), ax10, H', ⟨ax251⟩, ⟨ax252⟩, ⟨ax235⟩, ⟨ax236⟩, ⟨ax237⟩, ⟨ax238⟩, ⟨ax239⟩, ⟨ax240⟩, ⟨ax241⟩, ⟨ax253⟩, ⟨ax254⟩, ⟨ax246⟩⟩
      ·rw [if_neg c146] at H
       have c146b0 : (!(t485.toList == t490.toList) || (!(t486.toList == t491.toList) || (!(t487 == t492)))) = false := by simpa using c146
       clear c146
       (first | rw [c146b0] | (simp only [i64_w, i32_w]; rw [c146b0]) | skip)
       by_cases c164 : (t488 != t493) = true
       ·rw [if_pos c164] at H
        have c164b0 : (t488 != t493) = true := c164
        (try (have c164b1 : decide (t488 = t493) = false := by simpa using c164))
        (try (have c164b2 : (t488 == t493) = false := by simpa using c164))
        (try (have c164b3 : ¬ (t488 = t493) := by simpa using c164))
        clear c164
        as_aux_lemma =>
         have H' := Aside0.mk H
         clear H; have hnb165 := NB489_442.out; have hnc165 := NB442_489.out; have hnb166 := NB489_449.out; have hnc166 := NB449_489.out; have hnb167 := NB489_460.out; have hnc167 := NB460_489.out; have hnb168 := NB489_469.out; have hnc168 := NB469_489.out; have hnb169 := NB489_470.out; have hnc169 := NB470_489.out; have hnb170 := NB489_475.out; have hnc170 := NB475_489.out; have hnb171 := NB489_480.out; have hnc171 := NB480_489.out; have hnb172 := NB489_494.out; have hnc172 := NB494_489.out; have hcz173_0 := bc (.string t485) BK489 0; have hcz173_1 := bc (.string t486) BK489 1; have hcz173_2 := bc (.int .i64 t487) BK489 2; have hfz173_0 := blk_frozen BK489.out 0; have hfz173_1 := blk_frozen BK489.out 1; have hfz173_2 := blk_frozen BK489.out 2; have hnb174 := NB494_442.out; have hnc174 := NB442_494.out; have hnb175 := NB494_449.out; have hnc175 := NB449_494.out; have hnb176 := NB494_460.out; have hnc176 := NB460_494.out; have hnb177 := NB494_469.out; have hnc177 := NB469_494.out; have hnb178 := NB494_470.out; have hnc178 := NB470_494.out; have hnb179 := NB494_475.out; have hnc179 := NB475_494.out; have hnb180 := NB494_480.out; have hnc180 := NB480_494.out; have hcz181_0 := bc (.string t490) BK494 0; have hcz181_1 := bc (.string t491) BK494 1; have hcz181_2 := bc (.int .i64 t492) BK494 2; have hfz181_0 := blk_frozen BK494.out 0; have hfz181_1 := blk_frozen BK494.out 1; have hfz181_2 := blk_frozen BK494.out 2
         go_wp2
         go_meet
         case rel => exact ⟨_, (true), ax10, H', ⟨ax251⟩, ⟨ax252⟩, ⟨ax235⟩, ⟨ax236⟩, ⟨ax237⟩, ⟨ax238⟩, ⟨ax239⟩, ⟨ax240⟩, ⟨ax241⟩, ⟨ax253⟩, ⟨ax254⟩, ⟨ax246⟩⟩
       ·rw [if_neg c164] at H
        have c164b0 : (t488 != t493) = false := by simpa using c164
        (try (have c164b1 : decide (t488 = t493) = true := by simpa using c164))
        (try (have c164b2 : (t488 == t493) = true := by simpa using c164))
        clear c164
        by_cases c182 : (t498 != t502) = true
        ·rw [if_pos c182] at H
         have c182b0 : (t498 != t502) = true := c182
         (try (have c182b1 : decide (t498 = t502) = false := by simpa using c182))
         (try (have c182b2 : (t498 == t502) = false := by simpa using c182))
         (try (have c182b3 : ¬ (t498 = t502) := by simpa using c182))
         clear c182
         as_aux_lemma =>
          have H' := Aside0.mk H
          clear H; have hnb183 := NB489_442.out; have hnc183 := NB442_489.out; have hnb184 := NB489_449.out; have hnc184 := NB449_489.out; have hnb185 := NB489_460.out; have hnc185 := NB460_489.out; have hnb186 := NB489_469.out; have hnc186 := NB469_489.out; have hnb187 := NB489_470.out; have hnc187 := NB470_489.out; have hnb188 := NB489_475.out; have hnc188 := NB475_489.out; have hnb189 := NB489_480.out; have hnc189 := NB480_489.out; have hnb190 := NB489_494.out; have hnc190 := NB494_489.out; have hcz191_0 := bc (.string t485) BK489 0; have hcz191_1 := bc (.string t486) BK489 1; have hcz191_2 := bc (.int .i64 t487) BK489 2; have hfz191_0 := blk_frozen BK489.out 0; have hfz191_1 := blk_frozen BK489.out 1; have hfz191_2 := blk_frozen BK489.out 2; have hnb192 := NB494_442.out; have hnc192 := NB442_494.out; have hnb193 := NB494_449.out; have hnc193 := NB449_494.out; have hnb194 := NB494_460.out; have hnc194 := NB460_494.out; have hnb195 := NB494_469.out; have hnc195 := NB469_494.out; have hnb196 := NB494_470.out; have hnc196 := NB470_494.out; have hnb197 := NB494_475.out; have hnc197 := NB475_494.out; have hnb198 := NB494_480.out; have hnc198 := NB480_494.out; have hcz199_0 := bc (.string t490) BK494 0; have hcz199_1 := bc (.string t491) BK494 1; have hcz199_2 := bc (.int .i64 t492) BK494 2; have hfz199_0 := blk_frozen BK494.out 0; have hfz199_1 := blk_frozen BK494.out 1; have hfz199_2 := blk_frozen BK494.out 2
          go_wp2
          go_meet
          case rel => exact ⟨_, (true), ax10, H', ⟨ax251⟩, ⟨ax252⟩, ⟨ax235⟩, ⟨ax236⟩, ⟨ax237⟩, ⟨ax238⟩, ⟨ax239⟩, ⟨ax240⟩, ⟨ax241⟩, ⟨ax253⟩, ⟨ax254⟩, ⟨ax246⟩⟩
        ·rw [if_neg c182] at H
         have c182b0 : (t498 != t502) = false := by simpa using c182
         (try (have c182b1 : decide (t498 = t502) = true := by simpa using c182))
         (try (have c182b2 : (t498 == t502) = true := by simpa using c182))
         clear c182
         obtain ⟨t503, A200, H⟩ := bs H
         as_aux_lemma =>
          have H' := Aside0.mk H
          clear H; have hnb201 := NB489_442.out; have hnc201 := NB442_489.out; have hnb202 := NB489_449.out; have hnc202 := NB449_489.out; have hnb203 := NB489_460.out; have hnc203 := NB460_489.out; have hnb204 := NB489_469.out; have hnc204 := NB469_489.out; have hnb205 := NB489_470.out; have hnc205 := NB470_489.out; have hnb206 := NB489_475.out; have hnc206 := NB475_489.out; have hnb207 := NB489_480.out; have hnc207 := NB480_489.out; have hnb208 := NB489_494.out; have hnc208 := NB494_489.out; have hcz209_0 := bc (.string t485) BK489 0; have hcz209_1 := bc (.string t486) BK489 1; have hcz209_2 := bc (.int .i64 t487) BK489 2; have hfz209_0 := blk_frozen BK489.out 0; have hfz209_1 := blk_frozen BK489.out 1; have hfz209_2 := blk_frozen BK489.out 2; have hnb210 := NB494_442.out; have hnc210 := NB442_494.out; have hnb211 := NB494_449.out; have hnc211 := NB449_494.out; have hnb212 := NB494_460.out; have hnc212 := NB460_494.out; have hnb213 := NB494_469.out; have hnc213 := NB469_494.out; have hnb214 := NB494_470.out; have hnc214 := NB470_494.out; have hnb215 := NB494_475.out; have hnc215 := NB475_494.out; have hnb216 := NB494_480.out; have hnc216 := NB480_494.out; have hcz217_0 := bc (.string t490) BK494 0; have hcz217_1 := bc (.string t491) BK494 1; have hcz217_2 := bc (.int .i64 t492) BK494 2; have hfz217_0 := blk_frozen BK494.out 0; have hfz217_1 := blk_frozen BK494.out 1; have hfz217_2 := blk_frozen BK494.out 2
          obtain ⟨Ao218, co218, eo218⟩ := Kd.R_slice HO497.out
          subst eo218
          obtain ⟨Ao219, co219, eo219⟩ := Kd.R_slice HO501.out
          subst eo219
          go_wp2_with (first | (refine stg ?_; refine stw ?_; (try simp only [World.setCells, Nat.zero_add, Nat.reduceAdd, Act.put, List.setIfInBounds_toArray, List.set_cons_zero, List.set_cons_succ])) | (go_at_call 28; (with_reducible refine (laws_vRecords.calls kj14 _ _ t495 _ _ t499 t503 _ ?side1 ?side2 ?side3 ?side4 A200.out).mono ?_); (case side1 => repeat (first | exact (Kd.R_reads' HO497.out).2.2 | (with_reducible refine Kd.C_alloc ?_ _) | (with_reducible refine Kd.C_drewN ?_ _) | (with_reducible refine Kd.C_drew ?_))); (case side2 => exact (Kd.R_reads' HO497.out).2.1); (case side3 => repeat (first | exact (Kd.R_reads' HO501.out).2.2 | (with_reducible refine Kd.C_alloc ?_ _) | (with_reducible refine Kd.C_drewN ?_ _) | (with_reducible refine Kd.C_drew ?_))); (case side4 => exact (Kd.R_reads' HO501.out).2.1); rintro e w' ⟨rfl, ⟨nd, rfl⟩⟩))
          go_meet
          case rel => exact ⟨_, (!t503), ax10, H', ⟨ax251⟩, ⟨ax252⟩, ⟨ax235⟩, ⟨ax236⟩, ⟨ax237⟩, ⟨ax238⟩, ⟨ax239⟩, ⟨ax240⟩, ⟨ax241⟩, ⟨ax253⟩, ⟨ax254⟩, ⟨ax246⟩⟩
     case rest =>
      clear HC112
      try clear c1
      try clear c2
      try clear p2
      try clear c7
      try clear c10
      try clear c11
      try clear c12
      try clear c13
      try clear c14
      try clear c15
      try clear c16
      try clear c17
      try clear c18
      try clear c19
      try clear c20
      try clear c21
      try clear c22
      try clear c23
      try clear c24
      try clear c25
      try clear c26
      try clear c27
      try clear c75
      try clear c75b0
      try clear c75b1
      try clear c107
      try clear c113
      try clear c114
      try clear c115
      try clear c116
      try clear c117
      try clear c118
      try clear c122
      try clear c123
      try clear c124
      try clear c125
      try clear c126
      try clear c127
      try clear c128
      try clear c133
      try clear c134
      try clear c135
      try clear c136
      try clear c137
      try clear c138
      try clear c139
      try clear c140
      try clear c146
      try clear c146b0
      try clear c147
      try clear c148
      try clear c149
      try clear c150
      try clear c151
      try clear c152
      try clear c153
      try clear c154
      try clear c156
      try clear c157
      try clear c158
      try clear c159
      try clear c160
      try clear c161
      try clear c162
      try clear c164
      try clear c164b0
      try clear c164b1
      try clear c164b2
      try clear c165
      try clear c166
      try clear c167
      try clear c168
      try clear c169
      try clear c170
      try clear c171
      try clear c172
      try clear c174
      try clear c175
      try clear c176
      try clear c177
      try clear c178
      try clear c179
      try clear c180
      try clear c182
      try clear c182b0
      try clear c182b1
      try clear c182b2
      try clear c183
      try clear c184
      try clear c185
      try clear c186
      try clear c187
      try clear c188
      try clear c189
      try clear c190
      try clear c192
      try clear c193
      try clear c194
      try clear c195
      try clear c196
      try clear c197
      try clear c198
      try clear c201
      try clear c202
      try clear c203
      try clear c204
      try clear c205
      try clear c206
      try clear c207
      try clear c208
      try clear c210
      try clear c211
      try clear c212
      try clear c213
      try clear c214
      try clear c215
      try clear c216
      try clear hcz119_0
      try clear hcz119_1
      try clear hcz119_2
      try clear hcz129_0
      try clear hcz129_1
      try clear hcz129_2
      try clear hcz130_0
      try clear hcz130_1
      try clear hcz130_2
      try clear hcz141_0
      try clear hcz141_1
      try clear hcz141_2
      try clear hcz142_0
      try clear hcz142_1
      try clear hcz142_2
      try clear hcz144_0
      try clear hcz144_1
      try clear hcz144_2
      try clear hcz155_0
      try clear hcz155_1
      try clear hcz155_2
      try clear hcz163_0
      try clear hcz163_1
      try clear hcz163_2
      try clear hcz173_0
      try clear hcz173_1
      try clear hcz173_2
      try clear hcz181_0
      try clear hcz181_1
      try clear hcz181_2
      try clear hcz191_0
      try clear hcz191_1
      try clear hcz191_2
      try clear hcz199_0
      try clear hcz199_1
      try clear hcz199_2
      try clear hcz209_0
      try clear hcz209_1
      try clear hcz209_2
      try clear hcz217_0
      try clear hcz217_1
      try clear hcz217_2
      try clear hfz119_0
      try clear hfz119_1
      try clear hfz119_2
      try clear hfz129_0
      try clear hfz129_1
      try clear hfz129_2
      try clear hfz130_0
      try clear hfz130_1
      try clear hfz130_2
      try clear hfz141_0
      try clear hfz141_1
      try clear hfz141_2
      try clear hfz142_0
      try clear hfz142_1
      try clear hfz142_2
      try clear hfz144_0
      try clear hfz144_1
      try clear hfz144_2
      try clear hfz155_0
      try clear hfz155_1
      try clear hfz155_2
      try clear hfz163_0
      try clear hfz163_1
      try clear hfz163_2
      try clear hfz173_0
      try clear hfz173_1
      try clear hfz173_2
      try clear hfz181_0
      try clear hfz181_1
      try clear hfz181_2
      try clear hfz191_0
      try clear hfz191_1
      try clear hfz191_2
      try clear hfz199_0
      try clear hfz199_1
      try clear hfz199_2
      try clear hfz209_0
      try clear hfz209_1
      try clear hfz209_2
      try clear hfz217_0
      try clear hfz217_1
      try clear hfz217_2
      try clear p2
      obtain ⟨kq, x142_111, rfl, HA, HJ111, HO_21, BK442, BK449, BK460, BK469, BK470, BK475, BK480, BK489, BK494, HB⟩ := hcut
      cases kq with
      | zero => exact absurd HA.out (by simp [laws_FnLogs.j1])
      | succ kj111 =>
       have H := HA.out; clear HA
       simp only [laws_FnLogs.j1] at H
       by_cases c220 : x142_111 = true
       ·subst c220
        rw [if_pos rfl] at H
        as_aux_lemma =>
         exact absurd ((Option.some.inj H).trans HRT.out) (by decide)
       ·replace c220 := Bool.eq_false_iff.mpr c220
        subst c220
        rw [if_neg (show ¬ (false = true) by decide)] at H
        obtain ⟨⟨t504, t507⟩, A221, H⟩ := bs H
        have HC222 := Aside0.mk H; clear H; have hnb223 := NB489_442.out; have hnc223 := NB442_489.out; have hnb224 := NB489_449.out; have hnc224 := NB449_489.out; have hnb225 := NB489_460.out; have hnc225 := NB460_489.out; have hnb226 := NB489_469.out; have hnc226 := NB469_489.out; have hnb227 := NB489_470.out; have hnc227 := NB470_489.out; have hnb228 := NB489_475.out; have hnc228 := NB475_489.out; have hnb229 := NB489_480.out; have hnc229 := NB480_489.out; have hnb230 := NB489_494.out; have hnc230 := NB494_489.out; have hcz231_0 := bc (.string t485) BK489 0; have hcz231_1 := bc (.string t486) BK489 1; have hcz231_2 := bc (.int .i64 t487) BK489 2; have hfz231_0 := blk_frozen BK489.out 0; have hfz231_1 := blk_frozen BK489.out 1; have hfz231_2 := blk_frozen BK489.out 2
        go_upto_region 20 with (first | (refine stg ?_; refine stw ?_; (try simp only [World.setCells, Nat.zero_add, Nat.reduceAdd, Act.put, List.setIfInBounds_toArray, List.set_cons_zero, List.set_cons_succ])) | (refine ldg gb442 ?_; refine ldw gb442 ?_ BK442.out; (try simp only [Act.put, List.setIfInBounds_toArray, List.set_cons_zero, List.set_cons_succ])) | (refine ldg gb449 ?_; refine ldw gb449 ?_ BK449.out; (try simp only [Act.put, List.setIfInBounds_toArray, List.set_cons_zero, List.set_cons_succ])) | (refine ldg gb460 ?_; refine ldw gb460 ?_ BK460.out; (try simp only [Act.put, List.setIfInBounds_toArray, List.set_cons_zero, List.set_cons_succ])) | (refine ldg gb469 ?_; refine ldw gb469 ?_ BK469.out; (try simp only [Act.put, List.setIfInBounds_toArray, List.set_cons_zero, List.set_cons_succ])) | (refine ldg gb470 ?_; refine ldw gb470 ?_ BK470.out; (try simp only [Act.put, List.setIfInBounds_toArray, List.set_cons_zero, List.set_cons_succ])) | (refine ldg gb475 ?_; refine ldw gb475 ?_ BK475.out; (try simp only [Act.put, List.setIfInBounds_toArray, List.set_cons_zero, List.set_cons_succ])) | (refine ldg gb480 ?_; refine ldw gb480 ?_ BK480.out; (try simp only [Act.put, List.setIfInBounds_toArray, List.set_cons_zero, List.set_cons_succ])) | (refine ldg gb489 ?_; refine ldw gb489 ?_ BK489.out; (try simp only [Act.put, List.setIfInBounds_toArray, List.set_cons_zero, List.set_cons_succ])) | (refine ldg gb494 ?_; refine ldw gb494 ?_ BK494.out; (try simp only [Act.put, List.setIfInBounds_toArray, List.set_cons_zero, List.set_cons_succ])) | (refine gd 145 26 ?_; refine gc 145 Tryd.func26 #[.agg #[.string t485, .string t486, .int .i64 t487]] (impl_LogRecords.calls kj111 t485 t486 t487 t504 t507 _ (GL.below HG.out ax246) A221.out) ?_; rintro e w232 ⟨v505, rfl, ho0, hb⟩; refine ⟨_, rfl, ?_⟩; have HO506 := Aside0.mk (Kd.R_lower (Kd.R_newB (Kd.R_newB (Kd.R_newB (Kd.R_new' ho0 (Kd.R_lt ax255)) (g := gb442) (o := .cells #[.string t440, .string t441] 33 (0, 0)) ax235) (g := gb449) (o := .cells #[.string t447, .string t448] 33 (0, 0)) ax236) (g := gb470) (o := .cells #[.string t467, .string t468] 33 (0, 0)) ax239) (below_size ax246)); replace HO_21 := Aside0.mk (Kd.R_elder' ax255 (Kd.R_base ho0) hb); replace BK442 := ub BK442 hb; replace BK449 := ub BK449 hb; replace BK460 := ub BK460 hb; replace BK469 := ub BK469 hb; replace BK470 := ub BK470 hb; replace BK475 := ub BK475 hb; replace BK480 := ub BK480 hb; replace BK489 := ub BK489 hb; replace BK494 := ub BK494 hb; replace HB := Aside0.mk (below_step ax246 hb); (try clear hb); (try clear hb2); (try clear hk); (try clear hi); (try clear ho0)))
        (try simp only [Act.put, List.setIfInBounds_toArray, List.set_cons_zero, List.set_cons_succ])
        go_cut [154] (fun v154 wc => ∃ (kq : Nat) (x154_221 : Bool), v154 = .bool x154_221 ∧ Aside0 (laws_FnLogs.j2 kq t474 t495 x154_221 t464 t465 t466 t467 t468 t471 t472 t473 = some r) ∧ Aside0 (kq ≤ kj111) ∧ Aside0 (Kd.R k33 33 wc w.heap.size (fun k_ => k_ ≠ gb442 ∧ k_ ≠ gb449 ∧ k_ ≠ gb470) v496 t495) ∧ Aside0 (wc.heap[gb442]? = some (.cells #[.string t440, .string t441] 33 (0, 0))) ∧ Aside0 (wc.heap[gb449]? = some (.cells #[.string t447, .string t448] 33 (0, 0))) ∧ Aside0 (wc.heap[gb460]? = some (.cells #[.string t457, .string t458, .int .i64 t459] 27 (0, 0))) ∧ Aside0 (wc.heap[gb469]? = some (.cells #[.string t464, .string t465, .int .i64 t466] 27 (0, 0))) ∧ Aside0 (wc.heap[gb470]? = some (.cells #[.string t467, .string t468] 33 (0, 0))) ∧ Aside0 (wc.heap[gb475]? = some (.cells #[.string t471, .string t472, .int .i64 t473] 27 (0, 0))) ∧ Aside0 (wc.heap[gb480]? = some (.cells #[.string t476, .string t477, .int .i64 t478] 27 (0, 0))) ∧ Aside0 (wc.heap[gb489]? = some (.cells #[.string t485, .string t486, .int .i64 t487] 27 (0, 0))) ∧ Aside0 (wc.heap[gb494]? = some (.cells #[.string t490, .string t491, .int .i64 t492] 27 (0, 0))) ∧ Aside0 (Below w.heap.size w wc))
        case first =>
         have H := HC222.out; clear HC222
         by_cases c233 : t488 = true
         ·subst c233
          rw [if_pos rfl] at H
          obtain ⟨t508, A234, H⟩ := bs H
          as_aux_lemma =>
           have H' := Aside0.mk H
           clear H
           obtain ⟨Ao235, co235, eo235⟩ := Kd.R_slice HO506.out
           subst eo235
           obtain ⟨Ao236, co236, eo236⟩ := Kd.R_slice HO_21.out
           subst eo236
           go_wp2_with (first | (refine stg ?_; refine stw ?_; (try simp only [World.setCells, Nat.zero_add, Nat.reduceAdd, Act.put, List.setIfInBounds_toArray, List.set_cons_zero, List.set_cons_succ])) | (go_at_call 28; (with_reducible refine (laws_vRecords.calls kj111 _ _ t504 _ _ t495 t508 _ ?side1 ?side2 ?side3 ?side4 A234.out).mono ?_); (case side1 => repeat (first | exact (Kd.R_reads' HO506.out).2.2 | (with_reducible refine Kd.C_alloc ?_ _) | (with_reducible refine Kd.C_drewN ?_ _) | (with_reducible refine Kd.C_drew ?_))); (case side2 => exact (Kd.R_reads' HO506.out).2.1); (case side3 => exact ax256); (case side4 => exact (Kd.R_reads' HO_21.out).2.1); rintro e w' ⟨rfl, ⟨nd, rfl⟩⟩))
           go_meet
           case rel => exact ⟨_, (!t508), ax10, H', ⟨ax257⟩, ⟨ax258⟩, ⟨ax235⟩, ⟨ax236⟩, ⟨ax237⟩, ⟨ax238⟩, ⟨ax239⟩, ⟨ax240⟩, ⟨ax241⟩, ⟨ax253⟩, ⟨ax254⟩, ⟨ax246⟩⟩
         ·replace c233 := Bool.eq_false_iff.mpr c233
          subst c233
          rw [if_neg (show ¬ (false = true) by decide)] at H
          as_aux_lemma =>
           have H' := Aside0.mk H
           clear H
           go_wp2
           go_meet
           case rel => exact ⟨_, (false), ax10, H', ⟨ax257⟩, ⟨ax258⟩, ⟨ax235⟩, ⟨ax236⟩, ⟨ax237⟩, ⟨ax238⟩, ⟨ax239⟩, ⟨ax240⟩, ⟨ax241⟩, ⟨ax253⟩, ⟨ax254⟩, ⟨ax246⟩⟩
        case rest =>
         clear HC222
         try clear c1
         try clear c2
         try clear p2
         try clear c7
         try clear c10
         try clear c11
         try clear c12
         try clear c13
         try clear c14
         try clear c15
         try clear c16
         try clear c17
         try clear c18
         try clear c19
         try clear c20
         try clear c21
         try clear c22
         try clear c23
         try clear c24
         try clear c25
         try clear c26
         try clear c27
         try clear c75
         try clear c75b0
         try clear c75b1
         try clear c107
         try clear c113
         try clear c114
         try clear c115
         try clear c116
         try clear c117
         try clear c118
         try clear c122
         try clear c123
         try clear c124
         try clear c125
         try clear c126
         try clear c127
         try clear c128
         try clear c133
         try clear c134
         try clear c135
         try clear c136
         try clear c137
         try clear c138
         try clear c139
         try clear c140
         try clear c146
         try clear c146b0
         try clear c147
         try clear c148
         try clear c149
         try clear c150
         try clear c151
         try clear c152
         try clear c153
         try clear c154
         try clear c156
         try clear c157
         try clear c158
         try clear c159
         try clear c160
         try clear c161
         try clear c162
         try clear c164
         try clear c164b0
         try clear c164b1
         try clear c164b2
         try clear c165
         try clear c166
         try clear c167
         try clear c168
         try clear c169
         try clear c170
         try clear c171
         try clear c172
         try clear c174
         try clear c175
         try clear c176
         try clear c177
         try clear c178
         try clear c179
         try clear c180
         try clear c182
         try clear c182b0
         try clear c182b1
         try clear c182b2
         try clear c183
         try clear c184
         try clear c185
         try clear c186
         try clear c187
         try clear c188
         try clear c189
         try clear c190
         try clear c192
         try clear c193
         try clear c194
         try clear c195
         try clear c196
         try clear c197
         try clear c198
         try clear c201
         try clear c202
         try clear c203
         try clear c204
         try clear c205
         try clear c206
         try clear c207
         try clear c208
         try clear c210
         try clear c211
         try clear c212
         try clear c213
         try clear c214
         try clear c215
         try clear c216
         try clear c220
         try clear c223
         try clear c224
         try clear c225
         try clear c226
         try clear c227
         try clear c228
         try clear c229
         try clear c230
         try clear c233
         try clear hcz119_0
         try clear hcz119_1
         try clear hcz119_2
         try clear hcz129_0
         try clear hcz129_1
         try clear hcz129_2
         try clear hcz130_0
         try clear hcz130_1
         try clear hcz130_2
         try clear hcz141_0
         try clear hcz141_1
         try clear hcz141_2
         try clear hcz142_0
         try clear hcz142_1
         try clear hcz142_2
         try clear hcz144_0
         try clear hcz144_1
         try clear hcz144_2
         try clear hcz155_0
         try clear hcz155_1
         try clear hcz155_2
         try clear hcz163_0
         try clear hcz163_1
         try clear hcz163_2
         try clear hcz173_0
         try clear hcz173_1
         try clear hcz173_2
         try clear hcz181_0
         try clear hcz181_1
         try clear hcz181_2
         try clear hcz191_0
         try clear hcz191_1
         try clear hcz191_2
         try clear hcz199_0
         try clear hcz199_1
         try clear hcz199_2
         try clear hcz209_0
         try clear hcz209_1
         try clear hcz209_2
         try clear hcz217_0
         try clear hcz217_1
         try clear hcz217_2
         try clear hcz231_0
         try clear hcz231_1
         try clear hcz231_2
         try clear hfz119_0
         try clear hfz119_1
         try clear hfz119_2
         try clear hfz129_0
         try clear hfz129_1
         try clear hfz129_2
         try clear hfz130_0
         try clear hfz130_1
         try clear hfz130_2
         try clear hfz141_0
         try clear hfz141_1
         try clear hfz141_2
         try clear hfz142_0
         try clear hfz142_1
         try clear hfz142_2
         try clear hfz144_0
         try clear hfz144_1
         try clear hfz144_2
         try clear hfz155_0
         try clear hfz155_1
         try clear hfz155_2
         try clear hfz163_0
         try clear hfz163_1
         try clear hfz163_2
         try clear hfz173_0
         try clear hfz173_1
         try clear hfz173_2
         try clear hfz181_0
         try clear hfz181_1
         try clear hfz181_2
         try clear hfz191_0
         try clear hfz191_1
         try clear hfz191_2
         try clear hfz199_0
         try clear hfz199_1
         try clear hfz199_2
         try clear hfz209_0
         try clear hfz209_1
         try clear hfz209_2
         try clear hfz217_0
         try clear hfz217_1
         try clear hfz217_2
         try clear hfz231_0
         try clear hfz231_1
         try clear hfz231_2
         try clear p2
         obtain ⟨kq, x154_221, rfl, HA, HJ221, HO_21, BK442, BK449, BK460, BK469, BK470, BK475, BK480, BK489, BK494, HB⟩ := hcut
         cases kq with
         | zero => exact absurd HA.out (by simp [laws_FnLogs.j2])
         | succ kj221 =>
          have H := HA.out; clear HA
          simp only [laws_FnLogs.j2] at H
          by_cases c237 : x154_221 = true
          ·subst c237
           rw [if_pos rfl] at H
           as_aux_lemma =>
            exact absurd ((Option.some.inj H).trans HRT.out) (by decide)
          ·replace c237 := Bool.eq_false_iff.mpr c237
           subst c237
           rw [if_neg (show ¬ (false = true) by decide)] at H
           by_cases c238 : t474 = 0
           ·rw [if_pos c238] at H
            have c238b0 : (t474 == 0) = true := beq_iff_eq.mpr c238
            have c238b1 : (t474 != 0) = false := bne_eq_false_iff_eq.mpr c238
            clear c238
            obtain ⟨⟨t509, t512⟩, A239, H⟩ := bs H
            obtain ⟨t513, A240, H⟩ := bs H
            by_cases c241 : t513 = true
            ·subst c241
             rw [if_pos rfl] at H
             by_cases c242 : (t509.length : Int) = (wrap64 ((t495.length : Int) + 1))
             ·rw [if_pos c242] at H
              have c242b0 : ((t509.length : Int) == (wrap64 ((t495.length : Int) + 1))) = true := beq_iff_eq.mpr c242
              have c242b1 : ((t509.length : Int) != (wrap64 ((t495.length : Int) + 1))) = false := bne_eq_false_iff_eq.mpr c242
              clear c242
              by_cases c243 : 0 ≤ (t495.length : Int)
              ·rw [if_pos c243] at H
               have c243b0 := eq_true c243
               have c243b1 : decide (0 ≤ (t495.length : Int)) = true := decide_eq_true c243
               clear c243
               by_cases c244 : (t495.length : Int) ≤ (t509.length : Int)
               ·rw [if_pos c244] at H
                have c244b0 := eq_true c244
                have c244b1 : decide ((t495.length : Int) ≤ (t509.length : Int)) = true := decide_eq_true c244
                clear c244
                obtain ⟨y514, hy514⟩ : ∃ y_ : List (S33), y_ = (t509.take ((t495.length : Int) : Int).toNat) := ⟨_, rfl⟩
                replace H : ((laws_vRecords.f kj221 y514 t495).bind fun t518 => (if t518 = true then (if (t495.length : Int) < (t509.length : Int) then (some ((((rd_T33 t509 (t495.length : Int)).f0).toList) == t467.toList && ((((rd_T33 t509 (t495.length : Int)).f1).toList) == t468.toList))) else (none)) else (some false))) = some r := by first | (rw [hy514]; with_reducible exact H) | (have H2_ := (Option.bind_some _ _).symm.trans H; rw [hy514]; with_reducible exact H2_) | (have H2_ := (Option.bind_some _ _).symm.trans H; with_reducible exact H2_) | with_reducible exact H | (rw [hy514]; exact H) | exact H
                have Ny514 := Aside0.mk hy514; clear hy514
                obtain ⟨t518, A245, H⟩ := bs H
                by_cases c246 : t518 = true
                ·subst c246
                 rw [if_pos rfl] at H
                 by_cases c247 : (t495.length : Int) < (t509.length : Int)
                 ·rw [if_pos c247] at H
                  have c247b0 : decide ((t495.length : Int) < (t509.length : Int)) = true := decide_eq_true c247
                  have c247b1 : decide (t495.length < t509.length) = true := decide_eq_true (Int.ofNat_lt.mp c247)
                  clear c247
                  as_aux_lemma =>
                   obtain rfl := Option.some.inj H
                   have hnb248 := NB475_442.out; have hnc248 := NB442_475.out; have hnb249 := NB475_449.out; have hnc249 := NB449_475.out; have hnb250 := NB475_460.out; have hnc250 := NB460_475.out; have hnb251 := NB475_469.out; have hnc251 := NB469_475.out; have hnb252 := NB475_470.out; have hnc252 := NB470_475.out; have hnb253 := NB475_480.out; have hnc253 := NB480_475.out; have hnb254 := NB475_489.out; have hnc254 := NB489_475.out; have hnb255 := NB475_494.out; have hnc255 := NB494_475.out; have hcz256_0 := bc (.string t471) BK475 0; have hcz256_1 := bc (.string t472) BK475 1; have hcz256_2 := bc (.int .i64 t473) BK475 2; have hfz256_0 := blk_frozen BK475.out 0; have hfz256_1 := blk_frozen BK475.out 1; have hfz256_2 := blk_frozen BK475.out 2
                   try go_wp2_with (first | (refine stg ?_; refine stw ?_; (try simp only [World.setCells, Nat.zero_add, Nat.reduceAdd, Act.put, List.setIfInBounds_toArray, List.set_cons_zero, List.set_cons_succ])) | (refine ldg gb442 ?_; refine ldw gb442 ?_ BK442.out; (try simp only [Act.put, List.setIfInBounds_toArray, List.set_cons_zero, List.set_cons_succ])) | (refine ldg gb449 ?_; refine ldw gb449 ?_ BK449.out; (try simp only [Act.put, List.setIfInBounds_toArray, List.set_cons_zero, List.set_cons_succ])) | (refine ldg gb460 ?_; refine ldw gb460 ?_ BK460.out; (try simp only [Act.put, List.setIfInBounds_toArray, List.set_cons_zero, List.set_cons_succ])) | (refine ldg gb469 ?_; refine ldw gb469 ?_ BK469.out; (try simp only [Act.put, List.setIfInBounds_toArray, List.set_cons_zero, List.set_cons_succ])) | (refine ldg gb470 ?_; refine ldw gb470 ?_ BK470.out; (try simp only [Act.put, List.setIfInBounds_toArray, List.set_cons_zero, List.set_cons_succ])) | (refine ldg gb475 ?_; refine ldw gb475 ?_ BK475.out; (try simp only [Act.put, List.setIfInBounds_toArray, List.set_cons_zero, List.set_cons_succ])) | (refine ldg gb480 ?_; refine ldw gb480 ?_ BK480.out; (try simp only [Act.put, List.setIfInBounds_toArray, List.set_cons_zero, List.set_cons_succ])) | (refine ldg gb489 ?_; refine ldw gb489 ?_ BK489.out; (try simp only [Act.put, List.setIfInBounds_toArray, List.set_cons_zero, List.set_cons_succ])) | (refine ldg gb494 ?_; refine ldw gb494 ?_ BK494.out; (try simp only [Act.put, List.setIfInBounds_toArray, List.set_cons_zero, List.set_cons_succ])) | (refine gd 162 26 ?_; refine gc 162 Tryd.func26 #[.agg #[.string t471, .string t472, .int .i64 t473]] (impl_LogRecords.calls kj221 t471 t472 t473 t509 t512 _ (GL.below HG.out ax246) A239.out) ?_; rintro e w257 ⟨v510, rfl, ho0, hb⟩; refine ⟨_, rfl, ?_⟩; have HO511 := Aside0.mk (Kd.R_lower (Kd.R_newB (Kd.R_newB (Kd.R_newB (Kd.R_new' ho0 (Kd.R_lt ax255)) (g := gb442) (o := .cells #[.string t440, .string t441] 33 (0, 0)) ax235) (g := gb449) (o := .cells #[.string t447, .string t448] 33 (0, 0)) ax236) (g := gb470) (o := .cells #[.string t467, .string t468] 33 (0, 0)) ax239) (below_size ax246)); replace HO_21 := Aside0.mk (Kd.R_elder' ax255 (Kd.R_base ho0) hb); replace BK442 := ub BK442 hb; replace BK449 := ub BK449 hb; replace BK460 := ub BK460 hb; replace BK469 := ub BK469 hb; replace BK470 := ub BK470 hb; replace BK475 := ub BK475 hb; replace BK480 := ub BK480 hb; replace BK489 := ub BK489 hb; replace BK494 := ub BK494 hb; replace HB := Aside0.mk (below_step ax246 hb); (try clear hb); (try clear hb2); (try clear hk); (try clear hi); (try clear ho0)))
                   replace HO_21 := Aside0.mk (Kd.R_drew HO_21.out); replace HO511 := Aside0.mk (Kd.R_drew HO511.out); replace BK442 := Aside0.mk (blk_drew BK442.out); replace BK449 := Aside0.mk (blk_drew BK449.out); replace BK460 := Aside0.mk (blk_drew BK460.out); replace BK469 := Aside0.mk (blk_drew BK469.out); replace BK470 := Aside0.mk (blk_drew BK470.out); replace BK475 := Aside0.mk (blk_drew BK475.out); replace BK480 := Aside0.mk (blk_drew BK480.out); replace BK489 := Aside0.mk (blk_drew BK489.out); replace BK494 := Aside0.mk (blk_drew BK494.out); replace HB := Aside0.mk (below_drew1 HB.out)
                   obtain ⟨Ao260, co260, eo260⟩ := Kd.R_slice HO511.out
                   (first | subst eo260 | (injection eo260 with f1_ f2_ f3_; have f4_ := f1_.symm; have f5_ := f3_.symm; clear f1_ f2_ f3_; subst f4_; subst f5_))
                   have p519 : 0 ≤ ((t495.length : Int) : Int) := of_decide_eq_true ax12
                   have q519 : (t495.length : Int) < (t509.length : Int) := of_decide_eq_true ax12
                   obtain ⟨ad519, e519, hx519_0, hx519_1⟩ := at_T33 (Kd.R_reads' HO511.out).2.2 (t495.length : Int) p519 q519
                   cases e519
                   (try simp only [Go.IntWalk.toNatUp] at hx519_0)
                   (try simp only [Go.IntWalk.toNatUp] at hx519_1)
                   replace p519 := eq_true p519; replace q519 := eq_true q519
                   refine start_ (n := 28) (S := fun w' => w'.cell? ⟨gb475, 0, none⟩ = some (.string t471) ∧ w'.cell? ⟨gb475, 1, none⟩ = some (.string t472) ∧ w'.cell? ⟨gb475, 2, none⟩ = some (.int .i64 t473) ∧ w'.cell? ⟨gb470, 0, none⟩ = some (.string t467) ∧ w'.cell? ⟨gb470, 1, none⟩ = some (.string t468) ∧ w'.cell? (ad519.add (t495.length * 2)) = some (.string ((rd_T33 t509 (t495.length : Int)).f0)) ∧ w'.cell? ⟨(ad519.add (t495.length * 2)).block, (ad519.add (t495.length * 2)).off + 1, none⟩ = some (.string ((rd_T33 t509 (t495.length : Int)).f1))) (ds := []) (ob 28 0) (by kernel_rfl) rfl rfl ⟨(blk_cell BK475.out 0).trans rfl, (blk_cell BK475.out 1).trans rfl, (blk_cell BK475.out 2).trans rfl, (blk_cell BK470.out 0).trans rfl, (blk_cell BK470.out 1).trans rfl, hx519_0, hx519_1⟩ (fun hHeld => ?_); refine with_tabW laws_FnLogs.tab25 laws_FnLogs.bits25 (fun HT_ HW_ => ?_)
                   generalize w257.drew = w258 at HO_21 HO511 BK442 BK449 BK460 BK469 BK470 BK475 BK480 BK489 BK494 HB hx519_0 hx519_1 hHeld ⊢
                   refine tk 0 165 ?_
                   refine one_ (i := 1) (N := some 166) (ob 28 3) rfl rfl (one_of HT_.out (by kernel_rfl)) (by decide) (fun K hK => ?_)
                   refine goes_ Tryd.func22 (by kernel_rfl) rfl #[.agg #[.string t471, .string t472, .int .i64 t473]] (by rfl) rfl rfl ax20 ?_
                   with_reducible refine (impl_IsValidLog.calls kj221 t471 t472 t473 true _ ?side1 A240.out).mono ?_
                   (case side1 => exact GL.below HG.out ax246)
                   rintro e w259 ⟨rfl, hb⟩
                   have HS5_ := (hb.cell (World.block_lt_of_cell? _ _ (hHeld.2.2.2.2.2.1))).trans (hHeld.2.2.2.2.2.1); have HS6_ := (hb.cell (World.block_lt_of_cell? _ _ (hHeld.2.2.2.2.2.2))).trans (hHeld.2.2.2.2.2.2)
                   refine ⟨_, rfl, ?_⟩
                   replace HO_21 := uR HO_21 hb; replace HO511 := uR HO511 hb; replace BK442 := ub BK442 hb; replace BK449 := ub BK449 hb; replace BK460 := ub BK460 hb; replace BK469 := ub BK469 hb; replace BK470 := ub BK470 hb; replace BK475 := ub BK475 hb; replace BK480 := ub BK480 hb; replace BK489 := ub BK489 hb; replace BK494 := ub BK494 hb; replace HB := Aside0.mk (below_step ax246 hb); (try clear hb); (try clear hb2); (try clear hk); (try clear hi)
                   obtain ⟨Ao261, co261, eo261⟩ := Kd.R_slice HO_21.out
                   (first | subst eo261 | (injection eo261 with f1_ f2_ f3_; have f4_ := f1_.symm; have f5_ := f3_.symm; clear f1_ f2_ f3_; subst f4_; subst f5_))
                   have q262 : ((t495.length : Int) : Int) ≤ ((t509.length : Int) : Int) := of_decide_eq_true ax12
                   obtain ⟨i0262, hi0262, _, hsz262, _⟩ := info_parts info33
                   have hroom262 : t509.length ≤ co260 := (Kd.R_reads' HO511.out).2.1
                   have hC262 : Kd.C k33 _ (some ad519) t509.length t509 := (Kd.R_reads' HO511.out).2.2
                   have hcut262 := cut_to (P := Tryd.prog) 48 33 .i64 Tryd.underlying48 hi0262 (some ad519) t509.length co260 (t495.length : Int) (of_decide_eq_true ax12) q262 hroom262
                   have hr262 := Kd.C_take (m := ((t495.length : Int) : Int).toNat) hC262 (by omega)
                   have hy262 : y514.length = ((t495.length : Int) : Int).toNat := (by rw [Ny514.out, List.length_take]; omega)
                   rw [← Ny514.out] at hr262
                   rw [← hy262] at hcut262
                   have HR517 := Aside0.mk hr262; have HC517 := Aside0.mk (show y514.length ≤ co260 from by omega); clear hr262 hC262 hroom262 hi0262 hsz262; have KY262 := Aside0.mk hy262; clear hy262; have KL262 := Aside0.mk (show ((t495.length : Int) : Int).toNat ≤ t509.length from by omega); replace q262 := eq_true q262
                   refine hK.out _ _ ⟨(blk_cell BK475.out 0).trans rfl, (blk_cell BK475.out 1).trans rfl, (blk_cell BK475.out 2).trans rfl, (blk_cell BK470.out 0).trans rfl, (blk_cell BK470.out 1).trans rfl, HS5_, HS6_⟩ (fun hHeld => ?_)
                   clear hK K
                   refine nm 166 ?_
                   refine pu 2 167 ?_; refine pu 3 168 ?_; refine pu 4 169 ?_; refine pu 5 170 ?_; refine pu 6 171 ?_; refine pu 7 172 ?_; refine pu 8 173 ?_; refine pu 9 174 ?_; refine pu 10 175 ?_; refine pu 11 176 ?_; refine pu 12 177 ?_; refine pu 13 178 ?_; refine pu 14 179 ?_; refine pu 15 180 ?_
                   refine one_ (i := 16) (N := some 181) (ob 28 131071) rfl rfl (one_of HT_.out (by kernel_rfl)) (by decide) (fun K hK => ?_)
                   refine goes_ Tryd.func28 (by kernel_rfl) rfl #[.slice (some ad519) y514.length co260, .slice Ao261 t495.length co261] (by rfl) rfl rfl ax20 ?_
                   with_reducible refine (laws_vRecords.calls kj221 _ _ y514 _ _ t495 true _ ?side1 ?side2 ?side3 ?side4 A245.out).mono ?_
                   (case side1 => repeat (first | exact (by repeat (first | (with_reducible exact HR517.out) | (with_reducible refine Kd.C_alloc ?_ _) | (with_reducible refine Kd.C_drewN ?_ _) | (with_reducible refine Kd.C_drew ?_) | exact HR517.out)) | (with_reducible refine Kd.C_alloc ?_ _) | (with_reducible refine Kd.C_drewN ?_ _) | (with_reducible refine Kd.C_drew ?_)))
                   (case side2 => exact HC517.out)
                   (case side3 => exact ax256)
                   (case side4 => exact (Kd.R_reads' HO_21.out).2.1)
                   rintro e w' ⟨rfl, ⟨nd, rfl⟩⟩
                   refine ⟨_, rfl, ?_⟩
                   refine hK.out _ _ ⟨(blk_cell BK475.out 0).trans rfl, (blk_cell BK475.out 1).trans rfl, (blk_cell BK475.out 2).trans rfl, (blk_cell BK470.out 0).trans rfl, (blk_cell BK470.out 1).trans rfl, hHeld.2.2.2.2.2.1, hHeld.2.2.2.2.2.2⟩ (fun hHeld => ?_)
                   clear hK K
                   refine nm 181 ?_
                   refine pu 17 182 ?_; refine pu 18 183 ?_; refine pu 19 184 ?_; refine pu 20 185 ?_; refine pu 21 186 ?_; refine pu 22 187 ?_; refine tk 23 188 ?_; refine tk 24 189 ?_; refine pu 25 190 ?_; refine pu 26 191 ?_; refine pu 27 2 ?_
                   refine dn ?_
                   try go_wp2
                   go_ret
                   exact ⟨ax18, by repeat (first | (with_reducible first | exact HB.out | apply below_alloc | apply pw_below_drewN | apply below_drew1 | refine below_set ?_ GE442.out | refine below_set ?_ GE449.out | refine below_set ?_ GE460.out | refine below_set ?_ GE469.out | refine below_set ?_ GE470.out | refine below_set ?_ GE475.out | refine below_set ?_ GE480.out | refine below_set ?_ GE489.out | refine below_set ?_ GE494.out) | exact HB.out)⟩
                 ·rw [if_neg c247] at H
                  exact absurd H (by simp)
                ·replace c246 := Bool.eq_false_iff.mpr c246
                 subst c246
                 rw [if_neg (show ¬ (false = true) by decide)] at H
                 as_aux_lemma =>
                  exact absurd ((Option.some.inj H).trans HRT.out) (by decide)
               ·rw [if_neg c244] at H
                exact absurd H (by simp)
              ·rw [if_neg c243] at H
               exact absurd H (by simp)
             ·rw [if_neg c242] at H
              have c242b0 : ((t509.length : Int) == (wrap64 ((t495.length : Int) + 1))) = false := beq_eq_false_iff_ne.mpr c242
              have c242b1 : ((t509.length : Int) != (wrap64 ((t495.length : Int) + 1))) = true := bne_iff_ne.mpr c242
              as_aux_lemma =>
               exact absurd ((Option.some.inj H).trans HRT.out) (by decide)
            ·replace c241 := Bool.eq_false_iff.mpr c241
             subst c241
             rw [if_neg (show ¬ (false = true) by decide)] at H
             as_aux_lemma =>
              exact absurd ((Option.some.inj H).trans HRT.out) (by decide)
           ·rw [if_neg c238] at H
            have c238b0 : (t474 == 0) = false := beq_eq_false_iff_ne.mpr c238
            have c238b1 : (t474 != 0) = true := bne_iff_ne.mpr c238
            as_aux_lemma =>
             obtain rfl := Option.some.inj H
             have hnb263 := NB475_442.out; have hnc263 := NB442_475.out; have hnb264 := NB475_449.out; have hnc264 := NB449_475.out; have hnb265 := NB475_460.out; have hnc265 := NB460_475.out; have hnb266 := NB475_469.out; have hnc266 := NB469_475.out; have hnb267 := NB475_470.out; have hnc267 := NB470_475.out; have hnb268 := NB475_480.out; have hnc268 := NB480_475.out; have hnb269 := NB475_489.out; have hnc269 := NB489_475.out; have hnb270 := NB475_494.out; have hnc270 := NB494_475.out; have hcz271_0 := bc (.string t471) BK475 0; have hcz271_1 := bc (.string t472) BK475 1; have hcz271_2 := bc (.int .i64 t473) BK475 2; have hfz271_0 := blk_frozen BK475.out 0; have hfz271_1 := blk_frozen BK475.out 1; have hfz271_2 := blk_frozen BK475.out 2; have hnb272 := NB469_442.out; have hnc272 := NB442_469.out; have hnb273 := NB469_449.out; have hnc273 := NB449_469.out; have hnb274 := NB469_460.out; have hnc274 := NB460_469.out; have hnb275 := NB469_470.out; have hnc275 := NB470_469.out; have hnb276 := NB469_480.out; have hnc276 := NB480_469.out; have hnb277 := NB469_489.out; have hnc277 := NB489_469.out; have hnb278 := NB469_494.out; have hnc278 := NB494_469.out; have hcz279_0 := bc (.string t464) BK469 0; have hcz279_1 := bc (.string t465) BK469 1; have hcz279_2 := bc (.int .i64 t466) BK469 2; have hfz279_0 := blk_frozen BK469.out 0; have hfz279_1 := blk_frozen BK469.out 1; have hfz279_2 := blk_frozen BK469.out 2
             go_wp2
             go_ret
             exact ⟨ax18, by repeat (first | (with_reducible first | exact HB.out | apply below_alloc | apply pw_below_drewN | apply below_drew1 | refine below_set ?_ GE442.out | refine below_set ?_ GE449.out | refine below_set ?_ GE460.out | refine below_set ?_ GE469.out | refine below_set ?_ GE470.out | refine below_set ?_ GE475.out | refine below_set ?_ GE480.out | refine below_set ?_ GE489.out | refine below_set ?_ GE494.out) | exact HB.out)⟩

end Go.Proofs.YtnjjchbhbicmoaaDoor.X

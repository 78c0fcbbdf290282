-- By gen.py (the session's own program over the kit's printer): functions of the program, each with its contract. Lean checks it.
import Derived.Test.YtnjjchbhbicmoaaDoorX0
import Derived.Test.YtnjjchbhbicmoaaDoorX10
import Derived.Test.YtnjjchbhbicmoaaDoorX11
namespace Go.Proofs.YtnjjchbhbicmoaaDoor.X
open Go.RowKit Go.Proofs.YtnjjchbhbicmoaaDoorW.PrintWords Go.Proofs.YtnjjchbhbicmoaaDoorW.PrintLast Go.Proofs.YtnjjchbhbicmoaaDoorW.PrintMore
attribute [local go_sem] max2_int min2_int max_two min_two max_three min_three max_four min_four   -- for this text's walks alone
set_option linter.unusedVariables false
set_option linter.unusedSimpArgs false

/-! ### spec_l1Cur_log12: function 48 -/
def spec_l1Cur_log12.l0 : Nat → Int → List Int → Int → Int → ByteArray → ByteArray → Int → Option (ByteArray × ByteArray × Int × Int × Int)
 | 0, _, _, _, _, _, _, _ => none
 | k + 1, x4, x1000, x1001, x1002, x335000, x335001, x335002 => if x4 > 0 then ((spec_l1Cur_logRecord.f x1000 x1001 x1002).bind fun bt338 => ((spec_AppendRecord.f k x335000 x335001 x335002 bt338.1 bt338.2.1).bind fun bt342 => ((spec_l1Cur_one.f x1000 bt338.2.2.1 bt338.2.2.2 4).bind fun bt346 => (if bt346.1 = true then ((spec_SyncLog.f k bt342.1 bt342.2.1 bt342.2.2.1).bind fun bt349 => (spec_l1Cur_log12.l0 k (wrap64 (x4 - 1)) x1000 bt346.2.1 bt346.2.2 bt349.1 bt349.2.1 bt349.2.2.1)) else (spec_l1Cur_log12.l0 k (wrap64 (x4 - 1)) x1000 bt346.2.1 bt346.2.2 bt342.1 bt342.2.1 bt342.2.2.1))))) else (some (x335000, x335001, x335002, x1001, x1002))
def spec_l1Cur_log12.f (k : Nat) (s0_0 : List Int) (s0_1 : Int) (s0_2 : Int) : Option (ByteArray × ByteArray × Int × Int × Int) := (spec_l1Cur_pick.f s0_0 s0_1 s0_2 7).bind fun bt335 => (spec_l1Cur_log12.l0 k bt335.1 s0_0 bt335.2.1 bt335.2.2 (⟨#[]⟩ : ByteArray) (⟨#[]⟩ : ByteArray) 0)
theorem spec_l1Cur_log12.mono_l : ∀ k, (∀ y0 y1 y2 y3 y4 y5 y6, LeO (spec_l1Cur_log12.l0 k y0 y1 y2 y3 y4 y5 y6) (spec_l1Cur_log12.l0 (k + 1) y0 y1 y2 y3 y4 y5 y6))
 | 0 => fun _ _ _ _ _ _ _ r h => by simp [spec_l1Cur_log12.l0] at h
 | k + 1 => by
  have ih0 := spec_l1Cur_log12.mono_l k
  ·intro y0 y1 y2 y3 y4 y5 y6
   unfold spec_l1Cur_log12.l0
   repeat' first | (with_reducible first | exact ih0 .. | exact spec_AppendRecord.mono .. | exact spec_SyncLog.mono .. | exact LeO.refl _ | exact LeO.none _ | refine LeO.ite ?_ ?_ | refine LeO.bind ?_ (fun _ => ?_)) | exact ih0 .. | exact spec_AppendRecord.mono .. | exact spec_SyncLog.mono .. | exact LeO.none _ | refine LeO.ite ?_ ?_ | refine LeO.bind ?_ (fun _ => ?_)
theorem spec_l1Cur_log12.mono : ∀ a0 a1 a2 k, LeO (spec_l1Cur_log12.f k a0 a1 a2) (spec_l1Cur_log12.f (k + 1) a0 a1 a2) := by
 intro a0 a1 a2 k
 have ih0 := spec_l1Cur_log12.mono_l k
 unfold spec_l1Cur_log12.f
 repeat' first | (with_reducible first | exact ih0 .. | exact spec_AppendRecord.mono .. | exact spec_SyncLog.mono .. | exact LeO.refl _ | exact LeO.none _ | refine LeO.ite ?_ ?_ | refine LeO.bind ?_ (fun _ => ?_)) | exact ih0 .. | exact spec_AppendRecord.mono .. | exact spec_SyncLog.mono .. | exact LeO.none _ | refine LeO.ite ?_ ?_ | refine LeO.bind ?_ (fun _ => ?_)
def spec_l1Cur_log12.T5 : Bool × List (List Nat × List Nat) := (true, [([], []), ([], []), ([1], [1]), ([0, 2, 2], [0, 2]), ([3], [3]), ([4], [4]), ([4], [4]), ([5, 3, 0, 1, 2, 3, 4, 5], [5])])
def spec_l1Cur_log12.B5 : List Nat := [0, 0, 2, 7, 15, 31, 31, 63]
theorem spec_l1Cur_log12.tab5 : rtab .any (opsOf Tryd.f48 5) = spec_l1Cur_log12.T5 := by kernel_rfl
theorem spec_l1Cur_log12.bits5 : waitsOk spec_l1Cur_log12.T5.2 spec_l1Cur_log12.B5 = true := by kernel_rfl
set_option maxHeartbeats 8000000 in
set_option maxRecDepth 100000 in
theorem spec_l1Cur_log12.calls (k : Nat) (g : Nat) (s0_0 : List Int) (s0_1 : Int) (s0_2 : Int) (r1 : ByteArray) (r2 : ByteArray) (r3 : Int) (r4 : Int) (r5 : Int) (w0 w : World) (hI : IsS60 w0 w g s0_0 s0_1 s0_2) (hB : Below w0.heap.size w0 w) (h : spec_l1Cur_log12.f k s0_0 s0_1 s0_2 = some (r1, r2, r3, r4, r5)) :
  Calls Tryd.prog 48 #[.pointer (some ⟨g, 0, none⟩)] w fun e w' => e = .returned (.agg #[.string r1, .string r2, .int .i64 r3]) ∧ IsS60 w0 w' g s0_0 r4 r5 ∧ Below w0.heap.size w0 w' ∧ KeepBut w w' g none := by
 have hu27 := Tryd.underlying27; have HI0 := Aside0.mk hI; have HK := Aside0.mk (KeepBut.refl w g none); have HL := Aside0.mk hB.size; clear hI; have HW0 := Aside0.mk hB.size; have HB := Aside0.mk hB; clear hB
 have H : ((spec_l1Cur_pick.f s0_0 s0_1 s0_2 7).bind fun bt335 => (spec_l1Cur_log12.l0 k bt335.1 s0_0 bt335.2.1 bt335.2.2 (⟨#[]⟩ : ByteArray) (⟨#[]⟩ : ByteArray) 0)) = some (r1, r2, r3, r4, r5) := h
 clear h
 obtain ⟨⟨t335, t336, t337⟩, A2, H⟩ := bs H
 have H' := Aside0.mk H
 clear H
 go_enter Tryd.func48, Tryd.ntmps48
 go_wp2_with (first | ((with_reducible refine gate_dst (N := 2) rfl ?_); refine box_event ?hg (N := 2) ?hd (cs := #[.string (⟨#[]⟩ : ByteArray), .string (⟨#[]⟩ : ByteArray), .int .i64 0]) (t := 27) ?hr ?_; (case hd => rfl); (case hg => rfl); (case hr => exact ax9); intro gb333 hg w3 hbox hb; replace HB := Aside0.mk (below_step ax59 hb); have BK333 := Aside0.mk (hbox); have GW333 := Aside0.mk ((ax61 : w.heap.size ≤ gb333)); have GE333 := Aside0.mk ((Nat.le_trans HW0.out (ax61 : w.heap.size ≤ gb333) : w0.heap.size ≤ gb333)); replace HK := Aside0.mk (KeepBut.trans ax60 (KeepBut.of_below hb g none) (.inl rfl)); have NB0_333 := Aside0.mk ((ax62 : g ≠ gb333)); have NB333_0 := Aside0.mk ((ax63 : gb333 ≠ g)); replace HI0 := Aside0.mk (IsS60.below ax58 hb); clear hb hbox hg) | ((with_reducible refine gate_dst (N := 3) rfl ?_); refine box_event ?hg (N := 3) ?hd (cs := #[.string (⟨#[]⟩ : ByteArray), .string (⟨#[]⟩ : ByteArray), .int .i64 0]) (t := 27) ?hr ?_; (case hd => rfl); (case hg => rfl); (case hr => exact ax9); intro gb334 hg w4 hbox hb; replace HB := Aside0.mk (below_step (by repeat (first | (with_reducible first | exact HB.out | apply below_alloc | apply pw_below_drewN | apply below_drew1 | refine below_set ?_ (IsS60.ge HI0.out) | refine below_set ?_ GE333.out) | exact HB.out)) hb); have BK334 := Aside0.mk (hbox); have GW334 := Aside0.mk ((ax98 : w.heap.size ≤ gb334)); have GE334 := Aside0.mk ((Nat.le_trans HW0.out (ax98 : w.heap.size ≤ gb334) : w0.heap.size ≤ gb334)); replace HK := Aside0.mk (KeepBut.trans ax99 (KeepBut.of_below hb g none) (.inl rfl)); have NB333_334 := uN hg BK333; have NB334_333 := uM hg BK333; replace BK333 := ub BK333 hb; have NB0_334 := Aside0.mk ((by rw [hg]; exact Nat.ne_of_lt (IsS60.lt (show IsS60 w0 _ g s0_0 s0_1 s0_2 from by repeat (first | (with_reducible first | exact HI0.out | apply IsS60.alloc | apply IsS60.drewN | apply IsS60.drew | apply IsS60.set_1 | apply IsS60.set_2 | refine IsS60.far ?_ NB0_333.out _) | exact HI0.out))) : g ≠ gb334)); have NB334_0 := Aside0.mk ((by rw [hg]; exact Nat.ne_of_gt (IsS60.lt (show IsS60 w0 _ g s0_0 s0_1 s0_2 from by repeat (first | (with_reducible first | exact HI0.out | apply IsS60.alloc | apply IsS60.drewN | apply IsS60.drew | apply IsS60.set_1 | apply IsS60.set_2 | refine IsS60.far ?_ NB0_333.out _) | exact HI0.out))) : gb334 ≠ g)); replace HI0 := Aside0.mk (IsS60.below (by repeat (first | (with_reducible first | exact HI0.out | apply IsS60.alloc | apply IsS60.drewN | apply IsS60.drew | apply IsS60.set_1 | apply IsS60.set_2 | refine IsS60.far ?_ NB0_333.out _) | exact HI0.out)) hb); clear hb hbox hg; have hnb5 := NB334_333.out; have hnc5 := NB333_334.out; have hnb6 := NB334_0.out; have hnc6 := NB0_334.out; have hcz7_0 := bc (.string (⟨#[]⟩ : ByteArray)) BK334 0; have hcz7_1 := bc (.string (⟨#[]⟩ : ByteArray)) BK334 1; have hcz7_2 := bc (.int .i64 0) BK334 2; have hfz7_0 := blk_frozen BK334.out 0; have hfz7_1 := blk_frozen BK334.out 1; have hfz7_2 := blk_frozen BK334.out 2) | (refine gd 7 44 ?_; refine gc 7 Tryd.func44 #[.pointer (some ⟨g, 0, none⟩), .int .i64 7] (spec_l1Cur_pick.calls g s0_0 s0_1 s0_2 7 t335 t336 t337 w0 _ ax100 ax101 A2.out) ?_; rintro e w8 ⟨rfl, hi, hb, hk⟩; refine ⟨_, rfl, ?_⟩; replace BK333 := Aside0.mk (KeepBut.blk hk (g' := gb333) (o := .cells #[.string (⟨#[]⟩ : ByteArray), .string (⟨#[]⟩ : ByteArray), .int .i64 0] 27 (0, 0)) ax102 NB333_0.out (by simp)); replace BK334 := Aside0.mk (KeepBut.blk hk (g' := gb334) (o := .cells #[.string (⟨#[]⟩ : ByteArray), .string (⟨#[]⟩ : ByteArray), .int .i64 0] 27 (0, 0)) (by (with_reducible repeat (first | refine blk_drewN ?_ _ | refine blk_drew ?_ | refine blk_alloc ?_ _)); refine blk_put (cs := #[.string (⟨#[]⟩ : ByteArray), .string (⟨#[]⟩ : ByteArray), .int .i64 0]) ?_ 2 _ rfl; (with_reducible repeat (first | refine blk_drewN ?_ _ | refine blk_drew ?_ | refine blk_alloc ?_ _)); refine blk_put (cs := #[.string (⟨#[]⟩ : ByteArray), .string (⟨#[]⟩ : ByteArray), .int .i64 0]) ?_ 1 _ rfl; (with_reducible repeat (first | refine blk_drewN ?_ _ | refine blk_drew ?_ | refine blk_alloc ?_ _)); refine blk_put (cs := #[.string (⟨#[]⟩ : ByteArray), .string (⟨#[]⟩ : ByteArray), .int .i64 0]) ?_ 0 _ rfl; (with_reducible repeat (first | refine blk_drewN ?_ _ | refine blk_drew ?_ | refine blk_alloc ?_ _)); exact BK334.out) NB334_0.out (by simp)); replace HK := Aside0.mk (KeepBut.trans ax103 hk (.inl rfl)); replace HB := Aside0.mk (hb); replace HI0 := Aside0.mk (hi); (try clear hb); (try clear hb2); (try clear hk); (try clear hi)))
 go_loopg [4] k (fun kq v4 w' => ∃ (x4_1 : Int) (x1001_1 : Int) (x1002_1 : Int) (x335000_1 : ByteArray) (x335001_1 : ByteArray) (x335002_1 : Int), v4 = .int .i64 x4_1 ∧ Aside0 (spec_l1Cur_log12.l0 kq x4_1 s0_0 x1001_1 x1002_1 x335000_1 x335001_1 x335002_1 = some (r1, r2, r3, r4, r5)) ∧ Aside0 (kq ≤ k) ∧ Aside0 (w'.heap[gb333]? = some (.cells #[.string (⟨#[]⟩ : ByteArray), .string (⟨#[]⟩ : ByteArray), .int .i64 0] 27 (0, 0))) ∧ Aside0 (w'.heap[gb334]? = some (.cells #[.string x335000_1, .string x335001_1, .int .i64 x335002_1] 27 (0, 0))) ∧ Aside0 (IsS60 w0 w' g s0_0 x1001_1 x1002_1) ∧ Aside0 (KeepBut w w' g none) ∧ Aside0 (Below w0.heap.size w0 w'))
 case atStart => exact ⟨(t335), (t336), (t337), ((⟨#[]⟩ : ByteArray)), ((⟨#[]⟩ : ByteArray)), (0), ax10, H', ⟨Nat.le_refl _⟩, ⟨ax104⟩, ⟨ax105⟩, ⟨ax100⟩, ⟨ax103⟩, ⟨ax101⟩⟩
 case round =>
  clear H'
  try clear p2
  try clear c4
  try clear c5
  try clear c6
  try clear hcz7_0
  try clear hcz7_1
  try clear hcz7_2
  try clear hfz7_0
  try clear hfz7_1
  try clear hfz7_2
  obtain ⟨x4_1, x1001_1, x1002_1, x335000_1, x335001_1, x335002_1, rfl, HA, HK1, BK333, BK334, HI0, HK, HB⟩ := hrel
  cases gk with
  | zero => exact absurd HA.out (by simp [spec_l1Cur_log12.l0])
  | succ k1 =>
   have H := HA.out; clear HA
   simp only [spec_l1Cur_log12.l0] at H
   by_cases c9 : x4_1 > 0
   ·rw [if_pos c9] at H
    have c9b0 : decide (0 < x4_1) = true := decide_eq_true c9
    clear c9
    obtain ⟨⟨t338, t339, t340, t341⟩, A10, H⟩ := bs H
    obtain ⟨⟨t342, t343, t344, t345⟩, A11, H⟩ := bs H
    obtain ⟨⟨t346, t347, t348⟩, A12, H⟩ := bs H
    by_cases c13 : t346 = true
    ·subst c13
     rw [if_pos rfl] at H
     obtain ⟨⟨t349, t350, t351, t352⟩, A14, H⟩ := bs H
     have H' := Aside0.mk H
     clear H
     try go_wp2
     replace BK333 := Aside0.mk (blk_drew BK333.out); replace BK334 := Aside0.mk (blk_drew BK334.out); replace HI0 := Aside0.mk (IsS60.drew HI0.out); replace HK := Aside0.mk (keep_drew HK.out); replace HB := Aside0.mk (below_drew1 HB.out)
     refine start_ (n := 8) (S := fun w' => w'.cell? ⟨gb334, 0, none⟩ = some (.string x335000_1) ∧ w'.cell? ⟨gb334, 1, none⟩ = some (.string x335001_1) ∧ w'.cell? ⟨gb334, 2, none⟩ = some (.int .i64 x335002_1)) (ds := [7]) (ob 8 0) (by kernel_rfl) rfl rfl ⟨(blk_cell BK334.out 0).trans rfl, (blk_cell BK334.out 1).trans rfl, (blk_cell BK334.out 2).trans rfl⟩ (fun hHeld => ?_); refine with_tabW spec_l1Cur_log12.tab5 spec_l1Cur_log12.bits5 (fun HT_ HW_ => ?_)
     generalize wr.drew = w15 at BK333 BK334 HI0 HK HB hHeld ⊢
     refine pu 1 14 ?_; refine tk 0 13 ?_
     refine one_ (i := 2) (N := some 15) (ob 8 7) rfl rfl (one_of HT_.out (by kernel_rfl)) (by decide) (fun K hK => ?_)
     refine goes_ Tryd.func36 (by kernel_rfl) rfl #[.pointer (some ⟨g, 0, none⟩)] (by rfl) rfl rfl ax20 ?_
     with_reducible refine (spec_l1Cur_logRecord.calls g s0_0 x1001_1 x1002_1 t338 t339 t340 t341 w0 _ ?side1 ?side2 A10.out).mono ?_
     (case side1 => exact ax100)
     (case side2 => exact ax101)
     rintro e w16 ⟨rfl, hi, hb, hk⟩
     refine ⟨_, rfl, ?_⟩
     replace BK333 := Aside0.mk (KeepBut.blk hk (g' := gb333) (o := .cells #[.string (⟨#[]⟩ : ByteArray), .string (⟨#[]⟩ : ByteArray), .int .i64 0] 27 (0, 0)) ax104 NB333_0.out (by simp))
     replace BK334 := Aside0.mk (KeepBut.blk hk (g' := gb334) (o := .cells #[.string x335000_1, .string x335001_1, .int .i64 x335002_1] 27 (0, 0)) ax105 NB334_0.out (by simp))
     replace HK := Aside0.mk (KeepBut.trans ax103 hk (.inl rfl)); replace HB := Aside0.mk (hb); replace HI0 := Aside0.mk (hi); (try clear hb); (try clear hb2); (try clear hk); (try clear hi)
     refine hK.out _ _ ⟨(blk_cell BK334.out 0).trans rfl, (blk_cell BK334.out 1).trans rfl, (blk_cell BK334.out 2).trans rfl⟩ (fun hHeld => ?_)
     clear hK K
     refine nm 15 ?_
     refine one_ (i := 3) (N := some 16) (ob 8 15) rfl rfl (one_of HT_.out (by kernel_rfl)) (by decide) (fun K hK => ?_)
     refine goes_ Tryd.func19 (by kernel_rfl) rfl #[.agg #[.string x335000_1, .string x335001_1, .int .i64 x335002_1], .agg #[.string t338, .string t339]] (by rfl) rfl rfl ax20 ?_
     with_reducible refine (spec_AppendRecord.calls k1 x335000_1 x335001_1 x335002_1 t338 t339 t342 t343 t344 t345 _ A11.out).mono ?_
     rintro e w17 ⟨rfl, hb⟩
     refine ⟨_, rfl, ?_⟩
     replace BK333 := ub BK333 hb; replace BK334 := ub BK334 hb; replace HK := Aside0.mk (KeepBut.trans ax103 (KeepBut.of_below hb g none) (.inl rfl)); replace HB := Aside0.mk (below_step ax101 hb); replace HI0 := Aside0.mk (IsS60.below ax100 hb); (try clear hb); (try clear hb2); (try clear hk); (try clear hi)
     refine hK.out _ _ ⟨(blk_cell BK334.out 0).trans rfl, (blk_cell BK334.out 1).trans rfl, (blk_cell BK334.out 2).trans rfl⟩ (fun hHeld => ?_)
     clear hK K
     refine nm 16 ?_
     refine pu 4 12 ?_; refine pu 5 17 ?_; refine pu 6 18 ?_
     refine last_ (i := 7) (N := none) (ob 8 255) rfl rfl (one_of HT_.out (by kernel_rfl)) (by decide) (fun K hK => ?_)
     have hs18 : w17.cell? ⟨gb334, 0, none⟩ = some (.string x335000_1) := (blk_cell BK334.out 0).trans rfl
     have hfs18 := blk_frozen BK334.out 0; have hns18_0 := NB333_334.out; have hms18_0 := NB334_333.out
     have hs19 : w17.cell? ⟨gb334, 1, none⟩ = some (.string x335001_1) := (blk_cell BK334.out 1).trans rfl
     have hfs19 := blk_frozen BK334.out 1; have hns19_0 := NB333_334.out; have hms19_0 := NB334_333.out
     have hs20 : w17.cell? ⟨gb334, 2, none⟩ = some (.int .i64 x335002_1) := (blk_cell BK334.out 2).trans rfl
     have hfs20 := blk_frozen BK334.out 2; have hns20_0 := NB333_334.out; have hms20_0 := NB334_333.out
     refine skip_ (w1 := ?_) (by rfl) rfl ?_ ?_
     rotate_left
     ·go_simp
      rfl
     refine hK.out _ _ ?_
     clear hK K
     refine dn ?_
     try go_wp2_with (first | (refine gd 20 43 ?_; refine gc 20 Tryd.func43 #[.pointer (some ⟨g, 0, none⟩), .int .i64 4] (spec_l1Cur_one.calls g s0_0 t340 t341 4 true t347 t348 w0 _ ax100 ax101 A12.out) ?_; rintro e w21 ⟨rfl, hi, hb, hk⟩; refine ⟨_, rfl, ?_⟩; replace BK333 := Aside0.mk (KeepBut.blk hk (g' := gb333) (o := .cells #[.string (⟨#[]⟩ : ByteArray), .string (⟨#[]⟩ : ByteArray), .int .i64 0] 27 (0, 0)) ax102 NB333_0.out (by simp)); replace BK334 := Aside0.mk (KeepBut.blk hk (g' := gb334) (o := .cells #[.string t342, .string t343, .int .i64 t344] 27 (0, 0)) ax106 NB334_0.out (by simp)); replace HK := Aside0.mk (KeepBut.trans ax103 hk (.inl rfl)); replace HB := Aside0.mk (hb); replace HI0 := Aside0.mk (hi); (try clear hb); (try clear hb2); (try clear hk); (try clear hi); have hnb22 := NB334_333.out; have hnc22 := NB333_334.out; have hnb23 := NB334_0.out; have hnc23 := NB0_334.out; have hcz24_0 := bc (.string t342) BK334 0; have hcz24_1 := bc (.string t343) BK334 1; have hcz24_2 := bc (.int .i64 t344) BK334 2; have hfz24_0 := blk_frozen BK334.out 0; have hfz24_1 := blk_frozen BK334.out 1; have hfz24_2 := blk_frozen BK334.out 2) | (refine gd 23 25 ?_; refine gc 23 Tryd.func25 #[.agg #[.string t342, .string t343, .int .i64 t344]] (spec_SyncLog.calls k1 t342 t343 t344 t349 t350 t351 t352 _ A14.out) ?_; rintro e w25 ⟨rfl, hb⟩; refine ⟨_, rfl, ?_⟩; replace BK333 := ub BK333 hb; replace BK334 := ub BK334 hb; replace HK := Aside0.mk (KeepBut.trans ax103 (KeepBut.of_below hb g none) (.inl rfl)); replace HB := Aside0.mk (below_step ax101 hb); replace HI0 := Aside0.mk (IsS60.below ax100 hb); (try clear hb); (try clear hb2); (try clear hk); (try clear hi); have hcz26_0 := bc (.string t342) BK334 0; have hcz26_1 := bc (.string t343) BK334 1; have hcz26_2 := bc (.int .i64 t344) BK334 2; have hfz26_0 := blk_frozen BK334.out 0; have hfz26_1 := blk_frozen BK334.out 1; have hfz26_2 := blk_frozen BK334.out 2))
     go_roundg k1
     case measure => have := HK1.out; omega
     case rel => exact ⟨(wrap64 (x4_1 - 1)), (t347), (t348), (t349), (t350), (t351), ax10, H', ⟨by have := HK1.out; omega⟩, ⟨ax102⟩, ⟨(by (with_reducible repeat (first | refine blk_drewN ?_ _ | refine blk_drew ?_ | refine blk_alloc ?_ _)); refine blk_put (cs := #[.string t349, .string t350, .int .i64 t344]) ?_ 2 _ rfl; (with_reducible repeat (first | refine blk_drewN ?_ _ | refine blk_drew ?_ | refine blk_alloc ?_ _)); refine blk_put (cs := #[.string t349, .string t343, .int .i64 t344]) ?_ 1 _ rfl; (with_reducible repeat (first | refine blk_drewN ?_ _ | refine blk_drew ?_ | refine blk_alloc ?_ _)); refine blk_put (cs := #[.string t342, .string t343, .int .i64 t344]) ?_ 0 _ rfl; (with_reducible repeat (first | refine blk_drewN ?_ _ | refine blk_drew ?_ | refine blk_alloc ?_ _)); exact BK334.out)⟩, ⟨ax100⟩, ⟨ax103⟩, ⟨ax101⟩⟩
    ·replace c13 := Bool.eq_false_iff.mpr c13
     subst c13
     rw [if_neg (show ¬ (false = true) by decide)] at H
     have H' := Aside0.mk H
     clear H
     try go_wp2
     replace BK333 := Aside0.mk (blk_drew BK333.out); replace BK334 := Aside0.mk (blk_drew BK334.out); replace HI0 := Aside0.mk (IsS60.drew HI0.out); replace HK := Aside0.mk (keep_drew HK.out); replace HB := Aside0.mk (below_drew1 HB.out)
     refine start_ (n := 8) (S := fun w' => w'.cell? ⟨gb334, 0, none⟩ = some (.string x335000_1) ∧ w'.cell? ⟨gb334, 1, none⟩ = some (.string x335001_1) ∧ w'.cell? ⟨gb334, 2, none⟩ = some (.int .i64 x335002_1)) (ds := [7]) (ob 8 0) (by kernel_rfl) rfl rfl ⟨(blk_cell BK334.out 0).trans rfl, (blk_cell BK334.out 1).trans rfl, (blk_cell BK334.out 2).trans rfl⟩ (fun hHeld => ?_); refine with_tabW spec_l1Cur_log12.tab5 spec_l1Cur_log12.bits5 (fun HT_ HW_ => ?_)
     generalize wr.drew = w27 at BK333 BK334 HI0 HK HB hHeld ⊢
     refine pu 1 14 ?_; refine tk 0 13 ?_
     refine one_ (i := 2) (N := some 15) (ob 8 7) rfl rfl (one_of HT_.out (by kernel_rfl)) (by decide) (fun K hK => ?_)
     refine goes_ Tryd.func36 (by kernel_rfl) rfl #[.pointer (some ⟨g, 0, none⟩)] (by rfl) rfl rfl ax20 ?_
     with_reducible refine (spec_l1Cur_logRecord.calls g s0_0 x1001_1 x1002_1 t338 t339 t340 t341 w0 _ ?side1 ?side2 A10.out).mono ?_
     (case side1 => exact ax100)
     (case side2 => exact ax101)
     rintro e w28 ⟨rfl, hi, hb, hk⟩
     refine ⟨_, rfl, ?_⟩
     replace BK333 := Aside0.mk (KeepBut.blk hk (g' := gb333) (o := .cells #[.string (⟨#[]⟩ : ByteArray), .string (⟨#[]⟩ : ByteArray), .int .i64 0] 27 (0, 0)) ax104 NB333_0.out (by simp))
     replace BK334 := Aside0.mk (KeepBut.blk hk (g' := gb334) (o := .cells #[.string x335000_1, .string x335001_1, .int .i64 x335002_1] 27 (0, 0)) ax105 NB334_0.out (by simp))
     replace HK := Aside0.mk (KeepBut.trans ax103 hk (.inl rfl)); replace HB := Aside0.mk (hb); replace HI0 := Aside0.mk (hi); (try clear hb); (try clear hb2); (try clear hk); (try clear hi)
     refine hK.out _ _ ⟨(blk_cell BK334.out 0).trans rfl, (blk_cell BK334.out 1).trans rfl, (blk_cell BK334.out 2).trans rfl⟩ (fun hHeld => ?_)
     clear hK K
     refine nm 15 ?_
     refine one_ (i := 3) (N := some 16) (ob 8 15) rfl rfl (one_of HT_.out (by kernel_rfl)) (by decide) (fun K hK => ?_)
     refine goes_ Tryd.func19 (by kernel_rfl) rfl #[.agg #[.string x335000_1, .string x335001_1, .int .i64 x335002_1], .agg #[.string t338, .string t339]] (by rfl) rfl rfl ax20 ?_
     with_reducible refine (spec_AppendRecord.calls k1 x335000_1 x335001_1 x335002_1 t338 t339 t342 t343 t344 t345 _ A11.out).mono ?_
     rintro e w29 ⟨rfl, hb⟩
     refine ⟨_, rfl, ?_⟩
     replace BK333 := ub BK333 hb; replace BK334 := ub BK334 hb; replace HK := Aside0.mk (KeepBut.trans ax103 (KeepBut.of_below hb g none) (.inl rfl)); replace HB := Aside0.mk (below_step ax101 hb); replace HI0 := Aside0.mk (IsS60.below ax100 hb); (try clear hb); (try clear hb2); (try clear hk); (try clear hi)
     refine hK.out _ _ ⟨(blk_cell BK334.out 0).trans rfl, (blk_cell BK334.out 1).trans rfl, (blk_cell BK334.out 2).trans rfl⟩ (fun hHeld => ?_)
     clear hK K
     refine nm 16 ?_
     refine pu 4 12 ?_; refine pu 5 17 ?_; refine pu 6 18 ?_
     refine last_ (i := 7) (N := none) (ob 8 255) rfl rfl (one_of HT_.out (by kernel_rfl)) (by decide) (fun K hK => ?_)
     have hs30 : w29.cell? ⟨gb334, 0, none⟩ = some (.string x335000_1) := (blk_cell BK334.out 0).trans rfl
     have hfs30 := blk_frozen BK334.out 0; have hns30_0 := NB333_334.out; have hms30_0 := NB334_333.out
     have hs31 : w29.cell? ⟨gb334, 1, none⟩ = some (.string x335001_1) := (blk_cell BK334.out 1).trans rfl
     have hfs31 := blk_frozen BK334.out 1; have hns31_0 := NB333_334.out; have hms31_0 := NB334_333.out
     have hs32 : w29.cell? ⟨gb334, 2, none⟩ = some (.int .i64 x335002_1) := (blk_cell BK334.out 2).trans rfl
     have hfs32 := blk_frozen BK334.out 2; have hns32_0 := NB333_334.out; have hms32_0 := NB334_333.out
     refine skip_ (w1 := ?_) (by rfl) rfl ?_ ?_
     rotate_left
     ·go_simp
      rfl
     refine hK.out _ _ ?_
     clear hK K
     refine dn ?_
     try go_wp2_with (first | (refine gd 20 43 ?_; refine gc 20 Tryd.func43 #[.pointer (some ⟨g, 0, none⟩), .int .i64 4] (spec_l1Cur_one.calls g s0_0 t340 t341 4 false t347 t348 w0 _ ax100 ax101 A12.out) ?_; rintro e w33 ⟨rfl, hi, hb, hk⟩; refine ⟨_, rfl, ?_⟩; replace BK333 := Aside0.mk (KeepBut.blk hk (g' := gb333) (o := .cells #[.string (⟨#[]⟩ : ByteArray), .string (⟨#[]⟩ : ByteArray), .int .i64 0] 27 (0, 0)) ax102 NB333_0.out (by simp)); replace BK334 := Aside0.mk (KeepBut.blk hk (g' := gb334) (o := .cells #[.string t342, .string t343, .int .i64 t344] 27 (0, 0)) ax106 NB334_0.out (by simp)); replace HK := Aside0.mk (KeepBut.trans ax103 hk (.inl rfl)); replace HB := Aside0.mk (hb); replace HI0 := Aside0.mk (hi); (try clear hb); (try clear hb2); (try clear hk); (try clear hi)))
     go_roundg k1
     case measure => have := HK1.out; omega
     case rel => exact ⟨(wrap64 (x4_1 - 1)), (t347), (t348), (t342), (t343), (t344), ax10, H', ⟨by have := HK1.out; omega⟩, ⟨ax104⟩, ⟨ax105⟩, ⟨ax100⟩, ⟨ax103⟩, ⟨ax101⟩⟩
   ·rw [if_neg c9] at H
    have c9b0 : decide (0 < x4_1) = false := decide_eq_false c9
    clear c9
    simp only [Option.some.injEq, Prod.mk.injEq] at H
    obtain ⟨rfl, rfl, rfl, rfl, rfl⟩ := H
    have hnb34 := NB334_333.out; have hnc34 := NB333_334.out; have hnb35 := NB334_0.out; have hnc35 := NB0_334.out; have hcz36_0 := bc (.string x335000_1) BK334 0; have hcz36_1 := bc (.string x335001_1) BK334 1; have hcz36_2 := bc (.int .i64 x335002_1) BK334 2; have hfz36_0 := blk_frozen BK334.out 0; have hfz36_1 := blk_frozen BK334.out 1; have hfz36_2 := blk_frozen BK334.out 2; have hnb37 := NB333_0.out; have hnc37 := NB0_333.out; have hcz38_0 := bc (.string (⟨#[]⟩ : ByteArray)) BK333 0; have hcz38_1 := bc (.string (⟨#[]⟩ : ByteArray)) BK333 1; have hcz38_2 := bc (.int .i64 0) BK333 2; have hfz38_0 := blk_frozen BK333.out 0; have hfz38_1 := blk_frozen BK333.out 1; have hfz38_2 := blk_frozen BK333.out 2
    go_wp2
    refine bodyPost_ret (results_cell_row rfl _ _ gb333 27 #[.string x335000_1, .string x335001_1, .int .i64 x335002_1] (0, 0) _ rfl (by (with_reducible repeat (first | refine blk_drewN ?_ _ | refine blk_drew ?_ | refine blk_alloc ?_ _)); refine blk_put (cs := #[.string x335000_1, .string x335001_1, .int .i64 0]) ?_ 2 _ rfl; (with_reducible repeat (first | refine blk_drewN ?_ _ | refine blk_drew ?_ | refine blk_alloc ?_ _)); refine blk_put (cs := #[.string x335000_1, .string (⟨#[]⟩ : ByteArray), .int .i64 0]) ?_ 1 _ rfl; (with_reducible repeat (first | refine blk_drewN ?_ _ | refine blk_drew ?_ | refine blk_alloc ?_ _)); refine blk_put (cs := #[.string (⟨#[]⟩ : ByteArray), .string (⟨#[]⟩ : ByteArray), .int .i64 0]) ?_ 0 _ rfl; (with_reducible repeat (first | refine blk_drewN ?_ _ | refine blk_drew ?_ | refine blk_alloc ?_ _)); exact BK333.out) Tryd.underlying27 rfl (by kernel_rfl)) rfl ?_
    exact ⟨ax18, by repeat (first | (with_reducible first | exact HI0.out | apply IsS60.alloc | apply IsS60.drewN | apply IsS60.drew | apply IsS60.set_1 | apply IsS60.set_2 | refine IsS60.far ?_ NB0_333.out _ | refine IsS60.far ?_ NB0_334.out _) | exact HI0.out), by repeat (first | (with_reducible first | exact HB.out | apply below_alloc | apply pw_below_drewN | apply below_drew1 | refine below_set ?_ (IsS60.ge HI0.out) | refine below_set ?_ GE333.out | refine below_set ?_ GE334.out) | exact HB.out), by repeat (first | (with_reducible first | exact HK.out | apply KeepBut.set_ | apply keep_drewN | apply keep_drew | apply keep_alloc | refine keep_far ?_ GW333.out _ | refine keep_far ?_ GW334.out _) | exact HK.out)⟩

end Go.Proofs.YtnjjchbhbicmoaaDoor.X

-- By gen.py (the session's own program over the kit's printer): functions of the program, each with its contract. Lean checks it.
import Derived.Test.YtcplbbflfgckbaaGreatDoorX0
import Derived.Test.YtcplbbflfgckbaaGreatDoorX17
import Derived.Test.YtcplbbflfgckbaaGreatDoorX19
import Derived.Test.YtcplbbflfgckbaaGreatDoorX20
import Derived.Test.YtcplbbflfgckbaaGreatDoorX21
import Derived.Test.YtcplbbflfgckbaaGreatDoorX22
import Derived.Test.YtcplbbflfgckbaaGreatDoorX23
import Derived.Test.YtcplbbflfgckbaaGreatDoorX24
namespace Go.Proofs.YtcplbbflfgckbaaGreatDoor.X
open Go.RowKit Go.Proofs.YtcplbbflfgckbaaGreatDoorW.PrintWords Go.Proofs.YtcplbbflfgckbaaGreatDoorW.PrintLast Go.Proofs.YtcplbbflfgckbaaGreatDoorW.PrintMore
attribute [local go_sem] max2_int min2_int max_two min_two max_three min_three max_four min_four   -- for this text's walks alone
set_option linter.unusedVariables false
set_option linter.unusedSimpArgs false

/-! ### laws_FnNodes: function 7 -/
mutual
def laws_FnNodes.j0 : Nat → List Int → Int → List Int → Bool → Bool → List (S74) → Option (Bool)
 | 0, _, _, _, _, _, _ => none
 | k + 1, x0, x4, x5, x6, x80, x1293000 => if x80 = true then (some false) else ((impl_PrefixOf.f k x1293000 x4).bind fun bt1302 => ((spec_PrefixOf.f k x1293000 x4).bind fun bt1304 => (if bt1302.1.toList = bt1304.1.toList then (if (bt1302.2 != bt1304.2) = true then (laws_FnNodes.j1 k x0 x4 x5 x6 bt1302.1 true x1293000) else (laws_FnNodes.j1 k x0 x4 x5 x6 bt1302.1 (bt1302.2 != x6) x1293000)) else (laws_FnNodes.j1 k x0 x4 x5 x6 bt1302.1 true x1293000))))
def laws_FnNodes.j1 : Nat → List Int → Int → List Int → Bool → ByteArray → Bool → List (S74) → Option (Bool)
 | 0, _, _, _, _, _, _, _ => none
 | k + 1, x0, x4, x5, x6, x9, x105, x1293000 => if x105 = true then (some false) else ((impl_CountUnder.f k x1293000 x4).bind fun bt1306 => ((spec_CountUnder.f k x1293000 x4).bind fun bt1308 => (if bt1306.1 = bt1308.1 then (if (bt1306.2 != bt1308.2) = true then (laws_FnNodes.j2 k x0 x4 x5 x6 x9 bt1306.1 true x1293000) else (laws_FnNodes.j2 k x0 x4 x5 x6 x9 bt1306.1 (bt1306.2 != x6) x1293000)) else (laws_FnNodes.j2 k x0 x4 x5 x6 x9 bt1306.1 true x1293000))))
def laws_FnNodes.j2 : Nat → List Int → Int → List Int → Bool → ByteArray → Int → Bool → List (S74) → Option (Bool)
 | 0, _, _, _, _, _, _, _, _ => none
 | k + 1, x0, x4, x5, x6, x9, x13, x130, x1293000 => if x130 = true then (some false) else ((spec_DrawNodeOf.f k x0).bind fun bt1310 => ((impl_NodeOf.f k bt1310.1 bt1310.2).bind fun bt1315 => ((spec_NodeOf.f k bt1310.1 bt1310.2).bind fun bt1317 => (if bt1315.1 = bt1317.1 then (laws_FnNodes.j3 k x0 x4 x5 x6 x9 x13 bt1310.2 bt1315.1 bt1315.2 (bt1315.2 != bt1317.2) x1293000 bt1310.1) else (laws_FnNodes.j3 k x0 x4 x5 x6 x9 x13 bt1310.2 bt1315.1 bt1315.2 true x1293000 bt1310.1)))))
def laws_FnNodes.j3 : Nat → List Int → Int → List Int → Bool → ByteArray → Int → ByteArray → Int → Bool → Bool → List (S74) → List (S74) → Option (Bool)
 | 0, _, _, _, _, _, _, _, _, _, _, _, _ => none
 | k + 1, x0, x4, x5, x6, x9, x13, x18, x19, x20, x155, x1293000, x1315000 => if x155 = true then (some false) else ((impl_RankOf.f k x1315000 x18).bind fun bt1319 => ((spec_RankOf.f k x1315000 x18).bind fun bt1321 => (if bt1319.1 = bt1321.1 then (if (bt1319.2 != bt1321.2) = true then (laws_FnNodes.j4 k x0 x4 x5 x6 x9 x13 x18 x19 x20 true x1293000 x1315000) else ((impl_IsTrie.f k x1315000).bind fun t1323 => (if t1323 = true then ((impl_IsWord.f x18).bind fun t1324 => (laws_FnNodes.j4 k x0 x4 x5 x6 x9 x13 x18 x19 x20 (bt1319.2 != t1324) x1293000 x1315000)) else (laws_FnNodes.j4 k x0 x4 x5 x6 x9 x13 x18 x19 x20 (bt1319.2 != false) x1293000 x1315000)))) else (laws_FnNodes.j4 k x0 x4 x5 x6 x9 x13 x18 x19 x20 true x1293000 x1315000))))
def laws_FnNodes.j4 : Nat → List Int → Int → List Int → Bool → ByteArray → Int → ByteArray → Int → Bool → Bool → List (S74) → List (S74) → Option (Bool)
 | 0, _, _, _, _, _, _, _, _, _, _, _, _ => none
 | k + 1, x0, x4, x5, x6, x9, x13, x18, x19, x20, x185, x1293000, x1315000 => if x185 = true then (some false) else ((spec_DrawWordAt.f k x0).bind fun bt1325 => ((impl_WordAt.f k bt1325.1 bt1325.2).bind fun bt1330 => ((spec_WordAt.f k bt1325.1 bt1325.2).bind fun bt1332 => (if bt1330.1.toList = bt1332.1.toList then (laws_FnNodes.j5 k x4 x5 x6 x9 x13 x18 x19 x20 bt1325.2 bt1330.1 bt1330.2 (bt1330.2 != bt1332.2) x1293000 x1315000 bt1325.1) else (laws_FnNodes.j5 k x4 x5 x6 x9 x13 x18 x19 x20 bt1325.2 bt1330.1 bt1330.2 true x1293000 x1315000 bt1325.1)))))
def laws_FnNodes.j5 : Nat → Int → List Int → Bool → ByteArray → Int → ByteArray → Int → Bool → Int → ByteArray → Bool → Bool → List (S74) → List (S74) → List (S74) → Option (Bool)
 | 0, _, _, _, _, _, _, _, _, _, _, _, _, _, _, _ => none
 | k + 1, x4, x5, x6, x9, x13, x18, x19, x20, x28, x29, x30, x210, x1293000, x1315000, x1330000 => if x210 = true then (some false) else ((impl_DepthOf.f k x1330000).bind fun bt1334 => ((spec_DepthOf.f k x1330000).bind fun bt1336 => (if bt1334.1 = bt1336.1 then (if (bt1334.2 != bt1336.2) = true then (laws_FnNodes.j6 k x4 x5 x6 x9 x13 x18 x19 x20 x28 x29 x30 bt1334.1 bt1334.2 true x1293000 x1315000 x1330000) else ((impl_IsTrie.f k x1330000).bind fun t1338 => (laws_FnNodes.j6 k x4 x5 x6 x9 x13 x18 x19 x20 x28 x29 x30 bt1334.1 bt1334.2 (bt1334.2 != t1338) x1293000 x1315000 x1330000))) else (laws_FnNodes.j6 k x4 x5 x6 x9 x13 x18 x19 x20 x28 x29 x30 bt1334.1 bt1334.2 true x1293000 x1315000 x1330000))))
def laws_FnNodes.j6 : Nat → Int → List Int → Bool → ByteArray → Int → ByteArray → Int → Bool → Int → ByteArray → Bool → Int → Bool → Bool → List (S74) → List (S74) → List (S74) → Option (Bool)
 | 0, _, _, _, _, _, _, _, _, _, _, _, _, _, _, _, _, _ => none
 | k + 1, x4, x5, x6, x9, x13, x18, x19, x20, x28, x29, x30, x33, x34, x234, x1293000, x1315000, x1330000 => if x234 = true then (some false) else ((impl_SaveOf.f k x1330000).bind fun bt1339 => ((spec_SaveOf.f k x1330000).bind fun bt1341 => (if bt1339.1 = bt1341.1 then (if (bt1339.2 != bt1341.2) = true then (laws_FnNodes.j7 k x4 x5 x6 x9 x13 x18 x19 x20 x28 x29 x30 x33 true x1293000 x1315000 x1330000) else (if (bt1339.2 != x34) = true then (laws_FnNodes.j7 k x4 x5 x6 x9 x13 x18 x19 x20 x28 x29 x30 x33 true x1293000 x1315000 x1330000) else (if bt1339.2 = true then (laws_FnNodes.j7 k x4 x5 x6 x9 x13 x18 x19 x20 x28 x29 x30 x33 (decide (bt1339.1 < 0)) x1293000 x1315000 x1330000) else (laws_FnNodes.j7 k x4 x5 x6 x9 x13 x18 x19 x20 x28 x29 x30 x33 false x1293000 x1315000 x1330000)))) else (laws_FnNodes.j7 k x4 x5 x6 x9 x13 x18 x19 x20 x28 x29 x30 x33 true x1293000 x1315000 x1330000))))
def laws_FnNodes.j7 : Nat → Int → List Int → Bool → ByteArray → Int → ByteArray → Int → Bool → Int → ByteArray → Bool → Int → Bool → List (S74) → List (S74) → List (S74) → Option (Bool)
 | 0, _, _, _, _, _, _, _, _, _, _, _, _, _, _, _, _ => none
 | k + 1, x4, x5, x6, x9, x13, x18, x19, x20, x28, x29, x30, x33, x264, x1293000, x1315000, x1330000 => if x264 = true then (some false) else (if x20 = true then ((impl_PrefixOf.f k x1315000 x19).bind fun bt1343 => (if bt1343.2 = true then (if bt1343.1.toList = x18.toList then (laws_FnNodes.j8 k x4 x5 x6 x9 x13 x28 x29 x30 x33 x1293000 x1330000) else (some false)) else (some false))) else (laws_FnNodes.j8 k x4 x5 x6 x9 x13 x28 x29 x30 x33 x1293000 x1330000))
def laws_FnNodes.j8 : Nat → Int → List Int → Bool → ByteArray → Int → Int → ByteArray → Bool → Int → List (S74) → List (S74) → Option (Bool)
 | 0, _, _, _, _, _, _, _, _, _, _, _ => none
 | k + 1, x4, x5, x6, x9, x13, x28, x29, x30, x33, x1293000, x1330000 => if x30 = true then ((impl_RankOf.f k x1330000 x29).bind fun bt1345 => (if bt1345.2 = true then (if bt1345.1 = x28 then (if (x29.size : Int) > x33 then (some false) else (laws_FnNodes.j9 k x4 x5 x6 x9 x13 x1293000)) else (some false)) else (some false))) else (laws_FnNodes.j9 k x4 x5 x6 x9 x13 x1293000)
def laws_FnNodes.j9 : Nat → Int → List Int → Bool → ByteArray → Int → List (S74) → Option (Bool)
 | 0, _, _, _, _, _, _ => none
 | k + 1, x4, x5, x6, x9, x13, x1293000 => if x6 = true then ((impl_NodeOf.f k x1293000 x9).bind fun bt1347 => (if bt1347.2 = true then (if bt1347.1 = x4 then (if x4 > 0 then (laws_FnNodes.j10 k x4 x5 x9 x13 (decide (x13 < 1)) x1293000) else (laws_FnNodes.j10 k x4 x5 x9 x13 false x1293000)) else (laws_FnNodes.j10 k x4 x5 x9 x13 true x1293000)) else (laws_FnNodes.j10 k x4 x5 x9 x13 true x1293000))) else (some true)
def laws_FnNodes.j10 : Nat → Int → List Int → ByteArray → Int → Bool → List (S74) → Option (Bool)
 | 0, _, _, _, _, _, _ => none
 | k + 1, x4, x5, x9, x13, x321, x1293000 => if x321 = true then (some false) else (if 0 ≤ x4 then (if x4 < (x1293000.length : Int) then (if (rd_T74 x1293000 x4).f2 = true then (laws_FnNodes.j11 k x5 x9 x13 1 x1293000) else (laws_FnNodes.j11 k x5 x9 x13 0 x1293000)) else (none)) else (none))
def laws_FnNodes.j11 : Nat → List Int → ByteArray → Int → Int → List (S74) → Option (Bool)
 | 0, _, _, _, _, _ => none
 | k + 1, x5, x9, x13, x47, x1293000 => laws_FnNodes.l0 k x5 x9 x13 x47 0 x1293000
def laws_FnNodes.l0 : Nat → List Int → ByteArray → Int → Int → Int → List (S74) → Option (Bool)
 | 0, _, _, _, _, _, _ => none
 | k + 1, x5, x9, x13, x47, x48, x1293000 => if x48 < (x5.length : Int) then (if 0 ≤ x48 then ((impl_CountUnder.f k x1293000 (rd x5 x48)).bind fun bt1351 => ((impl_PrefixOf.f k x1293000 (rd x5 x48)).bind fun bt1354 => (if bt1351.2 = true then (if bt1354.2 = true then (if (bt1354.1.size : Int) = (wrap64 ((x9.size : Int) + 1)) then (if 0 ≤ (x9.size : Int) then (if (x9.size : Int) ≤ (bt1354.1.size : Int) then (if (bt1354.1.extract 0 x9.size).toList = x9.toList then (laws_FnNodes.l0 k x5 x9 x13 (wrap64 (x47 + bt1351.1)) (wrap64 (x48 + 1)) x1293000) else (some false)) else (none)) else (none)) else (some false)) else (some false)) else (some false)))) else (none)) else (some (x47 == x13))
end
def laws_FnNodes.f (k : Nat) (l0 : List Int) : Option (Bool) := (laws_rBig.f l0).bind fun t1287 => (if t1287 = true then (some true) else ((spec_DrawKidsOf.f k l0).bind fun bt1288 => ((impl_KidsOf.f k bt1288.1 bt1288.2).bind fun bt1293 => ((spec_KidsOf.f k bt1288.1 bt1288.2).bind fun bt1297 => (if (bt1293.2 != bt1297.2) = true then (laws_FnNodes.j0 k l0 bt1288.2 bt1293.1 bt1293.2 true bt1288.1) else ((laws_rInts.f k bt1293.1 bt1297.1).bind fun t1301 => (laws_FnNodes.j0 k l0 bt1288.2 bt1293.1 bt1293.2 (!t1301) bt1288.1)))))))
def laws_FnNodes.T57 : Bool × List (List Nat × List Nat) := (true, [([], []), ([], []), ([], []), ([1, 2], [1, 2]), ([3], [3]), ([0, 4], [0, 4]), ([5], [5]), ([6], [6]), ([6], [6]), ([7, 5, 0, 1, 2, 3, 4, 5, 6, 7], [7]), ([8, 9, 0, 1, 2, 3, 4, 5, 6, 7, 8, 9], [8])])
def laws_FnNodes.B57 : List Nat := [0, 0, 0, 6, 14, 31, 63, 127, 127, 255, 1023]
theorem laws_FnNodes.tab57 : rtab .any (opsOf Tryz.f7 57) = laws_FnNodes.T57 := by kernel_rfl
theorem laws_FnNodes.bits57 : waitsOk laws_FnNodes.T57.2 laws_FnNodes.B57 = true := by kernel_rfl
def laws_FnNodes.T58 : Bool × List (List Nat × List Nat) := (true, [([], []), ([], []), ([], []), ([1, 2], [1, 2]), ([3], [3]), ([0, 4], [0, 4]), ([5], [5]), ([6], [6]), ([6], [6]), ([7, 5, 0, 1, 2, 3, 4, 5, 6, 7], [7]), ([8, 9, 0, 1, 2, 3, 4, 5, 6, 7, 8, 9], [8])])
def laws_FnNodes.B58 : List Nat := [0, 0, 0, 6, 14, 31, 63, 127, 127, 255, 1023]
theorem laws_FnNodes.tab58 : rtab .any (opsOf Tryz.f7 58) = laws_FnNodes.T58 := by kernel_rfl
theorem laws_FnNodes.bits58 : waitsOk laws_FnNodes.T58.2 laws_FnNodes.B58 = true := by kernel_rfl
set_option maxHeartbeats 8000000 in
set_option maxRecDepth 100000 in
theorem laws_FnNodes.calls (k : Nat) (A0 : Option Addr) (c0 : Nat) (l0 : List Int) (r : Bool) (w : World) (hr0 : Kd.C (Kd.int .u8) w A0 l0.length l0) (hc0 : l0.length ≤ c0) (h : laws_FnNodes.f k l0 = some r) (hr_ : r = true) :
  Calls Tryz.prog 7 #[.slice A0 l0.length c0] w fun e w' => e = .returned (.bool r) ∧ Below w.heap.size w w' := by
 have hu26 := Tryz.underlying26; have HR0 := am hr0; have HC0 := am hc0; clear hr0 hc0; have HB := am (Below.refl w.heap.size w); have HRT := am hr_; clear hr_
 unfold laws_FnNodes.f at h
 have H := h; clear h; obtain ⟨t1287, A2, H⟩ := bs H
 by_cases c3 : t1287 = true
 ·subst c3
  rw [if_pos rfl] at H
  as_aux_lemma =>
   obtain rfl := Option.some.inj H
   go_enter Tryz.func7, Tryz.ntmps7
   go_wp2_with (first | ((with_reducible refine gd 54 45 ?_); refine gc 54 Tryz.func45 #[.slice A0 l0.length c0] (laws_rBig.calls _ _ l0 true _ ax242 (HC0.out) A2.out) ?_; rintro e w' ⟨rfl, ⟨nd, rfl⟩⟩; refine ⟨_, rfl, ?_⟩))
   go_ret
   exact ⟨ax27, ax39⟩
 ·replace c3 := Bool.eq_false_iff.mpr c3
  subst c3; rw [if_neg (show ¬ (false = true) by decide)] at H; obtain ⟨⟨t1288, t1291⟩, A4, H⟩ := bs H; obtain ⟨⟨t1293, t1296⟩, A5, H⟩ := bs H; obtain ⟨⟨t1297, t1300⟩, A6, H⟩ := bs H; have HC7 := am H; clear H
  go_enter Tryz.func7, Tryz.ntmps7
  go_upto_region 6 with (first | ((with_reducible refine gd 54 45 ?_); refine gc 54 Tryz.func45 #[.slice A0 l0.length c0] (laws_rBig.calls _ _ l0 false _ ax242 (HC0.out) A2.out) ?_; rintro e w' ⟨rfl, ⟨nd, rfl⟩⟩; refine ⟨_, rfl, ?_⟩) | ((with_reducible refine gd 57 69 ?_); refine gc 57 Tryz.func69 #[.slice A0 l0.length c0] (spec_DrawKidsOf.calls k _ _ l0 t1288 t1291 _ ax242 (HC0.out) A4.out) ?_; rintro e w8 ⟨v1289, rfl, ho0, hb⟩; refine ⟨_, rfl, ?_⟩; have HO1290 := uL ho0 HB; replace HB := uB HB hb; (try clear hb ho0)) | ((with_reducible refine gate_dst (N := 3) rfl ?_); (try (refine gate_guard (by rfl) ?_; dsimp only)); refine bx 3 #[.slice none 0 0] 26 ?_; intro gb1292 hg w9 hbox hb; replace HO1290 := uR HO1290 hb; have BK1292 := am (hbox); have GW1292 := uG hg HB; have GE1292 := uG hg HB; replace HB := uB HB hb; clear hb hbox hg; obtain ⟨Ao10, co10, eo10⟩ := Kd.R_slice HO1290.out; subst eo10; have hcz11_0 := bc (.slice none 0 0) BK1292 0; have hfz11_0 := blk_frozen BK1292.out 0) | ((with_reducible refine gd 63 70 ?_); refine gc 63 Tryz.func70 #[.agg #[.slice Ao10 t1288.length co10], .int .i64 t1291] (impl_KidsOf.calls k _ _ t1288 t1291 t1293 t1296 _ (by refine (Kd.R_reads' (e := 74) (base := w.heap.size) (ok := fun k_ => True) (n := t1288.length) (c := co10) ?_).2.2; exact ax304) ((Kd.R_reads' HO1290.out).2.1) A5.out) ?_; rintro e w12 ⟨v1294, rfl, ho0, hb⟩; refine ⟨_, rfl, ?_⟩; replace HO1290 := am (Kd.R_below ax304 hb); have HO1295 := am (Kd.R_lower ho0 (below_size ax305)); replace BK1292 := am (blk_below (g := gb1292) (o := .cells #[.slice Ao10 t1288.length co10] 26 (0, 0)) (by (with_reducible repeat (first | refine blk_drewN ?_ _ | refine blk_drew ?_ | refine blk_alloc ?_ _)); refine blk_put (cs := #[.slice none 0 0]) ?_ 0 _ rfl; (with_reducible repeat (first | refine blk_drewN ?_ _ | refine blk_drew ?_ | refine blk_alloc ?_ _)); exact BK1292.out) hb); replace HB := am (below_step ax305 hb); (try clear hb ho0); have hcz13_0 := bc (.slice Ao10 t1288.length co10) BK1292 0; have hfz13_0 := blk_frozen BK1292.out 0) | ((with_reducible refine gd 69 71 ?_); refine gc 69 Tryz.func71 #[.agg #[.slice Ao10 t1288.length co10], .int .i64 t1291] (spec_KidsOf.calls k _ _ t1288 t1291 t1297 t1300 _ (by repeat (first | exact (Kd.R_reads' HO1290.out).2.2 | (with_reducible refine Kd.C_alloc ?_ _) | (with_reducible refine Kd.C_drewN ?_ _) | (with_reducible refine Kd.C_drew ?_))) ((Kd.R_reads' HO1290.out).2.1) A6.out) ?_; rintro e w14 ⟨v1298, rfl, ho0, hb⟩; refine ⟨_, rfl, ?_⟩; replace HO1290 := uR HO1290 hb; replace HO1295 := uR HO1295 hb; have HO1299 := am (Kd.R_lower ho0 (below_size ax305)); replace BK1292 := ub BK1292 hb; replace HB := am (below_step ax305 hb); (try clear hb ho0)))
  (try simp only [Act.put, List.setIfInBounds_toArray, List.set_cons_zero, List.set_cons_succ])
  go_cut [80] from 1 to 0 (fun v80 wc => ∃ (kq : Nat) (x80_6 : Bool), v80 = .bool x80_6 ∧ Aside0 (laws_FnNodes.j0 kq l0 t1291 t1293 t1296 x80_6 t1288 = some r) ∧ Aside0 (kq ≤ k) ∧ Aside0 (Kd.R (Kd.int .i64) 3 wc w.heap.size (fun _ => True) v1294 t1293) ∧ Aside0 (Kd.R k74 74 wc w.heap.size (fun _ => True) (.slice Ao10 t1288.length co10) t1288) ∧ Aside0 (wc.heap[gb1292]? = some (.cells #[(.slice Ao10 t1288.length co10)] 26 (0, 0))) ∧ Aside0 (Below w.heap.size w wc))
  case first =>
   have H := HC7.out; clear HC7
   by_cases c15 : (t1296 != t1300) = true
   ·rw [if_pos c15] at H
    have c15b0 : (t1296 != t1300) = true := c15; (try (have c15b1 : decide (t1296 = t1300) = false := by simpa using c15)); (try (have c15b2 : (t1296 == t1300) = false := by simpa using c15)); (try (have c15b3 : ¬ (t1296 = t1300) := by simpa using c15)); clear c15; (first | rw [c15b0] | (simp only [i64_w, i32_w]; rw [c15b0]) | skip)
    as_aux_lemma =>
     have H' := am H; clear H
     go_wp2
     go_meet
     case rel => exact ⟨_, (true), ax31, H', ⟨by first | omega | exact Nat.le_refl _⟩, ⟨ax306⟩, ⟨ax307⟩, ⟨ax308⟩, ⟨ax305⟩⟩
   ·rw [if_neg c15] at H
    have c15b0 : (t1296 != t1300) = false := by simpa using c15
    (try (have c15b1 : decide (t1296 = t1300) = true := by simpa using c15)); (try (have c15b2 : (t1296 == t1300) = true := by simpa using c15)); clear c15; (first | rw [c15b0] | (simp only [i64_w, i32_w]; rw [c15b0]) | skip); obtain ⟨t1301, A16, H⟩ := bs H
    as_aux_lemma =>
     have H' := am H; clear H; obtain ⟨Ao17, co17, eo17⟩ := Kd.R_slice HO1295.out; subst eo17; obtain ⟨Ao18, co18, eo18⟩ := Kd.R_slice HO1299.out; subst eo18
     go_wp2_with (first | (go_at_call 72; (with_reducible refine (laws_rInts.calls k _ _ t1293 _ _ t1297 t1301 _ ?side1 ?side2 ?side3 ?side4 A16.out).mono ?_); (case side1 => repeat (first | exact (Kd.R_reads' HO1295.out).2.2 | (with_reducible refine Kd.C_alloc ?_ _) | (with_reducible refine Kd.C_drewN ?_ _) | (with_reducible refine Kd.C_drew ?_))); (case side2 => exact (Kd.R_reads' HO1295.out).2.1); (case side3 => repeat (first | exact (Kd.R_reads' HO1299.out).2.2 | (with_reducible refine Kd.C_alloc ?_ _) | (with_reducible refine Kd.C_drewN ?_ _) | (with_reducible refine Kd.C_drew ?_))); (case side4 => exact (Kd.R_reads' HO1299.out).2.1); rintro e w' ⟨rfl, ⟨nd, rfl⟩⟩))
     go_meet
     case rel => exact ⟨_, (!t1301), ax31, H', ⟨by first | omega | exact Nat.le_refl _⟩, ⟨ax306⟩, ⟨ax307⟩, ⟨ax308⟩, ⟨ax305⟩⟩
  case rest =>
   clear HC7; (try clear c0);(try clear hcz11_0);(try clear hfz11_0);(try clear hcz13_0);(try clear hfz13_0);(try clear c3); obtain ⟨kq, x80_6, rfl, HA, HJ6, HO_5, HO_1293000, BK1292, HB⟩ := hcut
   cases kq with
   | zero => exact absurd HA.out (by simp [laws_FnNodes.j0])
   | succ kj6 =>
    have H := HA.out; clear HA; simp only [laws_FnNodes.j0] at H
    by_cases c19 : x80_6 = true
    ·subst c19
     rw [if_pos rfl] at H
     as_aux_lemma =>
      exact absurd ((Option.some.inj H).trans HRT.out) (by decide)
    ·replace c19 := Bool.eq_false_iff.mpr c19
     subst c19; rw [if_neg (show ¬ (false = true) by decide)] at H; obtain ⟨⟨t1302, t1303⟩, A20, H⟩ := bs H; obtain ⟨⟨t1304, t1305⟩, A21, H⟩ := bs H; have HC22 := am H; clear H; have hcz23_0 := bc (.slice Ao10 t1288.length co10) BK1292 0; have hfz23_0 := blk_frozen BK1292.out 0
     go_upto_region 10 with (first | ((with_reducible refine gd 84 73 ?_); refine gc 84 Tryz.func73 #[.agg #[.slice Ao10 t1288.length co10], .int .i64 t1291] (impl_PrefixOf.calls kj6 _ _ t1288 t1291 t1302 t1303 _ ax309 ((Kd.R_reads' HO_1293000.out).2.1) A20.out) ?_; rintro e w24 ⟨rfl, hb⟩; refine ⟨_, rfl, ?_⟩; replace HO_5 := uR HO_5 hb; replace HO_1293000 := uR HO_1293000 hb; replace BK1292 := ub BK1292 hb; replace HB := am (below_step ax305 hb); (try clear hb); have hcz25_0 := bc (.slice Ao10 t1288.length co10) BK1292 0; have hfz25_0 := blk_frozen BK1292.out 0) | ((with_reducible refine gd 90 74 ?_); refine gc 90 Tryz.func74 #[.agg #[.slice Ao10 t1288.length co10], .int .i64 t1291] (spec_PrefixOf.calls kj6 _ _ t1288 t1291 t1304 t1305 _ ax309 ((Kd.R_reads' HO_1293000.out).2.1) A21.out) ?_; rintro e w26 ⟨rfl, hb⟩; refine ⟨_, rfl, ?_⟩; replace HO_5 := uR HO_5 hb; replace HO_1293000 := uR HO_1293000 hb; replace BK1292 := ub BK1292 hb; replace HB := am (below_step ax305 hb); (try clear hb)))
     (try simp only [Act.put, List.setIfInBounds_toArray, List.set_cons_zero, List.set_cons_succ])
     go_cut [105] from 1 to 0 (fun v105 wc => ∃ (kq : Nat) (x105_21 : Bool), v105 = .bool x105_21 ∧ Aside0 (laws_FnNodes.j1 kq l0 t1291 t1293 t1296 t1302 x105_21 t1288 = some r) ∧ Aside0 (kq ≤ kj6) ∧ Aside0 (Kd.R (Kd.int .i64) 3 wc w.heap.size (fun _ => True) v1294 t1293) ∧ Aside0 (Kd.R k74 74 wc w.heap.size (fun _ => True) (.slice Ao10 t1288.length co10) t1288) ∧ Aside0 (wc.heap[gb1292]? = some (.cells #[(.slice Ao10 t1288.length co10)] 26 (0, 0))) ∧ Aside0 (Below w.heap.size w wc))
     case first =>
      have H := HC22.out; clear HC22
      by_cases c27 : t1302.toList = t1304.toList
      ·rw [if_pos c27] at H
       have c27b0 := beq_iff_eq.mpr c27; have c27b1 := bne_eq_false_iff_eq.mpr c27; clear c27; (first | rw [c27b0] | (simp only [i64_w, i32_w]; rw [c27b0]) | skip)
       by_cases c28 : (t1303 != t1305) = true
       ·rw [if_pos c28] at H
        have c28b0 : (t1303 != t1305) = true := c28; (try (have c28b1 : decide (t1303 = t1305) = false := by simpa using c28)); (try (have c28b2 : (t1303 == t1305) = false := by simpa using c28)); (try (have c28b3 : ¬ (t1303 = t1305) := by simpa using c28)); clear c28
        as_aux_lemma =>
         have H' := am H; clear H
         go_wp2
         go_meet
         case rel => exact ⟨_, (true), ax31, H', ⟨ax310⟩, ⟨ax238⟩, ⟨ax311⟩, ⟨ax308⟩, ⟨ax305⟩⟩
       ·rw [if_neg c28] at H
        have c28b0 : (t1303 != t1305) = false := by simpa using c28
        (try (have c28b1 : decide (t1303 = t1305) = true := by simpa using c28)); (try (have c28b2 : (t1303 == t1305) = true := by simpa using c28)); clear c28
        as_aux_lemma =>
         have H' := am H; clear H
         go_wp2
         go_meet
         case rel => exact ⟨_, ((t1303 != t1296)), ax31, H', ⟨ax310⟩, ⟨ax238⟩, ⟨ax311⟩, ⟨ax308⟩, ⟨ax305⟩⟩
      ·rw [if_neg c27] at H
       have c27b0 := beq_eq_false_iff_ne.mpr c27; have c27b1 := bne_iff_ne.mpr c27; (first | rw [c27b0] | (simp only [i64_w, i32_w]; rw [c27b0]) | skip)
       as_aux_lemma =>
        have H' := am H; clear H
        go_wp2
        go_meet
        case rel => exact ⟨_, (true), ax31, H', ⟨ax310⟩, ⟨ax238⟩, ⟨ax311⟩, ⟨ax308⟩, ⟨ax305⟩⟩
     case rest =>
      clear HC22; (try clear hcz25_0);(try clear hfz25_0);(try clear hfz23_0);(try clear hcz23_0);(try clear c19); obtain ⟨kq, x105_21, rfl, HA, HJ21, HO_5, HO_1293000, BK1292, HB⟩ := hcut
      cases kq with
      | zero => exact absurd HA.out (by simp [laws_FnNodes.j1])
      | succ kj21 =>
       have H := HA.out; clear HA; simp only [laws_FnNodes.j1] at H
       by_cases c29 : x105_21 = true
       ·subst c29
        rw [if_pos rfl] at H
        as_aux_lemma =>
         exact absurd ((Option.some.inj H).trans HRT.out) (by decide)
       ·replace c29 := Bool.eq_false_iff.mpr c29
        subst c29; rw [if_neg (show ¬ (false = true) by decide)] at H; obtain ⟨⟨t1306, t1307⟩, A30, H⟩ := bs H; obtain ⟨⟨t1308, t1309⟩, A31, H⟩ := bs H; have HC32 := am H; clear H; have hcz33_0 := bc (.slice Ao10 t1288.length co10) BK1292 0; have hfz33_0 := blk_frozen BK1292.out 0
        go_upto_region 14 with (first | ((with_reducible refine gd 109 75 ?_); refine gc 109 Tryz.func75 #[.agg #[.slice Ao10 t1288.length co10], .int .i64 t1291] (impl_CountUnder.calls kj21 _ _ t1288 t1291 t1306 t1307 _ ax309 ((Kd.R_reads' HO_1293000.out).2.1) A30.out) ?_; rintro e w34 ⟨rfl, hb⟩; refine ⟨_, rfl, ?_⟩; replace HO_5 := uR HO_5 hb; replace HO_1293000 := uR HO_1293000 hb; replace BK1292 := ub BK1292 hb; replace HB := am (below_step ax305 hb); (try clear hb); have hcz35_0 := bc (.slice Ao10 t1288.length co10) BK1292 0; have hfz35_0 := blk_frozen BK1292.out 0) | ((with_reducible refine gd 115 76 ?_); refine gc 115 Tryz.func76 #[.agg #[.slice Ao10 t1288.length co10], .int .i64 t1291] (spec_CountUnder.calls kj21 _ _ t1288 t1291 t1308 t1309 _ ax309 ((Kd.R_reads' HO_1293000.out).2.1) A31.out) ?_; rintro e w36 ⟨rfl, hb⟩; refine ⟨_, rfl, ?_⟩; replace HO_5 := uR HO_5 hb; replace HO_1293000 := uR HO_1293000 hb; replace BK1292 := ub BK1292 hb; replace HB := am (below_step ax305 hb); (try clear hb)))
        (try simp only [Act.put, List.setIfInBounds_toArray, List.set_cons_zero, List.set_cons_succ])
        go_cut [130] from 1 to 0 (fun v130 wc => ∃ (kq : Nat) (x130_31 : Bool), v130 = .bool x130_31 ∧ Aside0 (laws_FnNodes.j2 kq l0 t1291 t1293 t1296 t1302 t1306 x130_31 t1288 = some r) ∧ Aside0 (kq ≤ kj21) ∧ Aside0 (Kd.R (Kd.int .i64) 3 wc w.heap.size (fun _ => True) v1294 t1293) ∧ Aside0 (Kd.R k74 74 wc w.heap.size (fun _ => True) (.slice Ao10 t1288.length co10) t1288) ∧ Aside0 (wc.heap[gb1292]? = some (.cells #[(.slice Ao10 t1288.length co10)] 26 (0, 0))) ∧ Aside0 (Below w.heap.size w wc))
        case first =>
         have H := HC32.out; clear HC32
         by_cases c37 : t1306 = t1308
         ·rw [if_pos c37] at H
          have c37b0 := beq_iff_eq.mpr c37; have c37b1 := bne_eq_false_iff_eq.mpr c37; clear c37; (first | rw [c37b0] | (simp only [i64_w, i32_w]; rw [c37b0]) | skip)
          by_cases c38 : (t1307 != t1309) = true
          ·rw [if_pos c38] at H
           have c38b0 : (t1307 != t1309) = true := c38; (try (have c38b1 : decide (t1307 = t1309) = false := by simpa using c38)); (try (have c38b2 : (t1307 == t1309) = false := by simpa using c38)); (try (have c38b3 : ¬ (t1307 = t1309) := by simpa using c38)); clear c38
           as_aux_lemma =>
            have H' := am H; clear H
            go_wp2
            go_meet
            case rel => exact ⟨_, (true), ax31, H', ⟨ax312⟩, ⟨ax238⟩, ⟨ax311⟩, ⟨ax308⟩, ⟨ax305⟩⟩
          ·rw [if_neg c38] at H
           have c38b0 : (t1307 != t1309) = false := by simpa using c38
           (try (have c38b1 : decide (t1307 = t1309) = true := by simpa using c38)); (try (have c38b2 : (t1307 == t1309) = true := by simpa using c38)); clear c38
           as_aux_lemma =>
            have H' := am H; clear H
            go_wp2
            go_meet
            case rel => exact ⟨_, ((t1307 != t1296)), ax31, H', ⟨ax312⟩, ⟨ax238⟩, ⟨ax311⟩, ⟨ax308⟩, ⟨ax305⟩⟩
         ·rw [if_neg c37] at H
          have c37b0 := beq_eq_false_iff_ne.mpr c37; have c37b1 := bne_iff_ne.mpr c37; (first | rw [c37b0] | (simp only [i64_w, i32_w]; rw [c37b0]) | skip)
          as_aux_lemma =>
           have H' := am H; clear H
           go_wp2
           go_meet
           case rel => exact ⟨_, (true), ax31, H', ⟨ax312⟩, ⟨ax238⟩, ⟨ax311⟩, ⟨ax308⟩, ⟨ax305⟩⟩
        case rest =>
         clear HC32; (try clear hcz35_0);(try clear hfz35_0);(try clear hfz33_0);(try clear hcz33_0);(try clear c29); obtain ⟨kq, x130_31, rfl, HA, HJ31, HO_5, HO_1293000, BK1292, HB⟩ := hcut
         cases kq with
         | zero => exact absurd HA.out (by simp [laws_FnNodes.j2])
         | succ kj31 =>
          have H := HA.out; clear HA; simp only [laws_FnNodes.j2] at H
          by_cases c39 : x130_31 = true
          ·subst c39
           rw [if_pos rfl] at H
           as_aux_lemma =>
            exact absurd ((Option.some.inj H).trans HRT.out) (by decide)
          ·replace c39 := Bool.eq_false_iff.mpr c39
           subst c39; rw [if_neg (show ¬ (false = true) by decide)] at H; obtain ⟨⟨t1310, t1313⟩, A40, H⟩ := bs H; obtain ⟨⟨t1315, t1316⟩, A41, H⟩ := bs H; obtain ⟨⟨t1317, t1318⟩, A42, H⟩ := bs H; have HC43 := am H; clear H
           go_upto_region 19 with (first | ((with_reducible refine gd 133 77 ?_); refine gc 133 Tryz.func77 #[.slice A0 l0.length c0] (spec_DrawNodeOf.calls kj31 _ _ l0 t1310 t1313 _ ax35 (HC0.out) A40.out) ?_; rintro e w44 ⟨v1311, rfl, ho0, hb⟩; refine ⟨_, rfl, ?_⟩; replace HO_5 := uR HO_5 hb; replace HO_1293000 := uR HO_1293000 hb; have HO1312 := am (Kd.R_lower ho0 (below_size ax305)); replace BK1292 := ub BK1292 hb; replace HB := am (below_step ax305 hb); (try clear hb ho0)) | ((with_reducible refine gate_dst (N := 17) rfl ?_); (try (refine gate_guard (by rfl) ?_; dsimp only)); refine bx 17 #[.slice none 0 0] 26 ?_; intro gb1314 hg w45 hbox hb; replace HO_5 := uR HO_5 hb; replace HO_1293000 := uR HO_1293000 hb; replace HO1312 := uR HO1312 hb; have BK1314 := am (hbox); have GW1314 := am ((ax313 : w.heap.size ≤ gb1314)); have GE1314 := am ((ax313 : w.heap.size ≤ gb1314)); replace HB := am (below_step ax305 hb); have NB1292_1314 := uN hg BK1292; have NB1314_1292 := uM hg BK1292; replace BK1292 := ub BK1292 hb; clear hb hbox hg; obtain ⟨Ao46, co46, eo46⟩ := Kd.R_slice HO1312.out; subst eo46; have hnb47 := NB1314_1292.out; have hnc47 := NB1292_1314.out; have hcz48_0 := bc (.slice none 0 0) BK1314 0; have hfz48_0 := blk_frozen BK1314.out 0) | ((with_reducible refine gd 139 78 ?_); refine gc 139 Tryz.func78 #[.agg #[.slice Ao46 t1310.length co46], .string t1313] (impl_NodeOf.calls kj31 _ _ t1310 t1313 t1315 t1316 _ (by refine (Kd.R_reads' (e := 74) (base := w.heap.size) (ok := fun k_ => True) (n := t1310.length) (c := co46) ?_).2.2; exact ax314) ((Kd.R_reads' HO1312.out).2.1) A41.out) ?_; rintro e w49 ⟨rfl, hb⟩; refine ⟨_, rfl, ?_⟩; replace HO_5 := am (Kd.R_below (by (with_reducible repeat (first | apply Kd.R_alloc | apply Kd.R_drewN | apply Kd.R_drew)); exact (Kd.R_mono (Kd.R_far (p := ⟨gb1314, 0, none⟩) (Kd.R_types HO_5.out BK1314.out (by decide)) (fun _ hk => hk.2) (.slice Ao46 t1310.length co46)) (fun _ h_ => h_.1))) hb); replace HO_1293000 := am (Kd.R_below (by (with_reducible repeat (first | apply Kd.R_alloc | apply Kd.R_drewN | apply Kd.R_drew)); exact (Kd.R_mono (Kd.R_far (p := ⟨gb1314, 0, none⟩) (Kd.R_types HO_1293000.out BK1314.out (by decide)) (fun _ hk => hk.2) (.slice Ao46 t1310.length co46)) (fun _ h_ => h_.1))) hb); replace HO1312 := am (Kd.R_below ax314 hb); replace BK1292 := am (blk_below (g := gb1292) (o := .cells #[.slice Ao10 t1288.length co10] 26 (0, 0)) (by (with_reducible repeat (first | refine blk_drewN ?_ _ | refine blk_drew ?_ | refine blk_alloc ?_ _)); refine blk_far ?_ NB1292_1314.out _; (with_reducible repeat (first | refine blk_drewN ?_ _ | refine blk_drew ?_ | refine blk_alloc ?_ _)); exact BK1292.out) hb); replace BK1314 := am (blk_below (g := gb1314) (o := .cells #[.slice Ao46 t1310.length co46] 26 (0, 0)) (by (with_reducible repeat (first | refine blk_drewN ?_ _ | refine blk_drew ?_ | refine blk_alloc ?_ _)); refine blk_put (cs := #[.slice none 0 0]) ?_ 0 _ rfl; (with_reducible repeat (first | refine blk_drewN ?_ _ | refine blk_drew ?_ | refine blk_alloc ?_ _)); exact BK1314.out) hb); replace HB := am (below_step ax315 hb); (try clear hb); have hcz50_0 := bc (.slice Ao46 t1310.length co46) BK1314 0; have hfz50_0 := blk_frozen BK1314.out 0) | ((with_reducible refine gd 145 79 ?_); refine gc 145 Tryz.func79 #[.agg #[.slice Ao46 t1310.length co46], .string t1313] (spec_NodeOf.calls kj31 _ _ t1310 t1313 t1317 t1318 _ (by repeat (first | exact (Kd.R_reads' HO1312.out).2.2 | (with_reducible refine Kd.C_alloc ?_ _) | (with_reducible refine Kd.C_drewN ?_ _) | (with_reducible refine Kd.C_drew ?_))) ((Kd.R_reads' HO1312.out).2.1) A42.out) ?_; rintro e w51 ⟨rfl, hb⟩; refine ⟨_, rfl, ?_⟩; replace HO_5 := uR HO_5 hb; replace HO_1293000 := uR HO_1293000 hb; replace HO1312 := uR HO1312 hb; replace BK1292 := ub BK1292 hb; replace BK1314 := ub BK1314 hb; replace HB := am (below_step ax315 hb); (try clear hb)))
           (try simp only [Act.put, List.setIfInBounds_toArray, List.set_cons_zero, List.set_cons_succ])
           go_cut [155] from 1 to 0 (fun v155 wc => ∃ (kq : Nat) (x155_42 : Bool), v155 = .bool x155_42 ∧ Aside0 (laws_FnNodes.j3 kq l0 t1291 t1293 t1296 t1302 t1306 t1313 t1315 t1316 x155_42 t1288 t1310 = some r) ∧ Aside0 (kq ≤ kj31) ∧ Aside0 (Kd.R (Kd.int .i64) 3 wc w.heap.size (fun _ => True) v1294 t1293) ∧ Aside0 (Kd.R k74 74 wc w.heap.size (fun _ => True) (.slice Ao10 t1288.length co10) t1288) ∧ Aside0 (Kd.R k74 74 wc w.heap.size (fun _ => True) (.slice Ao46 t1310.length co46) t1310) ∧ Aside0 (wc.heap[gb1292]? = some (.cells #[(.slice Ao10 t1288.length co10)] 26 (0, 0))) ∧ Aside0 (wc.heap[gb1314]? = some (.cells #[(.slice Ao46 t1310.length co46)] 26 (0, 0))) ∧ Aside0 (Below w.heap.size w wc))
           case first =>
            have H := HC43.out; clear HC43
            by_cases c52 : t1315 = t1317
            ·rw [if_pos c52] at H
             have c52b0 := beq_iff_eq.mpr c52; have c52b1 := bne_eq_false_iff_eq.mpr c52; clear c52; (first | rw [c52b0] | (simp only [i64_w, i32_w]; rw [c52b0]) | skip)
             as_aux_lemma =>
              have H' := am H; clear H
              go_wp2
              go_meet
              case rel => exact ⟨_, ((t1316 != t1318)), ax31, H', ⟨ax316⟩, ⟨ax238⟩, ⟨ax311⟩, ⟨ax317⟩, ⟨ax308⟩, ⟨ax318⟩, ⟨ax315⟩⟩
            ·rw [if_neg c52] at H
             have c52b0 := beq_eq_false_iff_ne.mpr c52; have c52b1 := bne_iff_ne.mpr c52; (first | rw [c52b0] | (simp only [i64_w, i32_w]; rw [c52b0]) | skip)
             as_aux_lemma =>
              have H' := am H; clear H
              go_wp2
              go_meet
              case rel => exact ⟨_, (true), ax31, H', ⟨ax316⟩, ⟨ax238⟩, ⟨ax311⟩, ⟨ax317⟩, ⟨ax308⟩, ⟨ax318⟩, ⟨ax315⟩⟩
           case rest =>
            clear HC43; (try clear c0);(try clear hcz48_0);(try clear hfz48_0);(try clear hcz50_0);(try clear hfz50_0);(try clear c39); obtain ⟨kq, x155_42, rfl, HA, HJ42, HO_5, HO_1293000, HO_1315000, BK1292, BK1314, HB⟩ := hcut
            cases kq with
            | zero => exact absurd HA.out (by simp [laws_FnNodes.j3])
            | succ kj42 =>
             have H := HA.out; clear HA; simp only [laws_FnNodes.j3] at H
             by_cases c53 : x155_42 = true
             ·subst c53
              rw [if_pos rfl] at H
              as_aux_lemma =>
               exact absurd ((Option.some.inj H).trans HRT.out) (by decide)
             ·replace c53 := Bool.eq_false_iff.mpr c53
              subst c53; rw [if_neg (show ¬ (false = true) by decide)] at H; obtain ⟨⟨t1319, t1320⟩, A54, H⟩ := bs H; obtain ⟨⟨t1321, t1322⟩, A55, H⟩ := bs H; have HC56 := am H; clear H; have hnb57 := NB1314_1292.out; have hnc57 := NB1292_1314.out; have hcz58_0 := bc (.slice Ao46 t1310.length co46) BK1314 0; have hfz58_0 := blk_frozen BK1314.out 0
              go_upto_region 23 with (first | ((with_reducible refine gd 159 80 ?_); refine gc 159 Tryz.func80 #[.agg #[.slice Ao46 t1310.length co46], .string t1313] (impl_RankOf.calls kj42 _ _ t1310 t1313 t1319 t1320 _ ax319 ((Kd.R_reads' HO_1315000.out).2.1) A54.out) ?_; rintro e w59 ⟨rfl, hb⟩; refine ⟨_, rfl, ?_⟩; replace HO_5 := uR HO_5 hb; replace HO_1293000 := uR HO_1293000 hb; replace HO_1315000 := uR HO_1315000 hb; replace BK1292 := ub BK1292 hb; replace BK1314 := ub BK1314 hb; replace HB := am (below_step ax315 hb); (try clear hb); have hcz60_0 := bc (.slice Ao46 t1310.length co46) BK1314 0; have hfz60_0 := blk_frozen BK1314.out 0) | ((with_reducible refine gd 165 81 ?_); refine gc 165 Tryz.func81 #[.agg #[.slice Ao46 t1310.length co46], .string t1313] (spec_RankOf.calls kj42 _ _ t1310 t1313 t1321 t1322 _ ax319 ((Kd.R_reads' HO_1315000.out).2.1) A55.out) ?_; rintro e w61 ⟨rfl, hb⟩; refine ⟨_, rfl, ?_⟩; replace HO_5 := uR HO_5 hb; replace HO_1293000 := uR HO_1293000 hb; replace HO_1315000 := uR HO_1315000 hb; replace BK1292 := ub BK1292 hb; replace BK1314 := ub BK1314 hb; replace HB := am (below_step ax315 hb); (try clear hb)))
              (try simp only [Act.put, List.setIfInBounds_toArray, List.set_cons_zero, List.set_cons_succ])
              go_cut [185] from 1 to 0 (fun v185 wc => ∃ (kq : Nat) (x185_55 : Bool), v185 = .bool x185_55 ∧ Aside0 (laws_FnNodes.j4 kq l0 t1291 t1293 t1296 t1302 t1306 t1313 t1315 t1316 x185_55 t1288 t1310 = some r) ∧ Aside0 (kq ≤ kj42) ∧ Aside0 (Kd.R (Kd.int .i64) 3 wc w.heap.size (fun _ => True) v1294 t1293) ∧ Aside0 (Kd.R k74 74 wc w.heap.size (fun _ => True) (.slice Ao10 t1288.length co10) t1288) ∧ Aside0 (Kd.R k74 74 wc w.heap.size (fun _ => True) (.slice Ao46 t1310.length co46) t1310) ∧ Aside0 (wc.heap[gb1292]? = some (.cells #[(.slice Ao10 t1288.length co10)] 26 (0, 0))) ∧ Aside0 (wc.heap[gb1314]? = some (.cells #[(.slice Ao46 t1310.length co46)] 26 (0, 0))) ∧ Aside0 (Below w.heap.size w wc))
              case first =>
               have H := HC56.out; clear HC56
               by_cases c62 : t1319 = t1321
               ·rw [if_pos c62] at H
                have c62b0 := beq_iff_eq.mpr c62; have c62b1 := bne_eq_false_iff_eq.mpr c62; clear c62; (first | rw [c62b0] | (simp only [i64_w, i32_w]; rw [c62b0]) | skip)
                by_cases c63 : (t1320 != t1322) = true
                ·rw [if_pos c63] at H
                 have c63b0 : (t1320 != t1322) = true := c63; (try (have c63b1 : decide (t1320 = t1322) = false := by simpa using c63)); (try (have c63b2 : (t1320 == t1322) = false := by simpa using c63)); (try (have c63b3 : ¬ (t1320 = t1322) := by simpa using c63)); clear c63
                 as_aux_lemma =>
                  have H' := am H; clear H
                  go_wp2
                  go_meet
                  case rel => exact ⟨_, (true), ax31, H', ⟨ax320⟩, ⟨ax238⟩, ⟨ax311⟩, ⟨ax321⟩, ⟨ax308⟩, ⟨ax318⟩, ⟨ax315⟩⟩
                ·rw [if_neg c63] at H
                 have c63b0 : (t1320 != t1322) = false := by simpa using c63
                 (try (have c63b1 : decide (t1320 = t1322) = true := by simpa using c63)); (try (have c63b2 : (t1320 == t1322) = true := by simpa using c63)); clear c63; obtain ⟨t1323, A64, H⟩ := bs H
                 by_cases c65 : t1323 = true
                 ·subst c65
                  rw [if_pos rfl] at H; obtain ⟨t1324, A66, H⟩ := bs H
                  as_aux_lemma =>
                   have H' := am H; clear H; have hnb67 := NB1314_1292.out; have hnc67 := NB1292_1314.out; have hcz68_0 := bc (.slice Ao46 t1310.length co46) BK1314 0; have hfz68_0 := blk_frozen BK1314.out 0
                   go_wp2_with (first | (go_at_call 53; (with_reducible refine (impl_IsTrie.calls kj42 _ _ t1310 true _ ?side1 ?side2 A64.out).mono ?_); (case side1 => exact ax319); (case side2 => exact (Kd.R_reads' HO_1315000.out).2.1); rintro e w69 ⟨rfl, hb⟩; replace HO_5 := uR HO_5 hb; replace HO_1293000 := uR HO_1293000 hb; replace HO_1315000 := uR HO_1315000 hb; replace BK1292 := ub BK1292 hb; replace BK1314 := ub BK1314 hb; replace HB := am (below_step ax315 hb); (try clear hb)) | (go_at_call 62; (with_reducible refine (impl_IsWord.calls t1313 t1324 _ A66.out).mono ?_); rintro e w70 ⟨rfl, hb⟩; replace HO_5 := uR HO_5 hb; replace HO_1293000 := uR HO_1293000 hb; replace HO_1315000 := uR HO_1315000 hb; replace BK1292 := ub BK1292 hb; replace BK1314 := ub BK1314 hb; replace HB := am (below_step ax315 hb); (try clear hb)))
                   go_meet
                   case rel => exact ⟨_, ((t1320 != t1324)), ax31, H', ⟨ax320⟩, ⟨ax238⟩, ⟨ax311⟩, ⟨ax321⟩, ⟨ax308⟩, ⟨ax318⟩, ⟨ax315⟩⟩
                 ·replace c65 := Bool.eq_false_iff.mpr c65
                  subst c65; rw [if_neg (show ¬ (false = true) by decide)] at H
                  as_aux_lemma =>
                   have H' := am H; clear H; have hnb71 := NB1314_1292.out; have hnc71 := NB1292_1314.out; have hcz72_0 := bc (.slice Ao46 t1310.length co46) BK1314 0; have hfz72_0 := blk_frozen BK1314.out 0
                   go_wp2_with (first | (go_at_call 53; (with_reducible refine (impl_IsTrie.calls kj42 _ _ t1310 false _ ?side1 ?side2 A64.out).mono ?_); (case side1 => exact ax319); (case side2 => exact (Kd.R_reads' HO_1315000.out).2.1); rintro e w73 ⟨rfl, hb⟩; replace HO_5 := uR HO_5 hb; replace HO_1293000 := uR HO_1293000 hb; replace HO_1315000 := uR HO_1315000 hb; replace BK1292 := ub BK1292 hb; replace BK1314 := ub BK1314 hb; replace HB := am (below_step ax315 hb); (try clear hb)))
                   go_meet
                   case rel => exact ⟨_, ((t1320 != false)), ax31, H', ⟨ax320⟩, ⟨ax238⟩, ⟨ax311⟩, ⟨ax321⟩, ⟨ax308⟩, ⟨ax318⟩, ⟨ax315⟩⟩
               ·rw [if_neg c62] at H
                have c62b0 := beq_eq_false_iff_ne.mpr c62; have c62b1 := bne_iff_ne.mpr c62; (first | rw [c62b0] | (simp only [i64_w, i32_w]; rw [c62b0]) | skip)
                as_aux_lemma =>
                 have H' := am H; clear H
                 go_wp2
                 go_meet
                 case rel => exact ⟨_, (true), ax31, H', ⟨ax320⟩, ⟨ax238⟩, ⟨ax311⟩, ⟨ax321⟩, ⟨ax308⟩, ⟨ax318⟩, ⟨ax315⟩⟩
              case rest =>
               clear HC56; (try clear hcz60_0);(try clear hfz60_0);(try clear hfz58_0);(try clear hcz58_0);(try clear c53); obtain ⟨kq, x185_55, rfl, HA, HJ55, HO_5, HO_1293000, HO_1315000, BK1292, BK1314, HB⟩ := hcut
               cases kq with
               | zero => exact absurd HA.out (by simp [laws_FnNodes.j4])
               | succ kj55 =>
                have H := HA.out; clear HA; simp only [laws_FnNodes.j4] at H
                by_cases c74 : x185_55 = true
                ·subst c74
                 rw [if_pos rfl] at H
                 as_aux_lemma =>
                  exact absurd ((Option.some.inj H).trans HRT.out) (by decide)
                ·replace c74 := Bool.eq_false_iff.mpr c74
                 subst c74; rw [if_neg (show ¬ (false = true) by decide)] at H; obtain ⟨⟨t1325, t1328⟩, A75, H⟩ := bs H; obtain ⟨⟨t1330, t1331⟩, A76, H⟩ := bs H; obtain ⟨⟨t1332, t1333⟩, A77, H⟩ := bs H; have HC78 := am H; clear H
                 go_upto_region 28 with (first | ((with_reducible refine gd 188 82 ?_); refine gc 188 Tryz.func82 #[.slice A0 l0.length c0] (spec_DrawWordAt.calls kj55 _ _ l0 t1325 t1328 _ ax35 (HC0.out) A75.out) ?_; rintro e w79 ⟨v1326, rfl, ho0, hb⟩; refine ⟨_, rfl, ?_⟩; replace HO_5 := uR HO_5 hb; replace HO_1293000 := uR HO_1293000 hb; replace HO_1315000 := uR HO_1315000 hb; have HO1327 := am (Kd.R_lower ho0 (below_size ax315)); replace BK1292 := ub BK1292 hb; replace BK1314 := ub BK1314 hb; replace HB := am (below_step ax315 hb); (try clear hb ho0)) | ((with_reducible refine gate_dst (N := 27) rfl ?_); (try (refine gate_guard (by rfl) ?_; dsimp only)); refine bx 27 #[.slice none 0 0] 26 ?_; intro gb1329 hg w80 hbox hb; replace HO_5 := uR HO_5 hb; replace HO_1293000 := uR HO_1293000 hb; replace HO_1315000 := uR HO_1315000 hb; replace HO1327 := uR HO1327 hb; have BK1329 := am (hbox); have GW1329 := am ((ax322 : w.heap.size ≤ gb1329)); have GE1329 := am ((ax322 : w.heap.size ≤ gb1329)); replace HB := am (below_step ax315 hb); have NB1292_1329 := uN hg BK1292; have NB1329_1292 := uM hg BK1292; replace BK1292 := ub BK1292 hb; have NB1314_1329 := uN hg BK1314; have NB1329_1314 := uM hg BK1314; replace BK1314 := ub BK1314 hb; clear hb hbox hg; obtain ⟨Ao81, co81, eo81⟩ := Kd.R_slice HO1327.out; subst eo81; have hnb82 := NB1329_1292.out; have hnc82 := NB1292_1329.out; have hnb83 := NB1329_1314.out; have hnc83 := NB1314_1329.out; have hcz84_0 := bc (.slice none 0 0) BK1329 0; have hfz84_0 := blk_frozen BK1329.out 0) | ((with_reducible refine gd 194 83 ?_); refine gc 194 Tryz.func83 #[.agg #[.slice Ao81 t1325.length co81], .int .i64 t1328] (impl_WordAt.calls kj55 _ _ t1325 t1328 t1330 t1331 _ (by refine (Kd.R_reads' (e := 74) (base := w.heap.size) (ok := fun k_ => True) (n := t1325.length) (c := co81) ?_).2.2; exact ax323) ((Kd.R_reads' HO1327.out).2.1) A76.out) ?_; rintro e w85 ⟨rfl, hb⟩; refine ⟨_, rfl, ?_⟩; replace HO_5 := am (Kd.R_below (by (with_reducible repeat (first | apply Kd.R_alloc | apply Kd.R_drewN | apply Kd.R_drew)); exact (Kd.R_mono (Kd.R_far (p := ⟨gb1329, 0, none⟩) (Kd.R_types HO_5.out BK1329.out (by decide)) (fun _ hk => hk.2) (.slice Ao81 t1325.length co81)) (fun _ h_ => h_.1))) hb); replace HO_1293000 := am (Kd.R_below (by (with_reducible repeat (first | apply Kd.R_alloc | apply Kd.R_drewN | apply Kd.R_drew)); exact (Kd.R_mono (Kd.R_far (p := ⟨gb1329, 0, none⟩) (Kd.R_types HO_1293000.out BK1329.out (by decide)) (fun _ hk => hk.2) (.slice Ao81 t1325.length co81)) (fun _ h_ => h_.1))) hb); replace HO_1315000 := am (Kd.R_below (by (with_reducible repeat (first | apply Kd.R_alloc | apply Kd.R_drewN | apply Kd.R_drew)); exact (Kd.R_mono (Kd.R_far (p := ⟨gb1329, 0, none⟩) (Kd.R_types HO_1315000.out BK1329.out (by decide)) (fun _ hk => hk.2) (.slice Ao81 t1325.length co81)) (fun _ h_ => h_.1))) hb); replace HO1327 := am (Kd.R_below ax323 hb); replace BK1292 := am (blk_below (g := gb1292) (o := .cells #[.slice Ao10 t1288.length co10] 26 (0, 0)) (by (with_reducible repeat (first | refine blk_drewN ?_ _ | refine blk_drew ?_ | refine blk_alloc ?_ _)); refine blk_far ?_ NB1292_1329.out _; (with_reducible repeat (first | refine blk_drewN ?_ _ | refine blk_drew ?_ | refine blk_alloc ?_ _)); exact BK1292.out) hb); replace BK1314 := am (blk_below (g := gb1314) (o := .cells #[.slice Ao46 t1310.length co46] 26 (0, 0)) (by (with_reducible repeat (first | refine blk_drewN ?_ _ | refine blk_drew ?_ | refine blk_alloc ?_ _)); refine blk_far ?_ NB1314_1329.out _; (with_reducible repeat (first | refine blk_drewN ?_ _ | refine blk_drew ?_ | refine blk_alloc ?_ _)); exact BK1314.out) hb); replace BK1329 := am (blk_below (g := gb1329) (o := .cells #[.slice Ao81 t1325.length co81] 26 (0, 0)) (by (with_reducible repeat (first | refine blk_drewN ?_ _ | refine blk_drew ?_ | refine blk_alloc ?_ _)); refine blk_put (cs := #[.slice none 0 0]) ?_ 0 _ rfl; (with_reducible repeat (first | refine blk_drewN ?_ _ | refine blk_drew ?_ | refine blk_alloc ?_ _)); exact BK1329.out) hb); replace HB := am (below_step ax324 hb); (try clear hb); have hcz86_0 := bc (.slice Ao81 t1325.length co81) BK1329 0; have hfz86_0 := blk_frozen BK1329.out 0) | ((with_reducible refine gd 200 84 ?_); refine gc 200 Tryz.func84 #[.agg #[.slice Ao81 t1325.length co81], .int .i64 t1328] (spec_WordAt.calls kj55 _ _ t1325 t1328 t1332 t1333 _ (by repeat (first | exact (Kd.R_reads' HO1327.out).2.2 | (with_reducible refine Kd.C_alloc ?_ _) | (with_reducible refine Kd.C_drewN ?_ _) | (with_reducible refine Kd.C_drew ?_))) ((Kd.R_reads' HO1327.out).2.1) A77.out) ?_; rintro e w87 ⟨rfl, hb⟩; refine ⟨_, rfl, ?_⟩; replace HO_5 := uR HO_5 hb; replace HO_1293000 := uR HO_1293000 hb; replace HO_1315000 := uR HO_1315000 hb; replace HO1327 := uR HO1327 hb; replace BK1292 := ub BK1292 hb; replace BK1314 := ub BK1314 hb; replace BK1329 := ub BK1329 hb; replace HB := am (below_step ax324 hb); (try clear hb)))
                 (try simp only [Act.put, List.setIfInBounds_toArray, List.set_cons_zero, List.set_cons_succ])
                 go_cut [210] from 1 to 0 (fun v210 wc => ∃ (kq : Nat) (x210_77 : Bool), v210 = .bool x210_77 ∧ Aside0 (laws_FnNodes.j5 kq t1291 t1293 t1296 t1302 t1306 t1313 t1315 t1316 t1328 t1330 t1331 x210_77 t1288 t1310 t1325 = some r) ∧ Aside0 (kq ≤ kj55) ∧ Aside0 (Kd.R (Kd.int .i64) 3 wc w.heap.size (fun _ => True) v1294 t1293) ∧ Aside0 (Kd.R k74 74 wc w.heap.size (fun _ => True) (.slice Ao10 t1288.length co10) t1288) ∧ Aside0 (Kd.R k74 74 wc w.heap.size (fun _ => True) (.slice Ao46 t1310.length co46) t1310) ∧ Aside0 (Kd.R k74 74 wc w.heap.size (fun _ => True) (.slice Ao81 t1325.length co81) t1325) ∧ Aside0 (wc.heap[gb1292]? = some (.cells #[(.slice Ao10 t1288.length co10)] 26 (0, 0))) ∧ Aside0 (wc.heap[gb1314]? = some (.cells #[(.slice Ao46 t1310.length co46)] 26 (0, 0))) ∧ Aside0 (wc.heap[gb1329]? = some (.cells #[(.slice Ao81 t1325.length co81)] 26 (0, 0))) ∧ Aside0 (Below w.heap.size w wc))
                 case first =>
                  have H := HC78.out; clear HC78
                  by_cases c88 : t1330.toList = t1332.toList
                  ·rw [if_pos c88] at H
                   have c88b0 := beq_iff_eq.mpr c88; have c88b1 := bne_eq_false_iff_eq.mpr c88; clear c88; (first | rw [c88b0] | (simp only [i64_w, i32_w]; rw [c88b0]) | skip)
                   as_aux_lemma =>
                    have H' := am H; clear H
                    go_wp2
                    go_meet
                    case rel => exact ⟨_, ((t1331 != t1333)), ax31, H', ⟨ax325⟩, ⟨ax238⟩, ⟨ax311⟩, ⟨ax321⟩, ⟨ax326⟩, ⟨ax308⟩, ⟨ax318⟩, ⟨ax327⟩, ⟨ax324⟩⟩
                  ·rw [if_neg c88] at H
                   have c88b0 := beq_eq_false_iff_ne.mpr c88; have c88b1 := bne_iff_ne.mpr c88; (first | rw [c88b0] | (simp only [i64_w, i32_w]; rw [c88b0]) | skip)
                   as_aux_lemma =>
                    have H' := am H; clear H
                    go_wp2
                    go_meet
                    case rel => exact ⟨_, (true), ax31, H', ⟨ax325⟩, ⟨ax238⟩, ⟨ax311⟩, ⟨ax321⟩, ⟨ax326⟩, ⟨ax308⟩, ⟨ax318⟩, ⟨ax327⟩, ⟨ax324⟩⟩
                 case rest =>
                  clear HC78; (try clear c0);(try clear hcz84_0);(try clear hfz84_0);(try clear hcz86_0);(try clear hfz86_0);(try clear c74); obtain ⟨kq, x210_77, rfl, HA, HJ77, HO_5, HO_1293000, HO_1315000, HO_1330000, BK1292, BK1314, BK1329, HB⟩ := hcut
                  cases kq with
                  | zero => exact absurd HA.out (by simp [laws_FnNodes.j5])
                  | succ kj77 =>
                   have H := HA.out; clear HA; simp only [laws_FnNodes.j5] at H
                   by_cases c89 : x210_77 = true
                   ·subst c89
                    rw [if_pos rfl] at H
                    as_aux_lemma =>
                     exact absurd ((Option.some.inj H).trans HRT.out) (by decide)
                   ·replace c89 := Bool.eq_false_iff.mpr c89
                    subst c89; rw [if_neg (show ¬ (false = true) by decide)] at H; obtain ⟨⟨t1334, t1335⟩, A90, H⟩ := bs H; obtain ⟨⟨t1336, t1337⟩, A91, H⟩ := bs H; have HC92 := am H; clear H; have hnb93 := NB1329_1292.out; have hnc93 := NB1292_1329.out; have hnb94 := NB1329_1314.out; have hnc94 := NB1314_1329.out; have hcz95_0 := bc (.slice Ao81 t1325.length co81) BK1329 0; have hfz95_0 := blk_frozen BK1329.out 0
                    go_upto_region 32 with (first | ((with_reducible refine gd 213 85 ?_); refine gc 213 Tryz.func85 #[.agg #[.slice Ao81 t1325.length co81]] (impl_DepthOf.calls kj77 _ _ t1325 t1334 t1335 _ ax328 ((Kd.R_reads' HO_1330000.out).2.1) A90.out) ?_; rintro e w96 ⟨rfl, hb⟩; refine ⟨_, rfl, ?_⟩; replace HO_5 := uR HO_5 hb; replace HO_1293000 := uR HO_1293000 hb; replace HO_1315000 := uR HO_1315000 hb; replace HO_1330000 := uR HO_1330000 hb; replace BK1292 := ub BK1292 hb; replace BK1314 := ub BK1314 hb; replace BK1329 := ub BK1329 hb; replace HB := am (below_step ax324 hb); (try clear hb); have hcz97_0 := bc (.slice Ao81 t1325.length co81) BK1329 0; have hfz97_0 := blk_frozen BK1329.out 0) | ((with_reducible refine gd 218 86 ?_); refine gc 218 Tryz.func86 #[.agg #[.slice Ao81 t1325.length co81]] (spec_DepthOf.calls kj77 _ _ t1325 t1336 t1337 _ ax328 ((Kd.R_reads' HO_1330000.out).2.1) A91.out) ?_; rintro e w98 ⟨rfl, hb⟩; refine ⟨_, rfl, ?_⟩; replace HO_5 := uR HO_5 hb; replace HO_1293000 := uR HO_1293000 hb; replace HO_1315000 := uR HO_1315000 hb; replace HO_1330000 := uR HO_1330000 hb; replace BK1292 := ub BK1292 hb; replace BK1314 := ub BK1314 hb; replace BK1329 := ub BK1329 hb; replace HB := am (below_step ax324 hb); (try clear hb)))
                    (try simp only [Act.put, List.setIfInBounds_toArray, List.set_cons_zero, List.set_cons_succ])
                    go_cut [234] from 1 to 0 (fun v234 wc => ∃ (kq : Nat) (x234_91 : Bool), v234 = .bool x234_91 ∧ Aside0 (laws_FnNodes.j6 kq t1291 t1293 t1296 t1302 t1306 t1313 t1315 t1316 t1328 t1330 t1331 t1334 t1335 x234_91 t1288 t1310 t1325 = some r) ∧ Aside0 (kq ≤ kj77) ∧ Aside0 (Kd.R (Kd.int .i64) 3 wc w.heap.size (fun _ => True) v1294 t1293) ∧ Aside0 (Kd.R k74 74 wc w.heap.size (fun _ => True) (.slice Ao10 t1288.length co10) t1288) ∧ Aside0 (Kd.R k74 74 wc w.heap.size (fun _ => True) (.slice Ao46 t1310.length co46) t1310) ∧ Aside0 (Kd.R k74 74 wc w.heap.size (fun _ => True) (.slice Ao81 t1325.length co81) t1325) ∧ Aside0 (wc.heap[gb1292]? = some (.cells #[(.slice Ao10 t1288.length co10)] 26 (0, 0))) ∧ Aside0 (wc.heap[gb1314]? = some (.cells #[(.slice Ao46 t1310.length co46)] 26 (0, 0))) ∧ Aside0 (wc.heap[gb1329]? = some (.cells #[(.slice Ao81 t1325.length co81)] 26 (0, 0))) ∧ Aside0 (Below w.heap.size w wc))
                    case first =>
                     have H := HC92.out; clear HC92
                     by_cases c99 : t1334 = t1336
                     ·rw [if_pos c99] at H
                      have c99b0 := beq_iff_eq.mpr c99; have c99b1 := bne_eq_false_iff_eq.mpr c99; clear c99; (first | rw [c99b0] | (simp only [i64_w, i32_w]; rw [c99b0]) | skip)
                      by_cases c100 : (t1335 != t1337) = true
                      ·rw [if_pos c100] at H
                       have c100b0 : (t1335 != t1337) = true := c100; (try (have c100b1 : decide (t1335 = t1337) = false := by simpa using c100)); (try (have c100b2 : (t1335 == t1337) = false := by simpa using c100)); (try (have c100b3 : ¬ (t1335 = t1337) := by simpa using c100)); clear c100
                       as_aux_lemma =>
                        have H' := am H; clear H
                        go_wp2
                        go_meet
                        case rel => exact ⟨_, (true), ax31, H', ⟨ax329⟩, ⟨ax238⟩, ⟨ax311⟩, ⟨ax321⟩, ⟨ax330⟩, ⟨ax308⟩, ⟨ax318⟩, ⟨ax327⟩, ⟨ax324⟩⟩
                      ·rw [if_neg c100] at H
                       have c100b0 : (t1335 != t1337) = false := by simpa using c100
                       (try (have c100b1 : decide (t1335 = t1337) = true := by simpa using c100)); (try (have c100b2 : (t1335 == t1337) = true := by simpa using c100)); clear c100; obtain ⟨t1338, A101, H⟩ := bs H
                       as_aux_lemma =>
                        have H' := am H; clear H; have hnb102 := NB1329_1292.out; have hnc102 := NB1292_1329.out; have hnb103 := NB1329_1314.out; have hnc103 := NB1314_1329.out; have hcz104_0 := bc (.slice Ao81 t1325.length co81) BK1329 0; have hfz104_0 := blk_frozen BK1329.out 0
                        go_wp2_with (first | (go_at_call 53; (with_reducible refine (impl_IsTrie.calls kj77 _ _ t1325 t1338 _ ?side1 ?side2 A101.out).mono ?_); (case side1 => exact ax328); (case side2 => exact (Kd.R_reads' HO_1330000.out).2.1); rintro e w105 ⟨rfl, hb⟩; replace HO_5 := uR HO_5 hb; replace HO_1293000 := uR HO_1293000 hb; replace HO_1315000 := uR HO_1315000 hb; replace HO_1330000 := uR HO_1330000 hb; replace BK1292 := ub BK1292 hb; replace BK1314 := ub BK1314 hb; replace BK1329 := ub BK1329 hb; replace HB := am (below_step ax324 hb); (try clear hb)))
                        go_meet
                        case rel => exact ⟨_, ((t1335 != t1338)), ax31, H', ⟨ax329⟩, ⟨ax238⟩, ⟨ax311⟩, ⟨ax321⟩, ⟨ax330⟩, ⟨ax308⟩, ⟨ax318⟩, ⟨ax327⟩, ⟨ax324⟩⟩
                     ·rw [if_neg c99] at H
                      have c99b0 := beq_eq_false_iff_ne.mpr c99; have c99b1 := bne_iff_ne.mpr c99; (first | rw [c99b0] | (simp only [i64_w, i32_w]; rw [c99b0]) | skip)
                      as_aux_lemma =>
                       have H' := am H; clear H
                       go_wp2
                       go_meet
                       case rel => exact ⟨_, (true), ax31, H', ⟨ax329⟩, ⟨ax238⟩, ⟨ax311⟩, ⟨ax321⟩, ⟨ax330⟩, ⟨ax308⟩, ⟨ax318⟩, ⟨ax327⟩, ⟨ax324⟩⟩
                    case rest =>
                     clear HC92; (try clear hcz97_0);(try clear hfz97_0);(try clear hfz95_0);(try clear hcz95_0);(try clear c89); obtain ⟨kq, x234_91, rfl, HA, HJ91, HO_5, HO_1293000, HO_1315000, HO_1330000, BK1292, BK1314, BK1329, HB⟩ := hcut
                     cases kq with
                     | zero => exact absurd HA.out (by simp [laws_FnNodes.j6])
                     | succ kj91 =>
                      have H := HA.out; clear HA; simp only [laws_FnNodes.j6] at H
                      by_cases c106 : x234_91 = true
                      ·subst c106
                       rw [if_pos rfl] at H
                       as_aux_lemma =>
                        exact absurd ((Option.some.inj H).trans HRT.out) (by decide)
                      ·replace c106 := Bool.eq_false_iff.mpr c106
                       subst c106; rw [if_neg (show ¬ (false = true) by decide)] at H; obtain ⟨⟨t1339, t1340⟩, A107, H⟩ := bs H; obtain ⟨⟨t1341, t1342⟩, A108, H⟩ := bs H; have HC109 := am H; clear H; have hnb110 := NB1329_1292.out; have hnc110 := NB1292_1329.out; have hnb111 := NB1329_1314.out; have hnc111 := NB1314_1329.out; have hcz112_0 := bc (.slice Ao81 t1325.length co81) BK1329 0; have hfz112_0 := blk_frozen BK1329.out 0
                       go_upto_region 36 with (first | ((with_reducible refine gd 237 87 ?_); refine gc 237 Tryz.func87 #[.agg #[.slice Ao81 t1325.length co81]] (impl_SaveOf.calls kj91 _ _ t1325 t1339 t1340 _ ax328 ((Kd.R_reads' HO_1330000.out).2.1) A107.out) ?_; rintro e w113 ⟨rfl, hb⟩; refine ⟨_, rfl, ?_⟩; replace HO_5 := uR HO_5 hb; replace HO_1293000 := uR HO_1293000 hb; replace HO_1315000 := uR HO_1315000 hb; replace HO_1330000 := uR HO_1330000 hb; replace BK1292 := ub BK1292 hb; replace BK1314 := ub BK1314 hb; replace BK1329 := ub BK1329 hb; replace HB := am (below_step ax324 hb); (try clear hb); have hcz114_0 := bc (.slice Ao81 t1325.length co81) BK1329 0; have hfz114_0 := blk_frozen BK1329.out 0) | ((with_reducible refine gd 242 88 ?_); refine gc 242 Tryz.func88 #[.agg #[.slice Ao81 t1325.length co81]] (spec_SaveOf.calls kj91 _ _ t1325 t1341 t1342 _ ax328 ((Kd.R_reads' HO_1330000.out).2.1) A108.out) ?_; rintro e w115 ⟨rfl, hb⟩; refine ⟨_, rfl, ?_⟩; replace HO_5 := uR HO_5 hb; replace HO_1293000 := uR HO_1293000 hb; replace HO_1315000 := uR HO_1315000 hb; replace HO_1330000 := uR HO_1330000 hb; replace BK1292 := ub BK1292 hb; replace BK1314 := ub BK1314 hb; replace BK1329 := ub BK1329 hb; replace HB := am (below_step ax324 hb); (try clear hb)))
                       (try simp only [Act.put, List.setIfInBounds_toArray, List.set_cons_zero, List.set_cons_succ])
                       go_cut [264] from 1 to 0 (fun v264 wc => ∃ (kq : Nat) (x264_108 : Bool), v264 = .bool x264_108 ∧ Aside0 (laws_FnNodes.j7 kq t1291 t1293 t1296 t1302 t1306 t1313 t1315 t1316 t1328 t1330 t1331 t1334 x264_108 t1288 t1310 t1325 = some r) ∧ Aside0 (kq ≤ kj91) ∧ Aside0 (Kd.R (Kd.int .i64) 3 wc w.heap.size (fun _ => True) v1294 t1293) ∧ Aside0 (Kd.R k74 74 wc w.heap.size (fun _ => True) (.slice Ao10 t1288.length co10) t1288) ∧ Aside0 (Kd.R k74 74 wc w.heap.size (fun _ => True) (.slice Ao46 t1310.length co46) t1310) ∧ Aside0 (Kd.R k74 74 wc w.heap.size (fun _ => True) (.slice Ao81 t1325.length co81) t1325) ∧ Aside0 (wc.heap[gb1292]? = some (.cells #[(.slice Ao10 t1288.length co10)] 26 (0, 0))) ∧ Aside0 (wc.heap[gb1314]? = some (.cells #[(.slice Ao46 t1310.length co46)] 26 (0, 0))) ∧ Aside0 (wc.heap[gb1329]? = some (.cells #[(.slice Ao81 t1325.length co81)] 26 (0, 0))) ∧ Aside0 (Below w.heap.size w wc))
                       case first =>
                        have H := HC109.out; clear HC109
                        by_cases c116 : t1339 = t1341
                        ·rw [if_pos c116] at H
                         have c116b0 := beq_iff_eq.mpr c116; have c116b1 := bne_eq_false_iff_eq.mpr c116; clear c116; (first | rw [c116b0] | (simp only [i64_w, i32_w]; rw [c116b0]) | skip)
                         by_cases c117 : (t1340 != t1342) = true
                         ·rw [if_pos c117] at H
                          have c117b0 : (t1340 != t1342) = true := c117; (try (have c117b1 : decide (t1340 = t1342) = false := by simpa using c117)); (try (have c117b2 : (t1340 == t1342) = false := by simpa using c117)); (try (have c117b3 : ¬ (t1340 = t1342) := by simpa using c117)); clear c117
                          as_aux_lemma =>
                           have H' := am H; clear H
                           go_wp2
                           go_meet
                           case rel => exact ⟨_, (true), ax31, H', ⟨ax331⟩, ⟨ax238⟩, ⟨ax311⟩, ⟨ax321⟩, ⟨ax330⟩, ⟨ax308⟩, ⟨ax318⟩, ⟨ax327⟩, ⟨ax324⟩⟩
                         ·rw [if_neg c117] at H
                          have c117b0 : (t1340 != t1342) = false := by simpa using c117
                          (try (have c117b1 : decide (t1340 = t1342) = true := by simpa using c117)); (try (have c117b2 : (t1340 == t1342) = true := by simpa using c117)); clear c117
                          by_cases c118 : (t1340 != t1335) = true
                          ·rw [if_pos c118] at H
                           have c118b0 : (t1340 != t1335) = true := c118; (try (have c118b1 : decide (t1340 = t1335) = false := by simpa using c118)); (try (have c118b2 : (t1340 == t1335) = false := by simpa using c118)); (try (have c118b3 : ¬ (t1340 = t1335) := by simpa using c118)); clear c118
                           as_aux_lemma =>
                            have H' := am H; clear H
                            go_wp2
                            go_meet
                            case rel => exact ⟨_, (true), ax31, H', ⟨ax331⟩, ⟨ax238⟩, ⟨ax311⟩, ⟨ax321⟩, ⟨ax330⟩, ⟨ax308⟩, ⟨ax318⟩, ⟨ax327⟩, ⟨ax324⟩⟩
                          ·rw [if_neg c118] at H
                           have c118b0 : (t1340 != t1335) = false := by simpa using c118
                           (try (have c118b1 : decide (t1340 = t1335) = true := by simpa using c118)); (try (have c118b2 : (t1340 == t1335) = true := by simpa using c118)); clear c118
                           by_cases c119 : t1340 = true
                           ·subst c119
                            rw [if_pos rfl] at H
                            as_aux_lemma =>
                             have H' := am H; clear H
                             go_wp2
                             go_meet
                             case rel => exact ⟨_, (decide (t1339 < 0)), ax31, H', ⟨ax331⟩, ⟨ax238⟩, ⟨ax311⟩, ⟨ax321⟩, ⟨ax330⟩, ⟨ax308⟩, ⟨ax318⟩, ⟨ax327⟩, ⟨ax324⟩⟩
                           ·replace c119 := Bool.eq_false_iff.mpr c119
                            subst c119; rw [if_neg (show ¬ (false = true) by decide)] at H
                            as_aux_lemma =>
                             have H' := am H; clear H
                             go_wp2
                             go_meet
                             case rel => exact ⟨_, (false), ax31, H', ⟨ax331⟩, ⟨ax238⟩, ⟨ax311⟩, ⟨ax321⟩, ⟨ax330⟩, ⟨ax308⟩, ⟨ax318⟩, ⟨ax327⟩, ⟨ax324⟩⟩
                        ·rw [if_neg c116] at H
                         have c116b0 := beq_eq_false_iff_ne.mpr c116; have c116b1 := bne_iff_ne.mpr c116; (first | rw [c116b0] | (simp only [i64_w, i32_w]; rw [c116b0]) | skip)
                         as_aux_lemma =>
                          have H' := am H; clear H
                          go_wp2
                          go_meet
                          case rel => exact ⟨_, (true), ax31, H', ⟨ax331⟩, ⟨ax238⟩, ⟨ax311⟩, ⟨ax321⟩, ⟨ax330⟩, ⟨ax308⟩, ⟨ax318⟩, ⟨ax327⟩, ⟨ax324⟩⟩
                       case rest =>
                        clear HC109; (try clear hcz114_0);(try clear hfz114_0);(try clear hfz112_0);(try clear hcz112_0);(try clear c106); obtain ⟨kq, x264_108, rfl, HA, HJ108, HO_5, HO_1293000, HO_1315000, HO_1330000, BK1292, BK1314, BK1329, HB⟩ := hcut
                        cases kq with
                        | zero => exact absurd HA.out (by simp [laws_FnNodes.j7])
                        | succ kj108 =>
                         have H := HA.out; clear HA; simp only [laws_FnNodes.j7] at H
                         by_cases c120 : x264_108 = true
                         ·subst c120
                          rw [if_pos rfl] at H
                          as_aux_lemma =>
                           exact absurd ((Option.some.inj H).trans HRT.out) (by decide)
                         ·replace c120 := Bool.eq_false_iff.mpr c120
                          subst c120; rw [if_neg (show ¬ (false = true) by decide)] at H; have HC121 := am H; clear H
                          go_upto_if 265 with (fail)
                          go_cut [] from 260 to 265 (fun wc => ∃ (kq : Nat), Aside0 (laws_FnNodes.j8 kq t1291 t1293 t1296 t1302 t1306 t1328 t1330 t1331 t1334 t1288 t1325 = some r) ∧ Aside0 (kq ≤ kj108) ∧ Aside0 (Kd.R (Kd.int .i64) 3 wc w.heap.size (fun _ => True) v1294 t1293) ∧ Aside0 (Kd.R k74 74 wc w.heap.size (fun _ => True) (.slice Ao10 t1288.length co10) t1288) ∧ Aside0 (Kd.R k74 74 wc w.heap.size (fun _ => True) (.slice Ao81 t1325.length co81) t1325) ∧ Aside0 (wc.heap[gb1292]? = some (.cells #[(.slice Ao10 t1288.length co10)] 26 (0, 0))) ∧ Aside0 (wc.heap[gb1329]? = some (.cells #[(.slice Ao81 t1325.length co81)] 26 (0, 0))) ∧ Aside0 (Below w.heap.size w wc))
                          case first =>
                           have H := HC121.out; clear HC121
                           by_cases c122 : t1316 = true
                           ·subst c122
                            rw [if_pos rfl] at H; obtain ⟨⟨t1343, t1344⟩, A123, H⟩ := bs H
                            by_cases c124 : t1344 = true
                            ·subst c124
                             rw [if_pos rfl] at H
                             by_cases c125 : t1343.toList = t1313.toList
                             ·rw [if_pos c125] at H
                              have c125b0 := beq_iff_eq.mpr c125; have c125b1 := bne_eq_false_iff_eq.mpr c125; clear c125; (first | rw [c125b0] | (simp only [i64_w, i32_w]; rw [c125b0]) | skip)
                              as_aux_lemma =>
                               have H' := am H; clear H; have hnb126 := NB1314_1292.out; have hnc126 := NB1292_1314.out; have hnb127 := NB1314_1329.out; have hnc127 := NB1329_1314.out; have hcz128_0 := bc (.slice Ao46 t1310.length co46) BK1314 0; have hfz128_0 := blk_frozen BK1314.out 0
                               go_wp2_with (first | ((with_reducible refine gd 269 73 ?_); refine gc 269 Tryz.func73 #[.agg #[.slice Ao46 t1310.length co46], .int .i64 t1315] (impl_PrefixOf.calls kj108 _ _ t1310 t1315 t1343 true _ ax319 ((Kd.R_reads' HO_1315000.out).2.1) A123.out) ?_; rintro e w129 ⟨rfl, hb⟩; refine ⟨_, rfl, ?_⟩; replace HO_5 := uR HO_5 hb; replace HO_1293000 := uR HO_1293000 hb; replace HO_1315000 := uR HO_1315000 hb; replace HO_1330000 := uR HO_1330000 hb; replace BK1292 := ub BK1292 hb; replace BK1314 := ub BK1314 hb; replace BK1329 := ub BK1329 hb; replace HB := am (below_step ax324 hb); (try clear hb)))
                               go_meet
                               case rel => exact ⟨_, H', ⟨ax332⟩, ⟨ax238⟩, ⟨ax311⟩, ⟨ax330⟩, ⟨ax308⟩, ⟨ax327⟩, ⟨ax324⟩⟩
                             ·rw [if_neg c125] at H
                              have c125b0 := beq_eq_false_iff_ne.mpr c125; have c125b1 := bne_iff_ne.mpr c125; (first | rw [c125b0] | (simp only [i64_w, i32_w]; rw [c125b0]) | skip)
                              as_aux_lemma =>
                               exact absurd ((Option.some.inj H).trans HRT.out) (by decide)
                            ·replace c124 := Bool.eq_false_iff.mpr c124
                             subst c124; rw [if_neg (show ¬ (false = true) by decide)] at H
                             as_aux_lemma =>
                              exact absurd ((Option.some.inj H).trans HRT.out) (by decide)
                           ·replace c122 := Bool.eq_false_iff.mpr c122
                            subst c122; rw [if_neg (show ¬ (false = true) by decide)] at H
                            as_aux_lemma =>
                             have H' := am H; clear H
                             go_wp2
                             go_meet
                             case rel => exact ⟨_, H', ⟨ax332⟩, ⟨ax238⟩, ⟨ax311⟩, ⟨ax330⟩, ⟨ax308⟩, ⟨ax327⟩, ⟨ax324⟩⟩
                          case rest =>
                           clear HC121; (try clear c120); obtain ⟨kq, HA, HJ120, HO_5, HO_1293000, HO_1330000, BK1292, BK1329, HB⟩ := hcut
                           cases kq with
                           | zero => exact absurd HA.out (by simp [laws_FnNodes.j8])
                           | succ kj120 =>
                            have H := HA.out; clear HA; simp only [laws_FnNodes.j8] at H; have HC130 := am H; clear H
                            go_upto_if 279 with (fail)
                            go_cut [] from 274 to 279 (fun wc => ∃ (kq : Nat), Aside0 (laws_FnNodes.j9 kq t1291 t1293 t1296 t1302 t1306 t1288 = some r) ∧ Aside0 (kq ≤ kj120) ∧ Aside0 (Kd.R (Kd.int .i64) 3 wc w.heap.size (fun _ => True) v1294 t1293) ∧ Aside0 (Kd.R k74 74 wc w.heap.size (fun _ => True) (.slice Ao10 t1288.length co10) t1288) ∧ Aside0 (wc.heap[gb1292]? = some (.cells #[(.slice Ao10 t1288.length co10)] 26 (0, 0))) ∧ Aside0 (Below w.heap.size w wc))
                            case first =>
                             have H := HC130.out; clear HC130
                             by_cases c131 : t1331 = true
                             ·subst c131
                              rw [if_pos rfl] at H; obtain ⟨⟨t1345, t1346⟩, A132, H⟩ := bs H
                              by_cases c133 : t1346 = true
                              ·subst c133
                               rw [if_pos rfl] at H
                               by_cases c134 : t1345 = t1328
                               ·rw [if_pos c134] at H
                                have c134b0 := beq_iff_eq.mpr c134; have c134b1 := bne_eq_false_iff_eq.mpr c134; clear c134; (first | rw [c134b0] | (simp only [i64_w, i32_w]; rw [c134b0]) | skip)
                                by_cases c135 : (t1330.size : Int) > t1334
                                ·rw [if_pos c135] at H
                                 have c135b0 := decide_eq_true c135; clear c135
                                 as_aux_lemma =>
                                  exact absurd ((Option.some.inj H).trans HRT.out) (by decide)
                                ·rw [if_neg c135] at H
                                 have c135b0 := decide_eq_false c135; clear c135
                                 as_aux_lemma =>
                                  have H' := am H; clear H; have hnb136 := NB1329_1292.out; have hnc136 := NB1292_1329.out; have hcz137_0 := bc (.slice Ao81 t1325.length co81) BK1329 0; have hfz137_0 := blk_frozen BK1329.out 0
                                  go_wp2_with (first | ((with_reducible refine gd 283 80 ?_); refine gc 283 Tryz.func80 #[.agg #[.slice Ao81 t1325.length co81], .string t1330] (impl_RankOf.calls kj120 _ _ t1325 t1330 t1345 true _ ax328 ((Kd.R_reads' HO_1330000.out).2.1) A132.out) ?_; rintro e w138 ⟨rfl, hb⟩; refine ⟨_, rfl, ?_⟩; replace HO_5 := uR HO_5 hb; replace HO_1293000 := uR HO_1293000 hb; replace HO_1330000 := uR HO_1330000 hb; replace BK1292 := ub BK1292 hb; replace BK1329 := ub BK1329 hb; replace HB := am (below_step ax333 hb); (try clear hb)))
                                  go_meet
                                  case rel => exact ⟨_, H', ⟨ax334⟩, ⟨ax238⟩, ⟨ax311⟩, ⟨ax308⟩, ⟨ax333⟩⟩
                               ·rw [if_neg c134] at H
                                have c134b0 := beq_eq_false_iff_ne.mpr c134; have c134b1 := bne_iff_ne.mpr c134; (first | rw [c134b0] | (simp only [i64_w, i32_w]; rw [c134b0]) | skip)
                                as_aux_lemma =>
                                 exact absurd ((Option.some.inj H).trans HRT.out) (by decide)
                              ·replace c133 := Bool.eq_false_iff.mpr c133
                               subst c133; rw [if_neg (show ¬ (false = true) by decide)] at H
                               as_aux_lemma =>
                                exact absurd ((Option.some.inj H).trans HRT.out) (by decide)
                             ·replace c131 := Bool.eq_false_iff.mpr c131
                              subst c131; rw [if_neg (show ¬ (false = true) by decide)] at H
                              as_aux_lemma =>
                               have H' := am H; clear H
                               go_wp2
                               go_meet
                               case rel => exact ⟨_, H', ⟨ax334⟩, ⟨ax238⟩, ⟨ax311⟩, ⟨ax308⟩, ⟨ax333⟩⟩
                            case rest =>
                             clear HC130; obtain ⟨kq, HA, HJ129, HO_5, HO_1293000, BK1292, HB⟩ := hcut
                             cases kq with
                             | zero => exact absurd HA.out (by simp [laws_FnNodes.j9])
                             | succ kj129 =>
                              have H := HA.out; clear HA; simp only [laws_FnNodes.j9] at H
                              by_cases c139 : t1296 = true
                              ·subst c139
                               rw [if_pos rfl] at H; obtain ⟨⟨t1347, t1348⟩, A140, H⟩ := bs H; have HC141 := am H; clear H; have hcz142_0 := bc (.slice Ao10 t1288.length co10) BK1292 0; have hfz142_0 := blk_frozen BK1292.out 0
                               go_upto_region 49 with (first | ((with_reducible refine gd 304 78 ?_); refine gc 304 Tryz.func78 #[.agg #[.slice Ao10 t1288.length co10], .string t1302] (impl_NodeOf.calls kj129 _ _ t1288 t1302 t1347 t1348 _ ax309 ((Kd.R_reads' HO_1293000.out).2.1) A140.out) ?_; rintro e w143 ⟨rfl, hb⟩; refine ⟨_, rfl, ?_⟩; replace HO_5 := uR HO_5 hb; replace HO_1293000 := uR HO_1293000 hb; replace BK1292 := ub BK1292 hb; replace HB := am (below_step ax305 hb); (try clear hb)))
                               (try simp only [Act.put, List.setIfInBounds_toArray, List.set_cons_zero, List.set_cons_succ])
                               go_cut [321] from 1 to 0 (fun v321 wc => ∃ (kq : Nat) (x321_140 : Bool), v321 = .bool x321_140 ∧ Aside0 (laws_FnNodes.j10 kq t1291 t1293 t1302 t1306 x321_140 t1288 = some r) ∧ Aside0 (kq ≤ kj129) ∧ Aside0 (Kd.R (Kd.int .i64) 3 wc w.heap.size (fun _ => True) v1294 t1293) ∧ Aside0 (Kd.R k74 74 wc w.heap.size (fun _ => True) (.slice Ao10 t1288.length co10) t1288) ∧ Aside0 (wc.heap[gb1292]? = some (.cells #[(.slice Ao10 t1288.length co10)] 26 (0, 0))) ∧ Aside0 (Below w.heap.size w wc))
                               case first =>
                                have H := HC141.out; clear HC141
                                by_cases c144 : t1348 = true
                                ·subst c144
                                 rw [if_pos rfl] at H
                                 by_cases c145 : t1347 = t1291
                                 ·rw [if_pos c145] at H
                                  have c145b0 := beq_iff_eq.mpr c145; have c145b1 := bne_eq_false_iff_eq.mpr c145; clear c145; (first | rw [c145b0] | (simp only [i64_w, i32_w]; rw [c145b0]) | skip)
                                  by_cases c146 : t1291 > 0
                                  ·rw [if_pos c146] at H
                                   have c146b0 := decide_eq_true c146; clear c146
                                   as_aux_lemma =>
                                    have H' := am H; clear H
                                    go_wp2
                                    go_meet
                                    case rel => exact ⟨_, (decide (t1306 < 1)), ax31, H', ⟨ax335⟩, ⟨ax238⟩, ⟨ax311⟩, ⟨ax308⟩, ⟨ax305⟩⟩
                                  ·rw [if_neg c146] at H
                                   have c146b0 := decide_eq_false c146; clear c146
                                   as_aux_lemma =>
                                    have H' := am H; clear H
                                    go_wp2
                                    go_meet
                                    case rel => exact ⟨_, (false), ax31, H', ⟨ax335⟩, ⟨ax238⟩, ⟨ax311⟩, ⟨ax308⟩, ⟨ax305⟩⟩
                                 ·rw [if_neg c145] at H
                                  have c145b0 := beq_eq_false_iff_ne.mpr c145; have c145b1 := bne_iff_ne.mpr c145; (first | rw [c145b0] | (simp only [i64_w, i32_w]; rw [c145b0]) | skip)
                                  as_aux_lemma =>
                                   have H' := am H; clear H
                                   go_wp2
                                   go_meet
                                   case rel => exact ⟨_, (true), ax31, H', ⟨ax335⟩, ⟨ax238⟩, ⟨ax311⟩, ⟨ax308⟩, ⟨ax305⟩⟩
                                ·replace c144 := Bool.eq_false_iff.mpr c144
                                 subst c144; rw [if_neg (show ¬ (false = true) by decide)] at H
                                 as_aux_lemma =>
                                  have H' := am H; clear H
                                  go_wp2
                                  go_meet
                                  case rel => exact ⟨_, (true), ax31, H', ⟨ax335⟩, ⟨ax238⟩, ⟨ax311⟩, ⟨ax308⟩, ⟨ax305⟩⟩
                               case rest =>
                                clear HC141; (try clear hfz142_0);(try clear hcz142_0);(try clear c139); obtain ⟨kq, x321_140, rfl, HA, HJ140, HO_5, HO_1293000, BK1292, HB⟩ := hcut
                                cases kq with
                                | zero => exact absurd HA.out (by simp [laws_FnNodes.j10])
                                | succ kj140 =>
                                 have H := HA.out; clear HA; simp only [laws_FnNodes.j10] at H
                                 by_cases c147 : x321_140 = true
                                 ·subst c147
                                  rw [if_pos rfl] at H
                                  as_aux_lemma =>
                                   exact absurd ((Option.some.inj H).trans HRT.out) (by decide)
                                 ·replace c147 := Bool.eq_false_iff.mpr c147
                                  subst c147; rw [if_neg (show ¬ (false = true) by decide)] at H
                                  by_cases c148 : 0 ≤ t1291
                                  ·rw [if_pos c148] at H
                                   have c148b0 := decide_eq_true c148; clear c148
                                   by_cases c149 : t1291 < (t1288.length : Int)
                                   ·rw [if_pos c149] at H
                                    have c149b0 := decide_eq_true c149; clear c149; have HC150 := am H; clear H; have hcz151_0 := bc (.slice Ao10 t1288.length co10) BK1292 0; have hfz151_0 := blk_frozen BK1292.out 0; have p1349 : 0 ≤ (t1291 : Int) := of_decide_eq_true ax26; have q1349 : t1291 < (t1288.length : Int) := of_decide_eq_true ax26; obtain ⟨ad1349, e1349, hx1349_0, hx1349_1, hx1349_2⟩ := at_T74 (Kd.R_reads' HO_1293000.out).2.2 t1291 p1349 q1349
                                    cases e1349
                                    replace p1349 := eq_true p1349; replace q1349 := eq_true q1349
                                    go_upto_if 327 with (fail)
                                    go_cut [47] from 322 to 327 (fun v47 wc => ∃ (kq : Nat) (x47_149 : Int), v47 = .int .i64 x47_149 ∧ Aside0 (laws_FnNodes.j11 kq t1293 t1302 t1306 x47_149 t1288 = some r) ∧ Aside0 (kq ≤ kj140) ∧ Aside0 (Kd.R (Kd.int .i64) 3 wc w.heap.size (fun _ => True) v1294 t1293) ∧ Aside0 (Kd.R k74 74 wc w.heap.size (fun _ => True) (.slice (some ad1349) t1288.length co10) t1288) ∧ Aside0 (wc.heap[gb1292]? = some (.cells #[(.slice (some ad1349) t1288.length co10)] 26 (0, 0))) ∧ Aside0 (Below w.heap.size w wc))
                                    case first =>
                                     have H := HC150.out; clear HC150; obtain ⟨bq152, hbq152⟩ : ∃ b_ : Bool, b_ = ((rd_T74 t1288 t1291).f2) := ⟨_, rfl⟩
                                     replace H : (if bq152 = true then (laws_FnNodes.j11 kj140 t1293 t1302 t1306 1 t1288) else (laws_FnNodes.j11 kj140 t1293 t1302 t1306 0 t1288)) = some r := by rw [← hbq152] at H; exact H
                                     have Nbq152 := am hbq152; clear hbq152; (try rw [← Nbq152.out])
                                     by_cases c153 : bq152 = true
                                     ·subst c153
                                      rw [if_pos rfl] at H
                                      as_aux_lemma =>
                                       have H' := am H; clear H
                                       go_wp2
                                       go_meet
                                       case rel => exact ⟨_, (1), ax31, H', ⟨ax336⟩, ⟨ax238⟩, ⟨ax311⟩, ⟨ax308⟩, ⟨ax305⟩⟩
                                     ·replace c153 := Bool.eq_false_iff.mpr c153
                                      subst c153; rw [if_neg (show ¬ (false = true) by decide)] at H
                                      as_aux_lemma =>
                                       have H' := am H; clear H
                                       go_wp2
                                       go_meet
                                       case rel => exact ⟨_, (0), ax31, H', ⟨ax336⟩, ⟨ax238⟩, ⟨ax311⟩, ⟨ax308⟩, ⟨ax305⟩⟩
                                    case rest =>
                                     clear HC150; (try clear q1349);(try clear p1349);(try clear hx1349_0);(try clear hx1349_1);(try clear hx1349_2);(try clear hfz151_0);(try clear hcz151_0);(try clear c149);(try clear c149b0);(try clear c148);(try clear c148b0);(try clear c147); obtain ⟨kq, x47_149, rfl, HA, HJ149, HO_5, HO_1293000, BK1292, HB⟩ := hcut
                                     cases kq with
                                     | zero => exact absurd HA.out (by simp [laws_FnNodes.j11])
                                     | succ kj149 =>
                                      have H := HA.out; clear HA; simp only [laws_FnNodes.j11] at H; have H' := am H; clear H
                                      go_wp2
                                      go_loopg [47, 48] kj149 (fun kq v47 v48 w' => ∃ (x47_13 : Int) (x48_13 : Int), v47 = .int .i64 x47_13 ∧ v48 = .int .i64 x48_13 ∧ Aside0 (laws_FnNodes.l0 kq t1293 t1302 t1306 x47_13 x48_13 t1288 = some r) ∧ Aside0 (kq ≤ kj149) ∧ Aside0 (Kd.R (Kd.int .i64) 3 w' w.heap.size (fun _ => True) v1294 t1293) ∧ Aside0 (Kd.R k74 74 w' w.heap.size (fun _ => True) (.slice (some ad1349) t1288.length co10) t1288) ∧ Aside0 (w'.heap[gb1292]? = some (.cells #[(.slice (some ad1349) t1288.length co10)] 26 (0, 0))) ∧ Aside0 (Below w.heap.size w w'))
                                      case atStart => exact ⟨(x47_149), (0), ax31, ax31, H', ⟨Nat.le_refl _⟩, ⟨ax238⟩, ⟨ax311⟩, ⟨ax308⟩, ⟨ax305⟩⟩
                                      case round =>
                                       clear H'; obtain ⟨x47_13, x48_13, rfl, rfl, HA, HK13, HO_5, HO_1293000, BK1292, HB⟩ := hrel
                                       cases gk with
                                       | zero => exact absurd HA.out (by simp [laws_FnNodes.l0])
                                       | succ k13 =>
                                        have H := HA.out; clear HA; simp only [laws_FnNodes.l0] at H
                                        by_cases c154 : x48_13 < (t1293.length : Int)
                                        ·rw [if_pos c154] at H
                                         have c154b0 := decide_eq_true c154; clear c154
                                         by_cases c155 : 0 ≤ x48_13
                                         ·rw [if_pos c155] at H
                                          have c155b0 := decide_eq_true c155; clear c155; obtain ⟨⟨t1351, t1352⟩, A156, H⟩ := bs H; obtain ⟨⟨t1354, t1355⟩, A157, H⟩ := bs H
                                          by_cases c158 : t1352 = true
                                          ·subst c158
                                           rw [if_pos rfl] at H
                                           by_cases c159 : t1355 = true
                                           ·subst c159
                                            rw [if_pos rfl] at H
                                            by_cases c160 : (t1354.size : Int) = (wrap64 ((t1302.size : Int) + 1))
                                            ·rw [if_pos c160] at H
                                             have c160b0 := beq_iff_eq.mpr c160; have c160b1 := bne_eq_false_iff_eq.mpr c160; clear c160
                                             by_cases c161 : 0 ≤ (t1302.size : Int)
                                             ·rw [if_pos c161] at H
                                              have c161b0 := eq_true c161; have c161b1 := decide_eq_true c161; clear c161
                                              by_cases c162 : (t1302.size : Int) ≤ (t1354.size : Int)
                                              ·rw [if_pos c162] at H
                                               have c162b0 := eq_true c162; have c162b1 := decide_eq_true c162; clear c162; obtain ⟨js163, hjs163⟩ : ∃ j_ : ByteArray, (t1354.extract 0 t1302.size) = j_ := ⟨_, rfl⟩; (first | rw [hjs163] at H | simp only [hjs163] at H)
                                               by_cases c164 : js163.toList = t1302.toList
                                               ·rw [if_pos c164] at H
                                                have c164b0 := beq_iff_eq.mpr c164; have c164b1 := bne_eq_false_iff_eq.mpr c164; clear c164
                                                as_aux_lemma =>
                                                 have H' := am H; clear H; obtain ⟨Ao165, co165, eo165⟩ := Kd.R_slice HO_5.out; subst eo165
                                                 try go_wp2
                                                 replace HO_5 := am (Kd.R_drew HO_5.out); replace HO_1293000 := am (Kd.R_drew HO_1293000.out); replace BK1292 := am (blk_drew BK1292.out); replace HB := am (below_drew1 HB.out); have p1350 : 0 ≤ (x48_13 : Int) := of_decide_eq_true ax26; have q1350 : x48_13 < (t1293.length : Int) := of_decide_eq_true ax26; obtain ⟨ad1350, e1350, hx1350_0⟩ := Kd.at_int (Kd.R_reads' HO_5.out).2.2 x48_13 p1350 q1350
                                                 cases e1350
                                                 replace p1350 := eq_true p1350; replace q1350 := eq_true q1350; refine start_ (n := 11) (S := fun w' => w'.cell? ⟨gb1292, 0, none⟩ = some (.slice (some ad1349) t1288.length co10) ∧ w'.cell? (ad1350.add (x48_13).toNat) = some (.int .i64 (rd t1293 x48_13))) (ds := []) (ob 11 0) (by kernel_rfl) rfl rfl ⟨(blk_cell BK1292.out 0).trans rfl, hx1350_0⟩ (fun hHeld => ?_); refine with_tabW laws_FnNodes.tab57 laws_FnNodes.bits57 (fun HT_ HW_ => ?_); generalize wr.drew = w166 at HO_5 HO_1293000 BK1292 HB hx1350_0 hHeld ⊢; refine pu 1 336 ?_; refine pu 2 337 ?_; refine pu 3 338 ?_; refine tk 0 335 ?_; refine tk 4 339 ?_; refine one_ (i := 5) (N := some 340) (ob 11 63) rfl rfl (one_of HT_.out (by kernel_rfl)) (by decide) (fun K hK => ?_); refine goes_ Tryz.func75 (by kernel_rfl) rfl #[.agg #[.slice (some ad1349) t1288.length co10], .int .i64 (rd t1293 x48_13)] (by rfl) rfl rfl ax42 ?_
                                                 with_reducible refine (impl_CountUnder.calls k13 _ _ t1288 (rd t1293 x48_13) t1351 true _ ?side1 ?side2 A156.out).mono ?_
                                                 (case side1 => exact ax309)
                                                 (case side2 => exact (Kd.R_reads' HO_1293000.out).2.1)
                                                 rintro e w167 ⟨rfl, hb⟩; have HS1_ := (hb.cell (World.block_lt_of_cell? _ _ (hHeld.2))).trans (hHeld.2); refine ⟨_, rfl, ?_⟩; replace HO_5 := uR HO_5 hb; replace HO_1293000 := uR HO_1293000 hb; replace BK1292 := ub BK1292 hb; replace HB := am (below_step ax305 hb); (try clear hb); (try clear hb2); (try clear hk); (try clear hi); refine hK.out _ _ ⟨(blk_cell BK1292.out 0).trans rfl, HS1_⟩ (fun hHeld => ?_); clear hK K; refine nm 340 ?_; refine pu 6 334 ?_; refine pu 7 341 ?_; refine pu 8 342 ?_; refine pu 9 49 ?_; refine pu 10 50 ?_; refine dn ?_
                                                 try go_wp2
                                                 replace HO_5 := am (Kd.R_drew HO_5.out); replace HO_1293000 := am (Kd.R_drew HO_1293000.out); replace BK1292 := am (blk_drew BK1292.out); replace HB := am (below_drew1 HB.out); have p1353 : 0 ≤ (x48_13 : Int) := of_decide_eq_true ax26; have q1353 : x48_13 < (t1293.length : Int) := of_decide_eq_true ax26; obtain ⟨ad1353, e1353, hx1353_0⟩ := Kd.at_int (Kd.R_reads' HO_5.out).2.2 x48_13 p1353 q1353; obtain rfl : ad1350 = ad1353 := (by injection e1353); replace p1353 := eq_true p1353; replace q1353 := eq_true q1353; refine start_ (n := 11) (S := fun w' => w'.cell? ⟨gb1292, 0, none⟩ = some (.slice (some ad1349) t1288.length co10) ∧ w'.cell? (ad1350.add (x48_13).toNat) = some (.int .i64 (rd t1293 x48_13))) (ds := []) (ob 11 0) (by kernel_rfl) rfl rfl ⟨(blk_cell BK1292.out 0).trans rfl, hx1353_0⟩ (fun hHeld => ?_); refine with_tabW laws_FnNodes.tab58 laws_FnNodes.bits58 (fun HT_ HW_ => ?_); generalize w167.drew = w168 at HO_5 HO_1293000 BK1292 HB hx1353_0 hHeld ⊢; refine pu 1 345 ?_; refine pu 2 346 ?_; refine pu 3 347 ?_; refine tk 0 344 ?_; refine tk 4 348 ?_; refine one_ (i := 5) (N := some 349) (ob 11 63) rfl rfl (one_of HT_.out (by kernel_rfl)) (by decide) (fun K hK => ?_); refine goes_ Tryz.func73 (by kernel_rfl) rfl #[.agg #[.slice (some ad1349) t1288.length co10], .int .i64 (rd t1293 x48_13)] (by rfl) rfl rfl ax42 ?_
                                                 with_reducible refine (impl_PrefixOf.calls k13 _ _ t1288 (rd t1293 x48_13) t1354 true _ ?side1 ?side2 A157.out).mono ?_
                                                 (case side1 => exact ax309)
                                                 (case side2 => exact (Kd.R_reads' HO_1293000.out).2.1)
                                                 rintro e w169 ⟨rfl, hb⟩; have HS1_ := (hb.cell (World.block_lt_of_cell? _ _ (hHeld.2))).trans (hHeld.2); refine ⟨_, rfl, ?_⟩; replace HO_5 := uR HO_5 hb; replace HO_1293000 := uR HO_1293000 hb; replace BK1292 := ub BK1292 hb; replace HB := am (below_step ax305 hb); (try clear hb); (try clear hb2); (try clear hk); (try clear hi); refine hK.out _ _ ⟨(blk_cell BK1292.out 0).trans rfl, HS1_⟩ (fun hHeld => ?_); clear hK K; refine nm 349 ?_; refine pu 6 343 ?_; refine pu 7 350 ?_; refine pu 8 351 ?_; refine pu 9 51 ?_; refine pu 10 52 ?_; refine dn ?_
                                                 try go_wp2
                                                 go_roundg k13
                                                 case measure => have := HJ6.out; have := HJ21.out; have := HJ31.out; have := HJ42.out; have := HJ55.out; have := HJ77.out; have := HJ91.out; have := HJ108.out; have := HJ120.out; have := HJ129.out; have := HJ140.out; have := HJ149.out; have := HK13.out; omega
                                                 case rel => exact ⟨(wrap64 (x47_13 + t1351)), (wrap64 (x48_13 + 1)), ax31, ax31, H', ⟨(by have := HJ6.out; have := HJ21.out; have := HJ31.out; have := HJ42.out; have := HJ55.out; have := HJ77.out; have := HJ91.out; have := HJ108.out; have := HJ120.out; have := HJ129.out; have := HJ140.out; have := HJ149.out; have := HK13.out; omega)⟩, ⟨ax238⟩, ⟨ax311⟩, ⟨ax308⟩, ⟨ax305⟩⟩
                                               ·rw [if_neg c164] at H
                                                have c164b0 := beq_eq_false_iff_ne.mpr c164; have c164b1 := bne_iff_ne.mpr c164
                                                as_aux_lemma =>
                                                 exact absurd ((Option.some.inj H).trans HRT.out) (by decide)
                                              ·rw [if_neg c162] at H
                                               exact absurd H (by simp)
                                             ·rw [if_neg c161] at H
                                              exact absurd H (by simp)
                                            ·rw [if_neg c160] at H
                                             have c160b0 := beq_eq_false_iff_ne.mpr c160; have c160b1 := bne_iff_ne.mpr c160
                                             as_aux_lemma =>
                                              exact absurd ((Option.some.inj H).trans HRT.out) (by decide)
                                           ·replace c159 := Bool.eq_false_iff.mpr c159
                                            subst c159; rw [if_neg (show ¬ (false = true) by decide)] at H
                                            as_aux_lemma =>
                                             exact absurd ((Option.some.inj H).trans HRT.out) (by decide)
                                          ·replace c158 := Bool.eq_false_iff.mpr c158
                                           subst c158; rw [if_neg (show ¬ (false = true) by decide)] at H
                                           as_aux_lemma =>
                                            exact absurd ((Option.some.inj H).trans HRT.out) (by decide)
                                         ·rw [if_neg c155] at H
                                          exact absurd H (by simp)
                                        ·rw [if_neg c154] at H
                                         have c154b0 := decide_eq_false c154; clear c154
                                         as_aux_lemma =>
                                          obtain rfl := Option.some.inj H; obtain ⟨Ao170, co170, eo170⟩ := Kd.R_slice HO_5.out; subst eo170
                                          go_wp2
                                          go_ret
                                          exact ⟨ax27, ax305⟩
                                   ·rw [if_neg c149] at H
                                    exact absurd H (by simp)
                                  ·rw [if_neg c148] at H
                                   exact absurd H (by simp)
                              ·replace c139 := Bool.eq_false_iff.mpr c139
                               subst c139; rw [if_neg (show ¬ (false = true) by decide)] at H
                               as_aux_lemma =>
                                obtain rfl := Option.some.inj H
                                go_wp2
                                go_ret
                                exact ⟨ax27, ax305⟩

end Go.Proofs.YtcplbbflfgckbaaGreatDoor.X

-- By gen.py (the session's own program over the kit's printer): functions of the program, each with its contract. Lean checks it.
import Derived.Test.YtcplbbflfgckbaaGreatDoorX0
import Derived.Test.YtcplbbflfgckbaaGreatDoorX8
import Derived.Test.YtcplbbflfgckbaaGreatDoorX10
import Derived.Test.YtcplbbflfgckbaaGreatDoorX14
import Derived.Test.YtcplbbflfgckbaaGreatDoorX15
import Derived.Test.YtcplbbflfgckbaaGreatDoorX16
import Derived.Test.YtcplbbflfgckbaaGreatDoorX17
import Derived.Test.YtcplbbflfgckbaaGreatDoorX19
namespace Go.Proofs.YtcplbbflfgckbaaGreatDoor.X
open Go.RowKit Go.Proofs.YtcplbbflfgckbaaGreatDoorW.PrintWords Go.Proofs.YtcplbbflfgckbaaGreatDoorW.PrintLast Go.Proofs.YtcplbbflfgckbaaGreatDoorW.PrintMore
attribute [local go_sem] max2_int min2_int max_two min_two max_three min_three max_four min_four   -- for this text's walks alone
set_option linter.unusedVariables false
set_option linter.unusedSimpArgs false

/-! ### spec_l2Under: function 166 -/
def spec_l2Under.l0 : Nat → List ByteArray → List ByteArray → ByteArray → Int → Option (List ByteArray)
 | 0, _, _, _, _ => none
 | k + 1, x5, x6, x7, x8 => if x8 < (x6.length : Int) then (if 0 ≤ x8 then ((spec_l2Begins.f (rdOf ByteArray.empty x6 x8) x7).bind fun t1184 => (if t1184 = true then (if x5.length < 8796093022208 then (spec_l2Under.l0 k (x5 ++ [rdOf ByteArray.empty x6 x8]) x6 x7 (wrap64 (x8 + 1))) else (none)) else (spec_l2Under.l0 k x5 x6 x7 (wrap64 (x8 + 1))))) else (none)) else (some x5)
def spec_l2Under.f (k : Nat) (l0_0 : List (S74)) (a1 : Int) : Option (List ByteArray) := (spec_l2Words.f k l0_0).bind fun t1179 => ((spec_l2Prefix.f k l0_0 a1).bind fun t1182 => (spec_l2Under.l0 k (([] : List ByteArray)) t1179 t1182 0))
def spec_l2Under.T1 : Bool × List (List Nat × List Nat) := (true, [([], []), ([], []), ([1], [1]), ([], []), ([], []), ([3, 4, 2], [3, 4]), ([0, 5, 0], [0]), ([2, 6, 0, 1, 2, 6], [2]), ([5, 7, 0, 1, 2, 3, 4, 5, 6, 7], [5])])
def spec_l2Under.B1 : List Nat := [0, 0, 2, 0, 0, 30, 63, 127, 255]
theorem spec_l2Under.tab1 : rtab .any (opsOf Tryz.f166 1) = spec_l2Under.T1 := by kernel_rfl
theorem spec_l2Under.bits1 : waitsOk spec_l2Under.T1.2 spec_l2Under.B1 = true := by kernel_rfl
set_option maxHeartbeats 8000000 in
set_option maxRecDepth 100000 in
theorem spec_l2Under.calls (k : Nat) (A0_0 : Option Addr) (c0_0 : Nat) (l0_0 : List (S74)) (a1 : Int) (r : List ByteArray) (w : World) (hr0_0 : Kd.C k74 w A0_0 l0_0.length l0_0) (hc0_0 : l0_0.length ≤ c0_0) (h : spec_l2Under.f k l0_0 a1 = some r) :
  Calls Tryz.prog 166 #[.agg #[.slice A0_0 l0_0.length c0_0], .int .i64 a1] w fun e w' => ∃ v0_ : Value, e = .returned (v0_) ∧ Kd.R Kd.string 9 w' w.heap.size (fun _ => True) v0_ r ∧ Below w.heap.size w w' := by
 have hu26 := Tryz.underlying26; have HR0_0 := am hr0_0; have HC0_0 := am hc0_0; clear hr0_0 hc0_0; have HB := am (Below.refl w.heap.size w)
 unfold spec_l2Under.f at h
 have H := h; clear h; obtain ⟨y1176, hy1176⟩ : ∃ y_ : List ByteArray, y_ = (([] : List ByteArray)) := ⟨_, rfl⟩
 replace H : ((spec_l2Words.f k l0_0).bind fun t1179 => ((spec_l2Prefix.f k l0_0 a1).bind fun t1182 => (spec_l2Under.l0 k y1176 t1179 t1182 0))) = some r := by first | (rw [hy1176]; with_reducible exact H) | (have H2_ := (Option.bind_some _ _).symm.trans H; rw [hy1176]; with_reducible exact H2_) | (have H2_ := (Option.bind_some _ _).symm.trans H; with_reducible exact H2_) | with_reducible exact H | (rw [hy1176]; exact H) | exact H
 have Ny1176 := am hy1176; clear hy1176; obtain ⟨t1179, A3, H⟩ := bs H; obtain ⟨t1182, A4, H⟩ := bs H; have H' := am H; clear H
 go_enter Tryz.func166, Tryz.ntmps166
 try go_wp2_with (first | ((with_reducible refine gate_dst (N := 2) rfl ?_); refine bx 2 #[.slice A0_0 l0_0.length c0_0] 26 ?_; intro gb1175 hg w5 hbox hb; have BK1175 := am (hbox); have GW1175 := uG hg HB; have GE1175 := uG hg HB; replace HB := uB HB hb; clear hb hbox hg))
 replace BK1175 := am (blk_drew BK1175.out); replace HB := am (below_drew1 HB.out); refine start_ (n := 9) (S := fun w' => True) (ds := []) (ob 9 0) (by kernel_rfl) rfl rfl trivial (fun hHeld => ?_); refine with_tabW spec_l2Under.tab1 spec_l2Under.bits1 (fun HT_ HW_ => ?_); generalize w5.drew = w6 at BK1175 HB hHeld ⊢; refine pu 4 13 ?_; refine inv_at [0, 1, 2, 3, 5, 6, 7, 8] (fun a0_ b a w' => ∃ (v1177 : Value) (v1180 : Value) (m6_ : Value) (m7_ : Value), a = putSel a0_ b [(0, 9, v1177), (1, 10, .agg #[.slice A0_0 l0_0.length c0_0]), (2, 11, v1180), (3, 12, .agg #[.slice A0_0 l0_0.length c0_0]), (5, 14, .string t1182), (6, 5, m6_), (7, 6, m7_), (8, 7, .string t1182)] ∧ (w'.heap[gb1175]? = some (.cells #[.slice A0_0 l0_0.length c0_0] 26 (0, 0))) ∧ (Below w.heap.size w w') ∧ (b 0 = true → Kd.R Kd.string 9 w' w.heap.size (fun _ => True) v1177 y1176) ∧ (b 2 = true → Kd.R Kd.string 9 w' w.heap.size (fun _ => True) v1180 t1179) ∧ (b 6 = true → (m6_ : Value) = v1177) ∧ (b 7 = true → (m7_ : Value) = v1180) ∧ (b 0 = true → b 2 = true → ∀ k_, v1177.ownBlock = some k_ → v1180.ownBlock ≠ some k_)) HT_.out HW_.out (by kernel_rfl) (by kernel_rfl) ?_ ?_ ?_
 ·exact ⟨.bool false, .bool false, .bool false, .bool false, (by simp only [putSel, Bool.false_eq_true, if_false]), BK1175.out, HB.out, fun h_ => absurd h_ (by decide), fun h_ => absurd h_ (by decide), fun h_ => absurd h_ (by decide), fun h_ => absurd h_ (by decide), fun h_ => absurd h_ (by decide)⟩
 ·skip
  clear BK1175 HB; refine steps_cons ?_ ?_
  ·rintro b a w' ⟨v1177, v1180, m6_, m7_, ha, Q_BK1175, Q_HB, Q_HO1178, Q_HO1181, Q_X6_, Q_X7_, Q_PP⟩ hb_ hon hoff
   refine ⟨_, rfl, fun K hK => ?_⟩; replace ha := am ha; have BK1175 := am Q_BK1175; have HB := am Q_HB; refine Kd.R_lit_step Kd.string _ 9 ?hg (N := 9) ?hd (xs := ([] : List ByteArray)) (inner := []) (ok := fun _ => True) (okp := fun _ => True) ?hr ?hp (fun _ hk => hk) trivial (Below.refl _ _) (Nat.le_refl _) (by simp) ?_; (case hd => rfl); (case hg => rfl); (case hr => exact ax33); (case hp => exact ax34); intro v1177 w7 ho8 hb hg_ hnew_; clear hg_ hnew_; (first | rw [← Ny1176.out] at ho8 | (simp only [Int.reduceToNat] at ho8; rw [← Ny1176.out] at ho8)); have n0_ := am (Kd.R_lower ho8 (below_size ax263)); have n1_ := ub BK1175 hb; have n2_ := am (below_step ax263 hb)
   have z_HO1181 := fun (h0_ : b 2 = true) => (show Kd.R Kd.string 9 w7 w.heap.size (fun _ => True) v1180 t1179 from by first | exact (Kd.R_elder' ax264 (Kd.R_base ho8) hb) | exact Kd.R_mono (Kd.R_elder' ax264 (Kd.R_base ho8) hb) (fun _ h_ => by first | trivial | exact h_ | exact h_.1))
   have z_PP := fun (h0_ : b 2 = true) => (show ∀ k_, v1177.ownBlock = some k_ → v1180.ownBlock ≠ some k_ from fun k_ e1_ e2_ => by have hh_ := (Kd.R_elder' ax264 (Kd.R_base ho8) hb).1 k_ e2_; exact hh_.2 e1_.symm)
   clear BK1175; clear HB; have HO1178 := n0_; have BK1175 := n1_; have HB := n2_; clear n0_ n1_ n2_; clear hb ho8; refine hK.out _ _ ⟨v1177, v1180, m6_, m7_, (by rw [ha.out]; exact putSel_upk 0 hb_ rfl rfl rfl), ax265, ax263, fun _ => ax266, z_HO1181, fun h0_ => absurd ((hoff 6 (by kernel_rfl)).symm.trans h0_) (by decide), fun h0_ => absurd ((hoff 7 (by kernel_rfl)).symm.trans h0_) (by decide), fun _ h0_ => z_PP h0_⟩
  refine steps_cons ?_ ?_
  ·rintro b a w' ⟨v1177, v1180, m6_, m7_, ha, Q_BK1175, Q_HB, Q_HO1178, Q_HO1181, Q_X6_, Q_X7_, Q_PP⟩ hb_ hon hoff
   refine ⟨_, rfl, fun K hK => ?_⟩
   have e2 : a.tmps[2]? = some (.pointer (some ⟨gb1175, 0, none⟩)) := by rw [ha]; exact (putSel_off rfl).trans rfl
   replace ha := am ha; have BK1175 := am Q_BK1175; have HB := am Q_HB; have hc0_ : w'.cell? ⟨gb1175, 0, none⟩ = some (.slice A0_0 l0_0.length c0_0) := (blk_cell BK1175.out 0).trans rfl; refine value_ (w1 := w') (v := .agg #[.slice A0_0 l0_0.length c0_0]) (by rfl) rfl ?_ ?_
   ·exact ax23
   refine hK.out _ _ ⟨v1177, v1180, m6_, m7_, (by rw [ha.out]; exact putSel_upk 1 hb_ rfl rfl rfl), Q_BK1175, Q_HB, Q_HO1178, fun h0_ => absurd ((hoff 2 (by kernel_rfl)).symm.trans h0_) (by decide), fun h0_ => absurd ((hoff 6 (by kernel_rfl)).symm.trans h0_) (by decide), fun h0_ => absurd ((hoff 7 (by kernel_rfl)).symm.trans h0_) (by decide), Q_PP⟩
  refine steps_cons ?_ ?_
  ·rintro b a w' ⟨v1177, v1180, m6_, m7_, ha, Q_BK1175, Q_HB, Q_HO1178, Q_HO1181, Q_X6_, Q_X7_, Q_PP⟩ hb_ hon hoff
   refine ⟨_, rfl, fun K hK => ?_⟩
   have e10 : a.tmps[10]? = some (.agg #[.slice A0_0 l0_0.length c0_0]) := by rw [ha]; exact putSel_on (e := (1, 10, .agg #[.slice A0_0 l0_0.length c0_0])) 1 rfl rfl (hon 1 (by kernel_rfl)) rfl
   replace ha := am ha; have BK1175 := am Q_BK1175; have HB := am Q_HB; refine goes_ Tryz.func115 (by kernel_rfl) rfl #[.agg #[.slice A0_0 l0_0.length c0_0]] (by rfl) rfl rfl (by first | (simp only [List.map_toArray, List.map_cons, List.map_nil, Act.eval, Array.getD_eq_getD_getElem?, Option.getD_some, e10]; done) | (simp only [List.map_toArray, List.map_cons, List.map_nil, Act.eval, Array.getD_eq_getD_getElem?, Option.getD_some, e10]; rfl)) ?_
   with_reducible refine (spec_l2Words.calls k _ _ l0_0 t1179 _ ?side1 ?side2 A3.out).mono ?_
   (case side1 => exact ax145)
   (case side2 => exact ax158)
   rintro e w7 ⟨v1180, rfl, ho0, hb⟩; refine ⟨_, rfl, ?_⟩; have n0_ := am (Kd.R_lower ho0 (below_size ax263)); have n1_ := ub BK1175 hb; have n2_ := am (below_step ax263 hb)
   have z_HO1178 := fun (h0_ : b 0 = true) => (show Kd.R Kd.string 9 w7 w.heap.size (fun _ => True) v1177 y1176 from by first | exact (Kd.R_elder' ax267 (Kd.R_base ho0) hb) | exact Kd.R_mono (Kd.R_elder' ax267 (Kd.R_base ho0) hb) (fun _ h_ => by first | trivial | exact h_ | exact h_.1))
   have z_PP := fun (h0_ : b 0 = true) => (show ∀ k_, v1177.ownBlock = some k_ → v1180.ownBlock ≠ some k_ from fun k_ e1_ e2_ => by have hh_ := (Kd.R_elder' ax267 (Kd.R_base ho0) hb).1 k_ e1_; exact hh_.2 e2_.symm)
   clear BK1175; clear HB; have HO1181 := n0_; have BK1175 := n1_; have HB := n2_; clear n0_ n1_ n2_; (try clear hb); (try clear hb2); (try clear hk); (try clear hi); (try clear ho0); refine hK.out _ _ ⟨v1177, v1180, m6_, m7_, (by rw [ha.out]; exact putSel_upk 2 hb_ rfl rfl rfl), ax265, ax263, z_HO1178, fun _ => ax268, fun h0_ => absurd ((hoff 6 (by kernel_rfl)).symm.trans h0_) (by decide), fun h0_ => absurd ((hoff 7 (by kernel_rfl)).symm.trans h0_) (by decide), fun h0_ _ => z_PP h0_⟩
  refine steps_cons ?_ ?_
  ·rintro b a w' ⟨v1177, v1180, m6_, m7_, ha, Q_BK1175, Q_HB, Q_HO1178, Q_HO1181, Q_X6_, Q_X7_, Q_PP⟩ hb_ hon hoff
   refine ⟨_, rfl, fun K hK => ?_⟩
   have e2 : a.tmps[2]? = some (.pointer (some ⟨gb1175, 0, none⟩)) := by rw [ha]; exact (putSel_off rfl).trans rfl
   replace ha := am ha; have BK1175 := am Q_BK1175; have HB := am Q_HB; have hc0_ : w'.cell? ⟨gb1175, 0, none⟩ = some (.slice A0_0 l0_0.length c0_0) := (blk_cell BK1175.out 0).trans rfl; refine value_ (w1 := w') (v := .agg #[.slice A0_0 l0_0.length c0_0]) (by rfl) rfl ?_ ?_
   ·exact ax23
   refine hK.out _ _ ⟨v1177, v1180, m6_, m7_, (by rw [ha.out]; exact putSel_upk 3 hb_ rfl rfl rfl), Q_BK1175, Q_HB, Q_HO1178, Q_HO1181, fun h0_ => absurd ((hoff 6 (by kernel_rfl)).symm.trans h0_) (by decide), fun h0_ => absurd ((hoff 7 (by kernel_rfl)).symm.trans h0_) (by decide), Q_PP⟩
  refine steps_cons ?_ ?_
  ·rintro b a w' ⟨v1177, v1180, m6_, m7_, ha, Q_BK1175, Q_HB, Q_HO1178, Q_HO1181, Q_X6_, Q_X7_, Q_PP⟩ hb_ hon hoff
   refine ⟨_, rfl, fun K hK => ?_⟩
   have e12 : a.tmps[12]? = some (.agg #[.slice A0_0 l0_0.length c0_0]) := by rw [ha]; exact putSel_on (e := (3, 12, .agg #[.slice A0_0 l0_0.length c0_0])) 3 rfl rfl (hon 3 (by kernel_rfl)) rfl
   have e13 : a.tmps[13]? = some (.int .i64 a1) := by rw [ha]; exact (putSel_off rfl).trans rfl
   replace ha := am ha; have BK1175 := am Q_BK1175; have HB := am Q_HB; have HO1181 := am (Q_HO1181 (hon 2 (by kernel_rfl))); refine goes_ Tryz.func165 (by kernel_rfl) rfl #[.agg #[.slice A0_0 l0_0.length c0_0], .int .i64 a1] (by rfl) rfl rfl (by first | (simp only [List.map_toArray, List.map_cons, List.map_nil, Act.eval, Array.getD_eq_getD_getElem?, Option.getD_some, e12, e13]; done) | (simp only [List.map_toArray, List.map_cons, List.map_nil, Act.eval, Array.getD_eq_getD_getElem?, Option.getD_some, e12, e13]; rfl)) ?_
   with_reducible refine (spec_l2Prefix.calls k _ _ l0_0 a1 t1182 _ ?side1 ?side2 A4.out).mono ?_
   (case side1 => exact ax145)
   (case side2 => exact ax158)
   rintro e w9 ⟨rfl, hb⟩; refine ⟨_, rfl, ?_⟩; have n0_ := uR HO1181 hb; have n1_ := ub BK1175 hb; have n2_ := am (below_step ax263 hb)
   have z_HO1178 := fun (h0_ : b 0 = true) => (show Kd.R Kd.string 9 w9 w.heap.size (fun _ => True) v1177 y1176 from by first | exact (Kd.R_below ax267 hb) | exact Kd.R_mono (Kd.R_below ax267 hb) (fun _ h_ => by first | trivial | exact h_ | exact h_.1))
   clear HO1181; clear BK1175; clear HB; have HO1181 := n0_; have BK1175 := n1_; have HB := n2_; clear n0_ n1_ n2_; (try clear hb); (try clear hb2); (try clear hk); (try clear hi); refine hK.out _ _ ⟨v1177, v1180, m6_, m7_, (by rw [ha.out]; exact putSel_upk 4 hb_ rfl rfl rfl), ax265, ax263, z_HO1178, fun _ => ax268, fun h0_ => absurd ((hoff 6 (by kernel_rfl)).symm.trans h0_) (by decide), fun h0_ => absurd ((hoff 7 (by kernel_rfl)).symm.trans h0_) (by decide), Q_PP⟩
  refine steps_cons ?_ ?_
  ·rintro b a w' ⟨v1177, v1180, m6_, m7_, ha, Q_BK1175, Q_HB, Q_HO1178, Q_HO1181, Q_X6_, Q_X7_, Q_PP⟩ hb_ hon hoff
   refine ⟨_, rfl, fun K hK => ?_⟩
   have e9 : a.tmps[9]? = some (v1177) := by rw [ha]; exact putSel_on (e := (0, 9, v1177)) 0 rfl rfl (hon 0 (by kernel_rfl)) rfl
   replace ha := am ha; have BK1175 := am Q_BK1175; have HB := am Q_HB; have HO1178 := am (Q_HO1178 (hon 0 (by kernel_rfl))); have HO1181 := am (Q_HO1181 (hon 2 (by kernel_rfl))); refine value_ (w1 := w') (v := v1177) (by rfl) rfl ?_ ?_
   ·exact ax23
   refine hK.out _ _ ⟨v1177, v1180, (v1177), m7_, (by rw [ha.out]; exact putSel_upk 5 hb_ rfl rfl rfl), Q_BK1175, Q_HB, Q_HO1178, Q_HO1181, fun _ => rfl, fun h0_ => absurd ((hoff 7 (by kernel_rfl)).symm.trans h0_) (by decide), Q_PP⟩
  refine steps_cons ?_ ?_
  ·rintro b a w' ⟨v1177, v1180, m6_, m7_, ha, Q_BK1175, Q_HB, Q_HO1178, Q_HO1181, Q_X6_, Q_X7_, Q_PP⟩ hb_ hon hoff
   refine ⟨_, rfl, fun K hK => ?_⟩
   have e11 : a.tmps[11]? = some (v1180) := by rw [ha]; exact putSel_on (e := (2, 11, v1180)) 2 rfl rfl (hon 2 (by kernel_rfl)) rfl
   replace ha := am ha; have BK1175 := am Q_BK1175; have HB := am Q_HB; have HO1178 := am (Q_HO1178 (hon 0 (by kernel_rfl))); have HO1181 := am (Q_HO1181 (hon 2 (by kernel_rfl))); refine value_ (w1 := w') (v := v1180) (by rfl) rfl ?_ ?_
   ·exact ax23
   refine hK.out _ _ ⟨v1177, v1180, m6_, (v1180), (by rw [ha.out]; exact putSel_upk 6 hb_ rfl rfl rfl), Q_BK1175, Q_HB, Q_HO1178, Q_HO1181, Q_X6_, fun _ => rfl, Q_PP⟩
  refine steps_cons ?_ ?_
  ·rintro b a w' ⟨v1177, v1180, m6_, m7_, ha, Q_BK1175, Q_HB, Q_HO1178, Q_HO1181, Q_X6_, Q_X7_, Q_PP⟩ hb_ hon hoff
   refine ⟨_, rfl, fun K hK => ?_⟩
   have e14 : a.tmps[14]? = some (.string t1182) := by rw [ha]; exact putSel_on (e := (5, 14, .string t1182)) 4 rfl rfl (hon 5 (by kernel_rfl)) rfl
   replace ha := am ha; have BK1175 := am Q_BK1175; have HB := am Q_HB; have HO1178 := am (Q_HO1178 (hon 0 (by kernel_rfl))); have HO1181 := am (Q_HO1181 (hon 2 (by kernel_rfl))); refine value_ (w1 := w') (v := .string t1182) (by rfl) rfl ?_ ?_
   ·exact ax23
   refine hK.out _ _ ⟨v1177, v1180, m6_, m7_, (by rw [ha.out]; exact putSel_upk 7 hb_ rfl rfl rfl), Q_BK1175, Q_HB, Q_HO1178, Q_HO1181, Q_X6_, Q_X7_, Q_PP⟩
  exact steps_nil
 rintro b a w11 hall ⟨v1177, v1180, m6_, m7_, ha, Q_BK1175, Q_HB, Q_HO1178, Q_HO1181, Q_X6_, Q_X7_, Q_PP⟩; clear BK1175 HB; have hb0_ := hall 0 (by kernel_rfl); have hb1_ := hall 1 (by kernel_rfl); have hb2_ := hall 2 (by kernel_rfl); have hb3_ := hall 3 (by kernel_rfl); have hb5_ := hall 5 (by kernel_rfl); have hb6_ := hall 6 (by kernel_rfl); have hb7_ := hall 7 (by kernel_rfl); have hb8_ := hall 8 (by kernel_rfl); subst ha; obtain rfl := (Q_X6_ hb6_).symm; obtain rfl := (Q_X7_ hb7_).symm; simp only [putSel, hb0_, hb1_, hb2_, hb3_, hb5_, hb6_, hb7_, hb8_, if_true, Act.put, List.setIfInBounds_toArray, List.set_cons_zero, List.set_cons_succ]; have BK1175 := am Q_BK1175; clear Q_BK1175; have HB := am Q_HB; clear Q_HB; have HO1178 := am (Q_HO1178 hb0_); clear Q_HO1178; have HO1181 := am (Q_HO1181 hb2_); clear Q_HO1181; have HPP := Q_PP hb0_ hb2_; replace HO1178 := am (show Kd.R Kd.string _ _ _ (fun k_ => some k_ ≠ (v1180 : Value).ownBlock) _ _ from Kd.R_mono (Kd.R_tight rfl HO1178.out) (fun k_ hk_ e_ => HPP k_ hk_.symm e_.symm)); replace HO1181 := am (show Kd.R Kd.string _ _ _ (fun k_ => some k_ ≠ (v1177 : Value).ownBlock) _ _ from Kd.R_mono (Kd.R_tight rfl HO1181.out) (fun k_ hk_ e_ => HPP k_ e_.symm hk_.symm)); clear Q_PP HPP; clear hall hb0_ hb1_ hb2_ hb3_ hb5_ hb6_ hb7_ hb8_
 try go_wp2
 go_loopg [5, 8] k (fun kq v5 v8 w' => ∃ (x5_1 : List ByteArray) (x8_1 : Int), v8 = .int .i64 x8_1 ∧ Aside0 (spec_l2Under.l0 kq x5_1 t1179 t1182 x8_1 = some r) ∧ Aside0 (kq ≤ k) ∧ Aside0 (Kd.R Kd.string 9 w' w.heap.size (fun k_ => some k_ ≠ (v1180 : Value).ownBlock) v5 x5_1) ∧ Aside0 (Kd.R Kd.string 9 w' w.heap.size (fun k_ => some k_ ≠ (v5 : Value).ownBlock) v1180 t1179) ∧ Aside0 (w'.heap[gb1175]? = some (.cells #[(.slice A0_0 l0_0.length c0_0)] 26 (0, 0))) ∧ Aside0 (Below w.heap.size w w'))
 case atStart => exact ⟨(y1176), (0), ax31, H', ⟨Nat.le_refl _⟩, ⟨ax266⟩, ⟨ax268⟩, ⟨ax265⟩, ⟨ax263⟩⟩
 case round =>
  clear H'; obtain ⟨x5_1, x8_1, rfl, HA, HK1, HO_5, HO_6, BK1175, HB⟩ := hrel
  cases gk with
  | zero => exact absurd HA.out (by simp [spec_l2Under.l0])
  | succ k1 =>
   have H := HA.out; clear HA; simp only [spec_l2Under.l0] at H
   by_cases c12 : x8_1 < (t1179.length : Int)
   ·rw [if_pos c12] at H
    have c12b0 := decide_eq_true c12; clear c12
    by_cases c13 : 0 ≤ x8_1
    ·rw [if_pos c13] at H
     have c13b0 := decide_eq_true c13; clear c13; obtain ⟨t1184, A14, H⟩ := bs H
     by_cases c15 : t1184 = true
     ·subst c15
      rw [if_pos rfl] at H
      by_cases c16 : x5_1.length < 8796093022208
      ·rw [if_pos c16] at H
       have LMc16 := am c16; clear c16; obtain ⟨y1186, hy1186⟩ : ∃ y_ : List ByteArray, y_ = (x5_1 ++ [rdOf ByteArray.empty t1179 x8_1]) := ⟨_, rfl⟩
       replace H : (spec_l2Under.l0 k1 y1186 t1179 t1182 (wrap64 (x8_1 + 1))) = some r := by first | (rw [hy1186]; with_reducible exact H) | (have H2_ := (Option.bind_some _ _).symm.trans H; rw [hy1186]; with_reducible exact H2_) | (have H2_ := (Option.bind_some _ _).symm.trans H; with_reducible exact H2_) | with_reducible exact H | (rw [hy1186]; exact H) | exact H
       have Ny1186 := am hy1186; clear hy1186; have H' := am H; clear H; obtain ⟨Ao17, co17, eo17⟩ := Kd.R_slice HO_6.out; subst eo17; have p1183 : 0 ≤ (x8_1 : Int) := of_decide_eq_true ax26; have q1183 : x8_1 < (t1179.length : Int) := of_decide_eq_true ax26; obtain ⟨ad1183, e1183, hx1183_0⟩ := Kd.at_string (Kd.R_reads' HO_6.out).2.2 x8_1 p1183 q1183
       cases e1183
       replace p1183 := eq_true p1183; replace q1183 := eq_true q1183
       go_wp2_with (first | ((with_reducible refine gd 26 194 ?_); refine gc 26 Tryz.func194 #[.string (rdOf ByteArray.empty t1179 x8_1), .string t1182] (spec_l2Begins.calls (rdOf ByteArray.empty t1179 x8_1) t1182 true _ A14.out) ?_; rintro e w' ⟨rfl, ⟨nd, rfl⟩⟩; refine ⟨_, rfl, ?_⟩; have p1185 : 0 ≤ (x8_1 : Int) := of_decide_eq_true ax26; have q1185 : x8_1 < (t1179.length : Int) := of_decide_eq_true ax26; obtain ⟨ad1185, e1185, hx1185_0⟩ := Kd.at_string (Kd.R_reads' HO_6.out).2.2 x8_1 p1185 q1185; obtain rfl : ad1183 = ad1185 := (by injection e1185); replace p1185 := eq_true p1185; replace q1185 := eq_true q1185) | ((with_reducible refine gate_builtin (b := .append) (xs := #[.tmp 27, .tmp 32]) rfl ?_); at_builtin; refine Kd.R_append Kd.string (w0 := w) w.heap.size rfl (.tmp 27) (.tmp 32) 31 9 (.string ⟨#[]⟩) 16 rfl Tryz.underlying31 info9 rfl (by decide) (by omega) u5 x5_1 (rdOf ByteArray.empty t1179 x8_1) [.string (rdOf ByteArray.empty t1179 x8_1)] (fun k_ => some k_ ≠ (.slice (some ad1183) t1179.length co17 : Value).ownBlock) (fun _ => False) rfl rfl ?aP (fun _ hk => hk.elim) ?aF ?aO ?aB ?aS ?aL ?_; (case aP => exact rfl); (case aB => exact ax263); (case aF => exact (fun k_ hk => Kd.fresh' (Kd.R_lt ax269) k_ hk)); (case aO => exact ax241); (case aS => exact (below_size ax263)); (case aL => have := LMc16.out; omega); intro v1187 w18 ho hb hg hat; rw [← Ny1186.out] at ho; have n0_ := am (Kd.R_after (ok := (fun _ => True)) (by (with_reducible repeat (first | apply Kd.R_alloc | apply Kd.R_drewN | apply Kd.R_drew)); exact Kd.R_mono HO_6.out (fun _ hk => ⟨trivial, hk⟩)) hg hat); have n1_ := am (blk_grown (g := gb1175) (o := .cells #[.slice A0_0 l0_0.length c0_0] 26 (0, 0)) ax265 hg (Kd.R_ne HO_5.out BK1175.out (by decide))); have n2_ := am (hb); have n3_ := am (ho); clear HO_6; clear BK1175; clear HB; clear HO_5; have HO_6 := n0_; have BK1175 := n1_; have HB := n2_; have HO1188 := n3_; clear n0_ n1_ n2_ n3_; clear ho hb hg hat))
       go_roundg k1
       case measure => have := HK1.out; omega
       case rel => exact ⟨(y1186), (wrap64 (x8_1 + 1)), ax31, H', ⟨by have := HK1.out; omega⟩, ⟨(by (with_reducible repeat (first | apply Kd.R_alloc | apply Kd.R_drewN | apply Kd.R_drew)); exact HO1188.out)⟩, ⟨(by (with_reducible repeat (first | apply Kd.R_alloc | apply Kd.R_drewN | apply Kd.R_drew)); exact Kd.R_mono HO_6.out (fun _ hk => hk.2))⟩, ⟨ax265⟩, ⟨ax263⟩⟩
      ·exact ax24
     ·replace c15 := Bool.eq_false_iff.mpr c15
      subst c15; rw [if_neg (show ¬ (false = true) by decide)] at H; have H' := am H; clear H; obtain ⟨Ao19, co19, eo19⟩ := Kd.R_slice HO_6.out; subst eo19; have p1183 : 0 ≤ (x8_1 : Int) := of_decide_eq_true ax26; have q1183 : x8_1 < (t1179.length : Int) := of_decide_eq_true ax26; obtain ⟨ad1183, e1183, hx1183_0⟩ := Kd.at_string (Kd.R_reads' HO_6.out).2.2 x8_1 p1183 q1183
      cases e1183
      replace p1183 := eq_true p1183; replace q1183 := eq_true q1183
      go_wp2_with (first | ((with_reducible refine gd 26 194 ?_); refine gc 26 Tryz.func194 #[.string (rdOf ByteArray.empty t1179 x8_1), .string t1182] (spec_l2Begins.calls (rdOf ByteArray.empty t1179 x8_1) t1182 false _ A14.out) ?_; rintro e w' ⟨rfl, ⟨nd, rfl⟩⟩; refine ⟨_, rfl, ?_⟩))
      go_roundg k1
      case measure => have := HK1.out; omega
      case rel => exact ⟨(x5_1), (wrap64 (x8_1 + 1)), ax31, H', ⟨by have := HK1.out; omega⟩, ⟨ax238⟩, ⟨ax269⟩, ⟨ax265⟩, ⟨ax263⟩⟩
    ·exact ax19
   ·rw [if_neg c12] at H
    have c12b0 := decide_eq_false c12; clear c12; obtain rfl := Option.some.inj H; obtain ⟨Ao20, co20, eo20⟩ := Kd.R_slice HO_6.out; subst eo20
    go_wp2
    go_ret
    exact ⟨_, ax27, ax182, ax263⟩

/-! ### spec_CountUnder: function 76 -/
def spec_CountUnder.f (k : Nat) (l0_0 : List (S74)) (a1 : Int) : Option (Int × Bool) := (spec_l2Good.f k l0_0 a1).bind fun t1190 => (if t1190 = true then ((spec_l2Under.f k l0_0 a1).bind fun t1191 => (some ((t1191.length : Int), true))) else (some (0, false)))
set_option maxHeartbeats 8000000 in
set_option maxRecDepth 100000 in
theorem spec_CountUnder.calls (k : Nat) (A0_0 : Option Addr) (c0_0 : Nat) (l0_0 : List (S74)) (a1 : Int) (r1 : Int) (r2 : Bool) (w : World) (hr0_0 : Kd.C k74 w A0_0 l0_0.length l0_0) (hc0_0 : l0_0.length ≤ c0_0) (h : spec_CountUnder.f k l0_0 a1 = some (r1, r2)) :
  Calls Tryz.prog 76 #[.agg #[.slice A0_0 l0_0.length c0_0], .int .i64 a1] w fun e w' => e = .returned (.tuple #[.int .i64 r1, .bool r2]) ∧ Below w.heap.size w w' := by
 have hu26 := Tryz.underlying26; have HR0_0 := am hr0_0; have HC0_0 := am hc0_0; clear hr0_0 hc0_0; have HB := am (Below.refl w.heap.size w)
 unfold spec_CountUnder.f at h
 have H := h; clear h; obtain ⟨t1190, A3, H⟩ := bs H
 by_cases c4 : t1190 = true
 ·subst c4
  rw [if_pos rfl] at H; obtain ⟨t1191, A5, H⟩ := bs H; simp only [Option.some.injEq, Prod.mk.injEq] at H; obtain ⟨rfl, rfl⟩ := H
  go_enter Tryz.func76, Tryz.ntmps76
  go_wp2_with (first | ((with_reducible refine gate_dst (N := 2) rfl ?_); refine bx 2 #[.slice A0_0 l0_0.length c0_0] 26 ?_; intro gb1189 hg w6 hbox hb; have BK1189 := am (hbox); have GW1189 := uG hg HB; have GE1189 := uG hg HB; replace HB := uB HB hb; clear hb hbox hg; have hcz7_0 := bc (.slice A0_0 l0_0.length c0_0) BK1189 0; have hfz7_0 := blk_frozen BK1189.out 0) | ((with_reducible refine gd 8 162 ?_); refine gc 8 Tryz.func162 #[.agg #[.slice A0_0 l0_0.length c0_0], .int .i64 a1] (spec_l2Good.calls k _ _ l0_0 a1 true _ ax145 (HC0_0.out) A3.out) ?_; rintro e w8 ⟨rfl, hb⟩; refine ⟨_, rfl, ?_⟩; replace BK1189 := ub BK1189 hb; replace HB := am (below_step ax270 hb); (try clear hb); have hcz9_0 := bc (.slice A0_0 l0_0.length c0_0) BK1189 0; have hfz9_0 := blk_frozen BK1189.out 0) | ((with_reducible refine gd 12 166 ?_); refine gc 12 Tryz.func166 #[.agg #[.slice A0_0 l0_0.length c0_0], .int .i64 a1] (spec_l2Under.calls k _ _ l0_0 a1 t1191 _ ax145 (HC0_0.out) A5.out) ?_; rintro e w10 ⟨v1192, rfl, ho0, hb⟩; refine ⟨_, rfl, ?_⟩; have HO1193 := am (Kd.R_lower ho0 (below_size ax270)); replace BK1189 := ub BK1189 hb; replace HB := am (below_step ax270 hb); (try clear hb ho0); obtain ⟨Ao11, co11, eo11⟩ := Kd.R_slice HO1193.out; subst eo11))
  go_ret2
  exact ⟨ax27, ax270⟩
 ·replace c4 := Bool.eq_false_iff.mpr c4
  subst c4; rw [if_neg (show ¬ (false = true) by decide)] at H; simp only [Option.some.injEq, Prod.mk.injEq] at H; obtain ⟨rfl, rfl⟩ := H
  go_enter Tryz.func76, Tryz.ntmps76
  go_wp2_with (first | ((with_reducible refine gate_dst (N := 2) rfl ?_); refine bx 2 #[.slice A0_0 l0_0.length c0_0] 26 ?_; intro gb1189 hg w12 hbox hb; have BK1189 := am (hbox); have GW1189 := uG hg HB; have GE1189 := uG hg HB; replace HB := uB HB hb; clear hb hbox hg; have hcz13_0 := bc (.slice A0_0 l0_0.length c0_0) BK1189 0; have hfz13_0 := blk_frozen BK1189.out 0) | ((with_reducible refine gd 8 162 ?_); refine gc 8 Tryz.func162 #[.agg #[.slice A0_0 l0_0.length c0_0], .int .i64 a1] (spec_l2Good.calls k _ _ l0_0 a1 false _ ax145 (HC0_0.out) A3.out) ?_; rintro e w14 ⟨rfl, hb⟩; refine ⟨_, rfl, ?_⟩; replace BK1189 := ub BK1189 hb; replace HB := am (below_step ax270 hb); (try clear hb)))
  go_ret2
  exact ⟨ax27, ax270⟩

/-! ### spec_DrawNodeOf: function 77 -/
def spec_DrawNodeOf.f (k : Nat) (l0 : List Int) : Option ((List (S74)) × ByteArray) := (spec_DrawHasWord.f k l0).bind fun bt1195 => (some (bt1195.1, bt1195.2))
set_option maxHeartbeats 8000000 in
set_option maxRecDepth 100000 in
theorem spec_DrawNodeOf.calls (k : Nat) (A0 : Option Addr) (c0 : Nat) (l0 : List Int) (r1 : List (S74)) (r2 : ByteArray) (w : World) (hr0 : Kd.C (Kd.int .u8) w A0 l0.length l0) (hc0 : l0.length ≤ c0) (h : spec_DrawNodeOf.f k l0 = some (r1, r2)) :
  Calls Tryz.prog 77 #[.slice A0 l0.length c0] w fun e w' => ∃ v0_ : Value, e = .returned (.tuple #[.agg #[v0_], .string r2]) ∧ Kd.R k74 74 w' w.heap.size (fun _ => True) v0_ r1 ∧ Below w.heap.size w w' := by
 have hu26 := Tryz.underlying26; have HR0 := am hr0; have HC0 := am hc0; clear hr0 hc0; have HB := am (Below.refl w.heap.size w)
 unfold spec_DrawNodeOf.f at h
 have H := h; clear h; obtain ⟨⟨t1195, t1198⟩, A2, H⟩ := bs H; simp only [Option.some.injEq, Prod.mk.injEq] at H; obtain ⟨rfl, rfl⟩ := H
 go_enter Tryz.func77, Tryz.ntmps77
 go_wp2_with (first | ((with_reducible refine gate_dst (N := 2) rfl ?_); refine bx 2 #[.slice none 0 0] 26 ?_; intro gb1194 hg w3 hbox hb; have BK1194 := am (hbox); have GW1194 := uG hg HB; have GE1194 := uG hg HB; replace HB := uB HB hb; clear hb hbox hg) | ((with_reducible refine gd 5 148 ?_); refine gc 5 Tryz.func148 #[.slice A0 l0.length c0] (spec_DrawHasWord.calls k _ _ l0 t1195 t1198 _ ax35 (HC0.out) A2.out) ?_; rintro e w4 ⟨v1196, rfl, ho0, hb⟩; refine ⟨_, rfl, ?_⟩; have HO1197 := am (Kd.R_lower ho0 (below_size ax271)); replace BK1194 := ub BK1194 hb; replace HB := am (below_step ax271 hb); (try clear hb ho0); obtain ⟨Ao5, co5, eo5⟩ := Kd.R_slice HO1197.out; subst eo5; have hcz6_0 := bc (.slice none 0 0) BK1194 0; have hfz6_0 := blk_frozen BK1194.out 0))
 refine bodyPost_ret (results_ct rfl _ _ gb1194 26 #[.slice Ao5 t1195.length co5] (0, 0) _ rfl (by (with_reducible repeat (first | refine blk_drewN ?_ _ | refine blk_drew ?_ | refine blk_alloc ?_ _)); refine blk_put (cs := #[.slice none 0 0]) ?_ 0 _ rfl; (with_reducible repeat (first | refine blk_drewN ?_ _ | refine blk_drew ?_ | refine blk_alloc ?_ _)); exact BK1194.out) Tryz.underlying26 rfl (by kernel_rfl)) rfl ?_
 exact ⟨_, ax27, (by (with_reducible repeat (first | apply Kd.R_alloc | apply Kd.R_drewN | apply Kd.R_drew)); exact Kd.R_mono (Kd.R_far (p := ⟨gb1194, 0, none⟩) (Kd.R_types HO1197.out BK1194.out (by decide)) (fun _ hk => hk.2) (.slice Ao5 t1195.length co5)) (fun _ hk => trivial)), ax271⟩

/-! ### impl_NodeOf: function 78 -/
def impl_NodeOf.f (k : Nat) (l0_0 : List (S74)) (a1 : ByteArray) : Option (Int × Bool) := (impl_isTrie.f k l0_0).bind fun t1200 => (if t1200 = true then ((impl_Trie_prefixes.f k l0_0).bind fun bt1201 => ((slices_Index_string_string.f k bt1201.1 a1).bind fun t1205 => (some (mx t1205 0, decide (t1205 ≥ 0))))) else (some (0, false)))
set_option maxHeartbeats 8000000 in
set_option maxRecDepth 100000 in
theorem impl_NodeOf.calls (k : Nat) (A0_0 : Option Addr) (c0_0 : Nat) (l0_0 : List (S74)) (a1 : ByteArray) (r1 : Int) (r2 : Bool) (w : World) (hr0_0 : Kd.C k74 w A0_0 l0_0.length l0_0) (hc0_0 : l0_0.length ≤ c0_0) (h : impl_NodeOf.f k l0_0 a1 = some (r1, r2)) :
  Calls Tryz.prog 78 #[.agg #[.slice A0_0 l0_0.length c0_0], .string a1] w fun e w' => e = .returned (.tuple #[.int .i64 r1, .bool r2]) ∧ Below w.heap.size w w' := by
 have hu26 := Tryz.underlying26; have HR0_0 := am hr0_0; have HC0_0 := am hc0_0; clear hr0_0 hc0_0; have HB := am (Below.refl w.heap.size w)
 unfold impl_NodeOf.f at h
 have H := h; clear h; obtain ⟨t1200, A3, H⟩ := bs H
 by_cases c4 : t1200 = true
 ·subst c4
  rw [if_pos rfl] at H; obtain ⟨⟨t1201, t1204⟩, A5, H⟩ := bs H; obtain ⟨t1205, A6, H⟩ := bs H; obtain ⟨ji7, hji7⟩ : ∃ j_ : Int, (mx t1205 0) = j_ := ⟨_, rfl⟩; (first | rw [hji7] at H | simp only [hji7] at H); (try rw [hji7] at A3); (try rw [hji7] at A5); (try rw [hji7] at A6); (try (have hji7l : 0 ≤ ji7 := by (rw [← hji7]; unfold mx; (repeat' split) <;> omega))); (try (have hji7m : 0 ≤ ji7 := by omega)); have hji7_ : (if t1205 < 0 then 0 else t1205) = ji7 := hji7; (try have hji7_n := hji7_); (try simp only [Int.ofNat_lt] at hji7_n); simp only [Option.some.injEq, Prod.mk.injEq] at H; obtain ⟨rfl, rfl⟩ := H
  go_enter Tryz.func78, Tryz.ntmps78
  go_wp2_with (first | ((with_reducible refine gate_dst (N := 2) rfl ?_); refine bx 2 #[.slice A0_0 l0_0.length c0_0] 26 ?_; intro gb1199 hg w8 hbox hb; have BK1199 := am (hbox); have GW1199 := uG hg HB; have GE1199 := uG hg HB; replace HB := uB HB hb; clear hb hbox hg; have hcz9_0 := bc (.slice A0_0 l0_0.length c0_0) BK1199 0; have hfz9_0 := blk_frozen BK1199.out 0) | ((with_reducible refine gd 10 124 ?_); refine gc 10 Tryz.func124 #[.agg #[.slice A0_0 l0_0.length c0_0]] (impl_isTrie.calls k _ _ l0_0 true _ ax145 (HC0_0.out) A3.out) ?_; rintro e w10 ⟨rfl, hb⟩; refine ⟨_, rfl, ?_⟩; replace BK1199 := ub BK1199 hb; replace HB := am (below_step ax272 hb); (try clear hb); have hcz11_0 := bc (.slice A0_0 l0_0.length c0_0) BK1199 0; have hfz11_0 := blk_frozen BK1199.out 0) | ((with_reducible refine gd 14 164 ?_); refine gc 14 Tryz.func164 #[.agg #[.slice A0_0 l0_0.length c0_0]] (impl_Trie_prefixes.calls k _ _ l0_0 t1201 t1204 _ ax145 (HC0_0.out) A5.out) ?_; rintro e w12 ⟨v1202, rfl, ho0, hb⟩; refine ⟨_, rfl, ?_⟩; have HO1203 := am (Kd.R_lower ho0 (below_size ax272)); replace BK1199 := ub BK1199 hb; replace HB := am (below_step ax272 hb); (try clear hb ho0); obtain ⟨Ao13, co13, eo13⟩ := Kd.R_slice HO1203.out; subst eo13) | ((with_reducible refine gd 19 167 ?_); refine gc 19 Tryz.func167 #[.slice Ao13 t1201.length co13, .string a1] (slices_Index_string_string.calls k _ _ t1201 a1 t1205 _ (by repeat (first | exact (Kd.R_reads' HO1203.out).2.2 | (with_reducible refine Kd.C_alloc ?_ _) | (with_reducible refine Kd.C_drewN ?_ _) | (with_reducible refine Kd.C_drew ?_))) ((Kd.R_reads' HO1203.out).2.1) A6.out) ?_; rintro e w' ⟨rfl, ⟨nd, rfl⟩⟩; refine ⟨_, rfl, ?_⟩))
  go_ret2
  exact ⟨(by first | rfl | (simp [errW_none, errW_some] <;> rfl) | (simp only [← hji7]; first | rfl | (simp [errW_none, errW_some] <;> rfl)) | (simp [*, errW_none, errW_some] <;> rfl)), ax272⟩
 ·replace c4 := Bool.eq_false_iff.mpr c4
  subst c4; rw [if_neg (show ¬ (false = true) by decide)] at H; simp only [Option.some.injEq, Prod.mk.injEq] at H; obtain ⟨rfl, rfl⟩ := H
  go_enter Tryz.func78, Tryz.ntmps78
  go_wp2_with (first | ((with_reducible refine gate_dst (N := 2) rfl ?_); refine bx 2 #[.slice A0_0 l0_0.length c0_0] 26 ?_; intro gb1199 hg w14 hbox hb; have BK1199 := am (hbox); have GW1199 := uG hg HB; have GE1199 := uG hg HB; replace HB := uB HB hb; clear hb hbox hg; have hcz15_0 := bc (.slice A0_0 l0_0.length c0_0) BK1199 0; have hfz15_0 := blk_frozen BK1199.out 0) | ((with_reducible refine gd 10 124 ?_); refine gc 10 Tryz.func124 #[.agg #[.slice A0_0 l0_0.length c0_0]] (impl_isTrie.calls k _ _ l0_0 false _ ax145 (HC0_0.out) A3.out) ?_; rintro e w16 ⟨rfl, hb⟩; refine ⟨_, rfl, ?_⟩; replace BK1199 := ub BK1199 hb; replace HB := am (below_step ax272 hb); (try clear hb)))
  go_ret2
  exact ⟨ax27, ax272⟩

end Go.Proofs.YtcplbbflfgckbaaGreatDoor.X


-- By gen.py (the session's own program over the kit's printer): functions of the program, each with its contract. Lean checks it.
import Derived.Test.YtnjjchbhbicmoaaGreatDoorX0
import Derived.Test.YtnjjchbhbicmoaaGreatDoorX3
import Derived.Test.YtnjjchbhbicmoaaGreatDoorX4
import Derived.Test.YtnjjchbhbicmoaaGreatDoorX5
namespace Go.Proofs.YtnjjchbhbicmoaaGreatDoor.X
open Go.RowKit Go.Proofs.YtnjjchbhbicmoaaGreatDoorW.PrintWords Go.Proofs.YtnjjchbhbicmoaaGreatDoorW.PrintLast Go.Proofs.YtnjjchbhbicmoaaGreatDoorW.PrintMore
attribute [local go_sem] max2_int min2_int max_two min_two max_three min_three max_four min_four   -- for this text's walks alone
set_option linter.unusedVariables false
set_option linter.unusedSimpArgs false

/-! ### spec_l2Of: function 20 -/
mutual
def spec_l2Of.l0 : Nat → List ByteArray → List ByteArray → Int → Option ((List (S68)))
 | 0, _, _, _ => none
 | k + 1, x0, x3, x4 => if x4 < (x0.length : Int) then (spec_l2Of.l1 k x0 x3 x4 1) else (spec_l2Of.l2 k x0 x3 0 (([] : List (S68))))
def spec_l2Of.l1 : Nat → List ByteArray → List ByteArray → Int → Int → Option ((List (S68)))
 | 0, _, _, _, _ => none
 | k + 1, x0, x3, x4, x5 => if 0 ≤ x4 then (if x4 < (x0.length : Int) then (if x5 ≤ ((rdOf ByteArray.empty x0 x4).size : Int) then (if 0 ≤ x5 then ((spec_l2Put.f k x3 ((rdOf ByteArray.empty x0 x4).extract 0 (x5 : Int).toNat)).bind fun t208 => (spec_l2Of.l1 k x0 t208 x4 (wrap64 (x5 + 1)))) else (none)) else (spec_l2Of.l0 k x0 x3 (wrap64 (x4 + 1)))) else (none)) else (none)
def spec_l2Of.l2 : Nat → List ByteArray → List ByteArray → Int → List (S68) → Option ((List (S68)))
 | 0, _, _, _, _ => none
 | k + 1, x0, x3, x7, x215000 => if x7 < (x3.length : Int) then (if 0 ≤ x7 then ((spec_l2Has.f k x0 (rdOf ByteArray.empty x3 x7)).bind fun t216 => (if x7 > 0 then (if 0 ≤ (wrap64 (((rdOf ByteArray.empty x3 x7).size : Int) - 1)) then (if (wrap64 (((rdOf ByteArray.empty x3 x7).size : Int) - 1)) < ((rdOf ByteArray.empty x3 x7).size : Int) then (if (wrap64 (((rdOf ByteArray.empty x3 x7).size : Int) - 1)) ≤ ((rdOf ByteArray.empty x3 x7).size : Int) then ((spec_l2Place.f k x3 ((rdOf ByteArray.empty x3 x7).extract 0 ((wrap64 (((rdOf ByteArray.empty x3 x7).size : Int) - 1)) : Int).toNat)).bind fun t218 => (if x215000.length < 5864062014805 then (spec_l2Of.l2 k x0 x3 (wrap64 (x7 + 1)) (x215000 ++ [(⟨((bt (rdOf ByteArray.empty x3 x7) (wrap64 (((rdOf ByteArray.empty x3 x7).size : Int) - 1))) - 97) % 256, t218, t216⟩ : S68)])) else (none))) else (none)) else (none)) else (none)) else (if x215000.length < 5864062014805 then (spec_l2Of.l2 k x0 x3 (wrap64 (x7 + 1)) (x215000 ++ [(⟨(-1), (-1), t216⟩ : S68)])) else (none)))) else (none)) else (some x215000)
end
def spec_l2Of.f (k : Nat) (l0 : List ByteArray) : Option ((List (S68))) := spec_l2Of.l0 k l0 (([(⟨#[]⟩ : ByteArray)] : List ByteArray)) 0
theorem spec_l2Of.mono_l : ∀ k, (∀ y0 y1 y2, LeO (spec_l2Of.l0 k y0 y1 y2) (spec_l2Of.l0 (k + 1) y0 y1 y2)) ∧ (∀ y0 y1 y2 y3, LeO (spec_l2Of.l1 k y0 y1 y2 y3) (spec_l2Of.l1 (k + 1) y0 y1 y2 y3)) ∧ (∀ y0 y1 y2 y3, LeO (spec_l2Of.l2 k y0 y1 y2 y3) (spec_l2Of.l2 (k + 1) y0 y1 y2 y3))
 | 0 => ⟨fun _ _ _ r h => by simp [spec_l2Of.l0] at h, fun _ _ _ _ r h => by simp [spec_l2Of.l1] at h, fun _ _ _ _ r h => by simp [spec_l2Of.l2] at h⟩
 | k + 1 => by
  obtain ⟨ih0, ih1, ih2⟩ := spec_l2Of.mono_l k
  refine ⟨?_, ?_, ?_⟩ <;> intros
  all_goals (first | unfold spec_l2Of.l0 | unfold spec_l2Of.l1 | unfold spec_l2Of.l2)
  all_goals (repeat' first | (with_reducible first | exact ih0 .. | exact ih1 .. | exact ih2 .. | exact spec_l2Has.mono .. | exact spec_l2Place.mono .. | exact spec_l2Put.mono .. | exact LeO.refl _ | exact LeO.none _ | refine LeO.ite ?_ ?_ | refine LeO.bind ?_ (fun _ => ?_)) | exact ih0 .. | exact ih1 .. | exact ih2 .. | exact spec_l2Has.mono .. | exact spec_l2Place.mono .. | exact spec_l2Put.mono .. | exact LeO.none _ | refine LeO.ite ?_ ?_ | refine LeO.bind ?_ (fun _ => ?_))
theorem spec_l2Of.mono : ∀ a0 k, LeO (spec_l2Of.f k a0) (spec_l2Of.f (k + 1) a0) := by
 intro a0 k
 obtain ⟨ih0, ih1, ih2⟩ := spec_l2Of.mono_l k
 unfold spec_l2Of.f
 repeat' first | (with_reducible first | exact ih0 .. | exact ih1 .. | exact ih2 .. | exact spec_l2Has.mono .. | exact spec_l2Place.mono .. | exact spec_l2Put.mono .. | exact LeO.refl _ | exact LeO.none _ | refine LeO.ite ?_ ?_ | refine LeO.bind ?_ (fun _ => ?_)) | exact ih0 .. | exact ih1 .. | exact ih2 .. | exact spec_l2Has.mono .. | exact spec_l2Place.mono .. | exact spec_l2Put.mono .. | exact LeO.none _ | refine LeO.ite ?_ ?_ | refine LeO.bind ?_ (fun _ => ?_)
set_option maxHeartbeats 8000000 in
set_option maxRecDepth 100000 in
theorem spec_l2Of.calls (k : Nat) (A0 : Option Addr) (c0 : Nat) (l0 : List ByteArray) (r : List (S68)) (w : World) (hr0 : Kd.C Kd.string w A0 l0.length l0) (hc0 : l0.length ≤ c0) (h : spec_l2Of.f k l0 = some r) :
  Calls Tryz.prog 20 #[.slice A0 l0.length c0] w fun e w' => ∃ v0_ : Value, e = .returned (.agg #[v0_]) ∧ Kd.R k68 68 w' w.heap.size (fun _ => True) v0_ r ∧ Below w.heap.size w w' := by
 have hu51 := Tryz.underlying51; have hu68 := Tryz.underlying68; have HR0 := Aside0.mk hr0; have HC0 := Aside0.mk hc0; clear hr0 hc0; have HB := Aside0.mk (Below.refl w.heap.size w)
 have H : (spec_l2Of.l0 k l0 (([(⟨#[]⟩ : ByteArray)] : List ByteArray)) 0) = some r := h
 clear h
 obtain ⟨y203, hy203⟩ : ∃ y_ : List ByteArray, y_ = (([(⟨#[]⟩ : ByteArray)] : List ByteArray)) := ⟨_, rfl⟩
 replace H : (spec_l2Of.l0 k l0 y203 0) = some r := by first | (rw [hy203]; with_reducible exact H) | (have H2_ := (Option.bind_some _ _).symm.trans H; rw [hy203]; with_reducible exact H2_) | (have H2_ := (Option.bind_some _ _).symm.trans H; with_reducible exact H2_) | with_reducible exact H | (rw [hy203]; exact H) | exact H
 have Ny203 := Aside0.mk hy203; clear hy203
 have H' := Aside0.mk H
 clear H
 go_enter Tryz.func20, Tryz.ntmps20
 go_wp2_with (first | ((with_reducible refine gate_dst (N := 2) rfl ?_); refine box_event ?hg (N := 2) ?hd (cs := #[.slice none 0 0]) (t := 51) ?hr ?_; (case hd => rfl); (case hg => rfl); (case hr => exact ax8); intro gb202 hg w2 hbox hb; have n0_ := Aside0.mk (below_step ax9 hb); have n1_ := Aside0.mk (hbox); have n2_ := Aside0.mk ((ax10 : w.heap.size ≤ gb202)); have n3_ := Aside0.mk ((ax10 : w.heap.size ≤ gb202)); clear HB; have HB := n0_; have BK202 := n1_; have GW202 := n2_; have GE202 := n3_; clear n0_ n1_ n2_ n3_; clear hb hbox hg) | ((with_reducible refine gate_dst (N := 10) rfl ?_); refine Kd.R_lit Kd.string _ 9 ?hg (N := 10) ?hd (xs := ([(⟨#[]⟩ : ByteArray)] : List ByteArray)) (inner := [.string (⟨#[]⟩ : ByteArray)]) (ok := fun _ => True) (okp := fun _ => True) ?hr ?hp (fun _ hk => hk) trivial (Below.refl _ _) (Nat.le_refl _) (by simp) ?_; (case hd => rfl); (case hg => rfl); (case hr => exact ax8); (case hp => exact ax59); intro v204 w3 ho4 hb hg_ hnew_; clear hg_ hnew_; (first | rw [← Ny203.out] at ho4 | (simp only [Int.reduceToNat] at ho4; rw [← Ny203.out] at ho4)); have n0_ := Aside0.mk (Kd.R_lower ho4 (below_size ax60)); have n1_ := Aside0.mk (blk_below (g := gb202) (o := .cells #[.slice none 0 0] 51 (0, 0)) ax61 hb); have n2_ := Aside0.mk (below_step ax60 hb); clear BK202; clear HB; have HO205 := n0_; have BK202 := n1_; have HB := n2_; clear n0_ n1_ n2_; clear hb ho4))
 go_loopg [3, 4] k (fun kq v3 v4 w' => ∃ (x3_1 : List ByteArray) (x4_1 : Int), v4 = .int .i64 x4_1 ∧ Aside0 (spec_l2Of.l0 kq l0 x3_1 x4_1 = some r) ∧ Aside0 (kq ≤ k) ∧ Aside0 (Kd.V Kd.string 9 w' w.heap.size (fun k_ => k_ ≠ gb202) v3 x3_1) ∧ Aside0 (w'.heap[gb202]? = some (.cells #[(.slice none 0 0)] 51 (0, 0))) ∧ Aside0 (Below w.heap.size w w'))
 case atStart => exact ⟨(y203), (0), ax15, H', ⟨Nat.le_refl _⟩, ⟨Kd.R_V (by (with_reducible repeat (first | apply Kd.R_alloc | apply Kd.R_drewN | apply Kd.R_drew)); exact Kd.R_mono (Kd.R_types HO205.out BK202.out (by decide)) (fun _ hk => hk.2))⟩, ⟨ax61⟩, ⟨ax60⟩⟩
 case round =>
  clear H'
  try clear c2
  try clear p2
  obtain ⟨x3_1, x4_1, rfl, HA, HK1, HO_3, BK202, HB⟩ := hrel
  cases gk with
  | zero => exact absurd HA.out (by simp [spec_l2Of.l0])
  | succ k1 =>
   have H := HA.out; clear HA
   simp only [spec_l2Of.l0] at H
   by_cases c5 : x4_1 < (l0.length : Int)
   ·rw [if_pos c5] at H
    have c5b0 : decide (x4_1 < (l0.length : Int)) = true := decide_eq_true c5
    clear c5
    have H' := Aside0.mk H
    clear H
    go_wp2
    go_loopg [3, 5] k1 (fun kq v3 v5 w' => ∃ (x3_2 : List ByteArray) (x5_2 : Int), v5 = .int .i64 x5_2 ∧ Aside0 (spec_l2Of.l1 kq l0 x3_2 x4_1 x5_2 = some r) ∧ Aside0 (kq ≤ k1) ∧ Aside0 (Kd.V Kd.string 9 w' w.heap.size (fun k_ => k_ ≠ gb202) v3 x3_2) ∧ Aside0 (w'.heap[gb202]? = some (.cells #[(.slice none 0 0)] 51 (0, 0))) ∧ Aside0 (Below w.heap.size w w'))
    case atStart => exact ⟨(x3_1), (1), ax15, H', ⟨Nat.le_refl _⟩, ⟨ax62⟩, ⟨ax61⟩, ⟨ax60⟩⟩
    case round =>
     clear H'
     try clear c2
     try clear p2
     try clear c5
     try clear c5b0
     try clear p2
     obtain ⟨x3_2, x5_2, rfl, HA, HK2, HO_3, BK202, HB⟩ := hrel
     cases gk with
     | zero => exact absurd HA.out (by simp [spec_l2Of.l1])
     | succ k2 =>
      have H := HA.out; clear HA
      simp only [spec_l2Of.l1] at H
      by_cases c6 : 0 ≤ x4_1
      ·rw [if_pos c6] at H
       have c6b0 : decide (0 ≤ x4_1) = true := decide_eq_true c6
       clear c6
       by_cases c7 : x4_1 < (l0.length : Int)
       ·rw [if_pos c7] at H
        have c7b0 : decide (x4_1 < (l0.length : Int)) = true := decide_eq_true c7
        clear c7
        by_cases c8 : x5_2 ≤ ((rdOf ByteArray.empty l0 x4_1).size : Int)
        ·rw [if_pos c8] at H
         have c8b0 : decide (x5_2 ≤ ((rdOf ByteArray.empty l0 x4_1).size : Int)) = true := decide_eq_true c8
         clear c8
         by_cases c9 : 0 ≤ x5_2
         ·rw [if_pos c9] at H
          have c9b0 := eq_true c9
          have c9b1 : decide (0 ≤ x5_2) = true := decide_eq_true c9
          clear c9; have c10b0 := eq_true (of_decide_eq_true ax17 : x5_2 ≤ ((rdOf ByteArray.empty l0 x4_1).size : Int))
          obtain ⟨js11, hjs11⟩ : ∃ j_ : ByteArray, ((rdOf ByteArray.empty l0 x4_1).extract 0 (x5_2 : Int).toNat) = j_ := ⟨_, rfl⟩
          replace H : ((spec_l2Put.f k2 x3_2 js11).bind fun t208 => (spec_l2Of.l1 k2 l0 t208 x4_1 (wrap64 (x5_2 + 1)))) = some r := by first | (rw [hjs11] at H; exact H) | (simp only [hjs11] at H ⊢; exact H)
          obtain ⟨t208, A12, H⟩ := bs H
          have H' := Aside0.mk H
          clear H
          have p206 : 0 ≤ (x4_1 : Int) := of_decide_eq_true ax17
          have q206 : x4_1 < (l0.length : Int) := of_decide_eq_true ax17
          obtain ⟨ad206, e206, hx206_0⟩ := Kd.at_string HR0.out x4_1 p206 q206
          cases e206; replace hx206_0 := (HB.out.cell (World.block_lt_of_cell? w _ hx206_0)).trans hx206_0; replace p206 := eq_true p206; replace q206 := eq_true q206
          have p207 : 0 ≤ (x4_1 : Int) := of_decide_eq_true ax17
          have q207 : x4_1 < (l0.length : Int) := of_decide_eq_true ax17
          obtain ⟨ad207, e207, hx207_0⟩ := Kd.at_string HR0.out x4_1 p207 q207
          obtain rfl : ad206 = ad207 := (by injection e207)
          replace hx207_0 := (HB.out.cell (World.block_lt_of_cell? w _ hx207_0)).trans hx207_0; replace p207 := eq_true p207; replace q207 := eq_true q207
          obtain ⟨Ao13, co13, eo13⟩ := Kd.V_slice HO_3.out
          subst eo13
          go_wp2_with (first | ((with_reducible refine gate_callee (f := 32) rfl ?_); refine goesL_ (some 33) rfl rfl Tryz.func32 (by kernel_rfl) rfl #[.slice Ao13 x3_2.length co13, .string js11] rfl ax12 ?_; (with_reducible refine (spec_l2Put.calls k2 (fun k_ => k_ ≠ gb202) _ _ x3_2 js11 t208 _ ?side1 A12.out).mono ?_); (case side1 => exact HO_3.out); rintro e w14 ⟨v209, rfl, ho0, hb⟩; refine ⟨_, rfl, ?_⟩; have n0_ := Aside0.mk (Kd.V_below ax62 hb); have n1_ := Aside0.mk (Kd.V_lower (Kd.V_mono (ok' := fun k_ => k_ ≠ gb202) ho0 (fun k_ hk_ => Or.elim hk_ (fun hs_ => hs_) (fun hn_ => (Kd.freshB (g := gb202) (o := .cells #[.slice none 0 0] 51 (0, 0)) ax61 k_ hn_)))) (below_size ax60)); have n2_ := Aside0.mk (blk_below (g := gb202) (o := .cells #[.slice none 0 0] 51 (0, 0)) ax61 hb); have n3_ := Aside0.mk (below_step ax60 hb); clear HO_3; clear BK202; clear HB; have HO_3 := n0_; have HO210 := n1_; have BK202 := n2_; have HB := n3_; clear n0_ n1_ n2_ n3_; (try clear hb); (try clear hb2); (try clear hk); (try clear hi); (try clear ho0)))
          go_roundg k2
          case measure => have := HK1.out; have := HK2.out; omega
          case rel => exact ⟨(t208), (wrap64 (x5_2 + 1)), ax15, H', ⟨ax63⟩, ⟨(by (with_reducible repeat (first | apply Kd.V_alloc | apply Kd.V_drewN | apply Kd.V_drew)); exact HO210.out)⟩, ⟨ax61⟩, ⟨ax60⟩⟩
         ·exact ax5
        ·rw [if_neg c8] at H
         have c8b0 : decide (x5_2 ≤ ((rdOf ByteArray.empty l0 x4_1).size : Int)) = false := decide_eq_false c8
         clear c8
         have H' := Aside0.mk H
         clear H
         have p206 : 0 ≤ (x4_1 : Int) := of_decide_eq_true ax17
         have q206 : x4_1 < (l0.length : Int) := of_decide_eq_true ax17
         obtain ⟨ad206, e206, hx206_0⟩ := Kd.at_string HR0.out x4_1 p206 q206
         cases e206; replace hx206_0 := (HB.out.cell (World.block_lt_of_cell? w _ hx206_0)).trans hx206_0; replace p206 := eq_true p206; replace q206 := eq_true q206
         go_wp2
         go_roundg k2
         case measure => have := HK1.out; have := HK2.out; omega
         case rel => exact ⟨(x3_2), (wrap64 (x4_1 + 1)), ax15, H', ⟨ax63⟩, ⟨ax62⟩, ⟨ax61⟩, ⟨ax60⟩⟩
       ·exact ax6
      ·exact ax1
   ·rw [if_neg c5] at H
    have c5b0 : decide (x4_1 < (l0.length : Int)) = false := decide_eq_false c5
    clear c5
    obtain ⟨y211, hy211⟩ : ∃ y_ : List (S68), y_ = (([] : List (S68))) := ⟨_, rfl⟩
    replace H : (spec_l2Of.l2 k1 l0 x3_1 0 y211) = some r := by first | (rw [hy211]; with_reducible exact H) | (have H2_ := (Option.bind_some _ _).symm.trans H; rw [hy211]; with_reducible exact H2_) | (have H2_ := (Option.bind_some _ _).symm.trans H; with_reducible exact H2_) | with_reducible exact H | (rw [hy211]; exact H) | exact H
    have Ny211 := Aside0.mk hy211; clear hy211
    have H' := Aside0.mk H
    clear H
    go_wp2_with (first | ((with_reducible refine gate_dst (N := 34) rfl ?_); refine Kd.R_lit k68 _ 68 ?hg (N := 34) ?hd (xs := ([] : List (S68))) (inner := []) (ok := fun _ => True) (okp := fun _ => True) ?hr ?hp (fun _ hk => hk) trivial (Below.refl _ _) (Nat.le_refl _) (by simp) ?_; (case hd => rfl); (case hg => rfl); (case hr => exact ax8); (case hp => exact ax18); intro v212 w15 ho16 hb hg_ hnew_; clear hg_ hnew_; (first | rw [← Ny211.out] at ho16 | (simp only [Int.reduceToNat] at ho16; rw [← Ny211.out] at ho16)); have n0_ := Aside0.mk (Kd.V_elder' ax62 (Kd.R_base ho16) hb); have n1_ := Aside0.mk (Kd.R_lower ho16 (below_size ax60)); have n2_ := Aside0.mk (blk_below (g := gb202) (o := .cells #[.slice none 0 0] 51 (0, 0)) ax61 hb); have n3_ := Aside0.mk (below_step ax60 hb); clear HO_3; clear BK202; clear HB; have HO_3 := n0_; have HO213 := n1_; have BK202 := n2_; have HB := n3_; clear n0_ n1_ n2_ n3_; clear hb ho16; obtain ⟨Ao17, co17, eo17⟩ := Kd.R_slice HO213.out; subst eo17) | ((with_reducible refine gate_dst (N := 6) rfl ?_); refine box_event ?hg (N := 6) ?hd (cs := #[.slice none 0 0]) (t := 51) ?hr ?_; (case hd => rfl); (case hg => rfl); (case hr => exact ax8); intro gb214 hg w18 hbox hb; have n0_ := Aside0.mk (Kd.V_below (Kd.V_elderB ax62 gb214 (Nat.le_of_eq hg.symm)) hb); have n1_ := Aside0.mk (Kd.R_below (by (with_reducible repeat (first | apply Kd.R_alloc | apply Kd.R_drewN | apply Kd.R_drew)); exact HO213.out) hb); have n2_ := Aside0.mk (blk_below (g := gb202) (o := .cells #[.slice none 0 0] 51 (0, 0)) ax61 hb); have n3_ := Aside0.mk (below_step ax60 hb); have n4_ := Aside0.mk (hbox); have n5_ := Aside0.mk ((ax64 : w.heap.size ≤ gb214)); have n6_ := Aside0.mk ((ax64 : w.heap.size ≤ gb214)); have n7_ := Aside0.mk ((ax65 : gb202 ≠ gb214)); have n8_ := Aside0.mk ((ax66 : gb214 ≠ gb202)); clear HO_3; clear HO213; clear BK202; clear HB; have HO_3 := n0_; have HO213 := n1_; have BK202 := n2_; have HB := n3_; have BK214 := n4_; have GW214 := n5_; have GE214 := n6_; have NB202_214 := n7_; have NB214_202 := n8_; clear n0_ n1_ n2_ n3_ n4_ n5_ n6_ n7_ n8_; clear hb hbox hg; have hnb19 := NB214_202.out; have hnc19 := NB202_214.out; have hcz20_0 : w18.cell? ⟨gb214, 0, none⟩ = some (.slice none 0 0) := (blk_cell BK214.out 0).trans rfl; have hfz20_0 := blk_frozen BK214.out 0))
    go_loopg [7] k1 (fun kq v7 w' => ∃ (x7_2 : Int) (x215000_2 : List (S68)) (u215000 : Value), v7 = .int .i64 x7_2 ∧ Aside0 (spec_l2Of.l2 kq l0 x3_1 x7_2 x215000_2 = some r) ∧ Aside0 (kq ≤ k1) ∧ Aside0 (Kd.V Kd.string 9 w' w.heap.size (fun k_ => some k_ ≠ (u215000 : Value).ownBlock ∧ k_ ≠ gb202 ∧ k_ ≠ gb214) u3 x3_1) ∧ Aside0 (Kd.R k68 68 w' w.heap.size (fun _ => True) u215000 x215000_2) ∧ Aside0 (w'.heap[gb202]? = some (.cells #[(.slice none 0 0)] 51 (0, 0))) ∧ Aside0 (w'.heap[gb214]? = some (.cells #[u215000] 51 (0, 0))) ∧ Aside0 (Below w.heap.size w w'))
    case atStart => exact ⟨(0), (y211), (.slice Ao17 y211.length co17), ax15, H', ⟨Nat.le_refl _⟩, ⟨(by (with_reducible repeat (first | apply Kd.V_alloc | apply Kd.V_drewN | apply Kd.V_drew)); exact Kd.V_mono (Kd.V_far (p := ⟨gb214, 0, none⟩) (Kd.V_mono HO_3.out (fun k_ hk => (⟨hk, hk.2⟩ : _ ∧ k_ ≠ gb214))) (fun _ hk => hk.2) (.slice Ao17 y211.length co17)) (fun _ hk => ⟨hk.1.1.2, ⟨hk.1.1.1, hk.1.2⟩⟩))⟩, ⟨(by (with_reducible repeat (first | apply Kd.R_alloc | apply Kd.R_drewN | apply Kd.R_drew)); exact Kd.R_mono (Kd.R_far (p := ⟨gb214, 0, none⟩) (Kd.R_types HO213.out BK214.out (by decide)) (fun _ hk => hk.2) (.slice Ao17 y211.length co17)) (fun _ hk => trivial))⟩, ⟨ax67⟩, ⟨(by (with_reducible repeat (first | refine blk_drewN ?_ _ | refine blk_drew ?_ | refine blk_alloc ?_ _)); refine blk_put (cs := #[.slice none 0 0]) ?_ 0 _ rfl; (with_reducible repeat (first | refine blk_drewN ?_ _ | refine blk_drew ?_ | refine blk_alloc ?_ _)); exact BK214.out)⟩, ⟨ax68⟩⟩
    case round =>
     clear H'
     try clear c1
     try clear c2
     try clear p2
     try clear q2
     try clear hx2
     try clear c3
     try clear c5
     try clear c5b0
     try clear c6
     try clear c6b0
     try clear p6
     try clear c7
     try clear c7b0
     try clear c8
     try clear c8b0
     try clear c9
     try clear c9b0
     try clear c9b1
     try clear c10
     try clear c10b0
     try clear c19
     try clear c20
     try clear p20
     try clear q20
     try clear hx20
     try clear hcz20_0
     try clear hfz20_0
     try clear hx206_0
     try clear hx207_0
     try clear p2
     try clear p206
     try clear p207
     try clear q206
     try clear q207
     obtain ⟨x7_2, x215000_2, u215000, rfl, HA, HK2, HO_3, HO_215000, BK202, BK214, HB⟩ := hrel
     cases gk with
     | zero => exact absurd HA.out (by simp [spec_l2Of.l2])
     | succ k2 =>
      have H := HA.out; clear HA
      simp only [spec_l2Of.l2] at H
      by_cases c21 : x7_2 < (x3_1.length : Int)
      ·rw [if_pos c21] at H
       have c21b0 : decide (x7_2 < (x3_1.length : Int)) = true := decide_eq_true c21
       clear c21
       by_cases c22 : 0 ≤ x7_2
       ·rw [if_pos c22] at H
        have c22b0 : decide (0 ≤ x7_2) = true := decide_eq_true c22
        clear c22
        obtain ⟨t216, A23, H⟩ := bs H
        by_cases c24 : x7_2 > 0
        ·rw [if_pos c24] at H
         have c24b0 : decide (0 < x7_2) = true := decide_eq_true c24
         clear c24
         obtain ⟨ji25, hji25⟩ : ∃ j_ : Int, (wrap64 (((rdOf ByteArray.empty x3_1 x7_2).size : Int) - 1)) = j_ := ⟨_, rfl⟩
         replace H : (if 0 ≤ (ji25) then (if (ji25) < ((rdOf ByteArray.empty x3_1 x7_2).size : Int) then (if (ji25) ≤ ((rdOf ByteArray.empty x3_1 x7_2).size : Int) then ((spec_l2Place.f k2 x3_1 ((rdOf ByteArray.empty x3_1 x7_2).extract 0 ((ji25) : Int).toNat)).bind fun t218 => (if x215000_2.length < 5864062014805 then (spec_l2Of.l2 k2 l0 x3_1 (wrap64 (x7_2 + 1)) (x215000_2 ++ [(⟨((bt (rdOf ByteArray.empty x3_1 x7_2) (ji25)) - 97) % 256, t218, t216⟩ : S68)])) else (none))) else (none)) else (none)) else (none)) = some r := by first | (rw [hji25] at H; exact H) | (simp only [hji25] at H ⊢; exact H)
         (try rw [hji25] at A23)
         have hji25w : (IntKind.i64.wrap (((rdOf ByteArray.empty x3_1 x7_2).size : Int) - 1)) = ji25 := (i64_w _).trans hji25
         by_cases c26 : 0 ≤ (ji25)
         ·rw [if_pos c26] at H
          have c26b0 : decide (0 ≤ (ji25)) = true := decide_eq_true c26
          clear c26
          by_cases c27 : (ji25) < ((rdOf ByteArray.empty x3_1 x7_2).size : Int)
          ·rw [if_pos c27] at H
           have c27b0 : decide ((ji25) < ((rdOf ByteArray.empty x3_1 x7_2).size : Int)) = true := decide_eq_true c27
           clear c27; have c29b0 := eq_true (of_decide_eq_true ax17 : 0 ≤ (ji25))
           by_cases c30 : (ji25) ≤ ((rdOf ByteArray.empty x3_1 x7_2).size : Int)
           ·rw [if_pos c30] at H
            have c30b0 := eq_true c30
            have c30b1 : decide ((ji25) ≤ ((rdOf ByteArray.empty x3_1 x7_2).size : Int)) = true := decide_eq_true c30
            clear c30
            obtain ⟨js31, hjs31⟩ : ∃ j_ : ByteArray, ((rdOf ByteArray.empty x3_1 x7_2).extract 0 ((ji25) : Int).toNat) = j_ := ⟨_, rfl⟩
            replace H : ((spec_l2Place.f k2 x3_1 js31).bind fun t218 => (if x215000_2.length < 5864062014805 then (spec_l2Of.l2 k2 l0 x3_1 (wrap64 (x7_2 + 1)) (x215000_2 ++ [(⟨((bt (rdOf ByteArray.empty x3_1 x7_2) (ji25)) - 97) % 256, t218, t216⟩ : S68)])) else (none))) = some r := by first | (rw [hjs31] at H; exact H) | (simp only [hjs31] at H ⊢; exact H)
            obtain ⟨t218, A32, H⟩ := bs H
            by_cases c33 : x215000_2.length < 5864062014805
            ·rw [if_pos c33] at H
             have LMc33 := Aside0.mk c33; clear c33
             obtain ⟨y219, hy219⟩ : ∃ y_ : List (S68), y_ = (x215000_2 ++ [(⟨((bt (rdOf ByteArray.empty x3_1 x7_2) (ji25)) - 97) % 256, t218, t216⟩ : S68)]) := ⟨_, rfl⟩
             replace H : (spec_l2Of.l2 k2 l0 x3_1 (wrap64 (x7_2 + 1)) y219) = some r := by first | (rw [hy219]; with_reducible exact H) | (have H2_ := (Option.bind_some _ _).symm.trans H; rw [hy219]; with_reducible exact H2_) | (have H2_ := (Option.bind_some _ _).symm.trans H; with_reducible exact H2_) | with_reducible exact H | (rw [hy219]; exact H) | exact H
             have Ny219 := Aside0.mk hy219; clear hy219
             have H' := Aside0.mk H
             clear H
             obtain ⟨Ao34, co34, eo34⟩ := Kd.V_slice HO_3.out
             subst eo34
             have p215 : 0 ≤ (x7_2 : Int) := of_decide_eq_true ax17
             have q215 : x7_2 < (x3_1.length : Int) := of_decide_eq_true ax17
             obtain ⟨ad215, e215, hx215_0⟩ := Kd.at_string (Kd.V_reads' HO_3.out).2.2 x7_2 p215 q215
             cases e215; replace p215 := eq_true p215; replace q215 := eq_true q215
             go_wp2_with (first | ((with_reducible refine gate_callee (f := 29) rfl ?_); refine goesL_ (some 48) rfl rfl Tryz.func29 (by kernel_rfl) rfl #[.slice A0 l0.length c0, .string (rdOf ByteArray.empty x3_1 x7_2)] rfl ax12 ?_; (with_reducible refine (spec_l2Has.calls k2 _ _ l0 (rdOf ByteArray.empty x3_1 x7_2) t216 _ ?side1 ?side2 A23.out).mono ?_); (case side1 => exact ax24); (case side2 => exact HC0.out); rintro e w' ⟨rfl, ⟨nd, rfl⟩⟩; refine ⟨_, rfl, ?_⟩; (try (rw [drewN_self wr]; generalize hq_ : World.drewN wr _ = wr; have n0_ : Aside0 (Kd.R k68 68 wr w.heap.size (fun _ => True) u215000 x215000_2) := ⟨ax69⟩; have n1_ : Aside0 (Kd.V Kd.string 9 wr w.heap.size (fun k_ => some k_ ≠ (u215000 : Value).ownBlock ∧ k_ ≠ gb202 ∧ k_ ≠ gb214) (.slice (some ad215) x3_1.length co34) x3_1) := ⟨ax70⟩; have n2_ : Aside0 (wr.heap[gb202]? = some (.cells #[.slice none 0 0] 51 (0, 0))) := ⟨ax71⟩; have n3_ : Aside0 (wr.heap[gb214]? = some (.cells #[u215000] 51 (0, 0))) := ⟨ax72⟩; have n4_ : Aside0 (Below w.heap.size w wr) := ⟨ax73⟩; clear HO_215000 HO_3 BK202 BK214 HB hq_; have HO_215000 := n0_; have HO_3 := n1_; have BK202 := n2_; have BK214 := n3_; have HB := n4_; clear n0_ n1_ n2_ n3_ n4_))) | ((with_reducible refine gate_dst (N := 9) rfl ?_); refine box_event ?hg (N := 9) ?hd (cs := #[.int .i64 0, .int .i64 0, .bool false]) (t := 68) ?hr ?_; (case hd => rfl); (case hg => rfl); (case hr => exact ax8); intro gb217 hg w35 hbox hb; have n0_ := Aside0.mk (Kd.V_below (Kd.V_elderB ax62 gb217 (Nat.le_of_eq hg.symm)) hb); have n1_ := Aside0.mk (Kd.R_below (Kd.R_elderB ax74 gb217 (Nat.le_of_eq hg.symm)) hb); have n2_ := Aside0.mk (blk_below (g := gb202) (o := .cells #[.slice none 0 0] 51 (0, 0)) ax61 hb); have n3_ := Aside0.mk (blk_below (g := gb214) (o := .cells #[u215000] 51 (0, 0)) ax75 hb); have n4_ := Aside0.mk (below_step ax68 hb); have n5_ := Aside0.mk (hbox); have n6_ := Aside0.mk ((ax76 : w.heap.size ≤ gb217)); have n7_ := Aside0.mk ((ax76 : w.heap.size ≤ gb217)); have n8_ := Aside0.mk ((ax65 : gb202 ≠ gb217)); have n9_ := Aside0.mk ((ax66 : gb217 ≠ gb202)); have n10_ := Aside0.mk ((ax77 : gb214 ≠ gb217)); have n11_ := Aside0.mk ((ax78 : gb217 ≠ gb214)); clear HO_3; clear HO_215000; clear BK202; clear BK214; clear HB; have HO_3 := n0_; have HO_215000 := n1_; have BK202 := n2_; have BK214 := n3_; have HB := n4_; have BK217 := n5_; have GW217 := n6_; have GE217 := n7_; have NB202_217 := n8_; have NB217_202 := n9_; have NB214_217 := n10_; have NB217_214 := n11_; clear n0_ n1_ n2_ n3_ n4_ n5_ n6_ n7_ n8_ n9_ n10_ n11_; clear hb hbox hg; have hnb36 := NB217_202.out; have hnc36 := NB202_217.out; have hnb37 := NB217_214.out; have hnc37 := NB214_217.out; have hcz38_0 : w35.cell? ⟨gb217, 0, none⟩ = some (.int .i64 0) := (blk_cell BK217.out 0).trans rfl; have hcz38_1 : w35.cell? ⟨gb217, 1, none⟩ = some (.int .i64 0) := (blk_cell BK217.out 1).trans rfl; have hcz38_2 : w35.cell? ⟨gb217, 2, none⟩ = some (.bool false) := (blk_cell BK217.out 2).trans rfl; have hfz38_0 := blk_frozen BK217.out 0; have hfz38_1 := blk_frozen BK217.out 1; have hfz38_2 := blk_frozen BK217.out 2) | ((with_reducible refine gate_store (t := 68) (p := 9) rfl ?_); refine store_event (t := 68) (p := 9) (v := ?vo_w39) (w1 := (((w35.setCell ⟨gb217, 0, none⟩ (.int .i64 (-1))).setCell ⟨gb217, 1, none⟩ (.int .i64 (-1))).setCell ⟨gb217, 2, none⟩ (.bool t216))) ?hg ?ho ?hn ?hr ?_; (case ho => rfl); (case hg => rfl); (case hn => rfl); (case hr => exact ax8); intro w39 hw; have n0_ : Aside0 (Kd.V Kd.string 9 w39 w.heap.size (fun k_ => some k_ ≠ (u215000 : Value).ownBlock ∧ k_ ≠ gb202 ∧ k_ ≠ gb214 ∧ k_ ≠ gb217) (.slice (some ad215) x3_1.length co34) x3_1) := ⟨(by rw [hw]; exact (by (with_reducible repeat (first | apply Kd.V_alloc | apply Kd.V_drewN | apply Kd.V_drew)); exact Kd.V_mono (Kd.V_far (p := ⟨gb217, 2, none⟩) (Kd.V_far (p := ⟨gb217, 1, none⟩) (Kd.V_far (p := ⟨gb217, 0, none⟩) (Kd.V_mono HO_3.out (fun k_ hk => (⟨hk, hk.2⟩ : _ ∧ k_ ≠ gb217))) (fun _ hk => hk.2) (.int .i64 (-1))) (fun _ hk => hk.2) (.int .i64 (-1))) (fun _ hk => hk.2) (.bool t216)) (fun _ hk => ⟨hk.1.1.1, ⟨hk.1.1.2.1, ⟨hk.1.1.2.2, hk.1.2⟩⟩⟩)))⟩; have n1_ : Aside0 (Kd.R k68 68 w39 w.heap.size (fun k_ => k_ ≠ gb217) u215000 x215000_2) := ⟨(by rw [hw]; exact ax79)⟩; have n2_ : Aside0 (w39.heap[gb202]? = some (.cells #[.slice none 0 0] 51 (0, 0))) := ⟨(by rw [hw]; exact ax80)⟩; have n3_ : Aside0 (w39.heap[gb214]? = some (.cells #[u215000] 51 (0, 0))) := ⟨(by rw [hw]; exact ax81)⟩; have n4_ : Aside0 (w39.heap[gb217]? = some (.cells #[.int .i64 (-1), .int .i64 (-1), .bool t216] 68 (0, 0))) := ⟨(by rw [hw]; exact ax82)⟩; have n5_ : Aside0 (Below w.heap.size w w39) := ⟨ax83⟩; clear hw; clear HO_3; clear HO_215000; clear BK202; clear BK214; clear BK217; clear HB; have HO_3 := n0_; have HO_215000 := n1_; have BK202 := n2_; have BK214 := n3_; have BK217 := n4_; have HB := n5_; clear n0_ n1_ n2_ n3_ n4_ n5_; have p28 : 0 ≤ ((ji25) : Int) := of_decide_eq_true ax17; have q28 : (ji25) < ((rdOf ByteArray.empty x3_1 x7_2).size : Int) := of_decide_eq_true ax17; have hx28 := bt_at (rdOf ByteArray.empty x3_1 x7_2) (ji25); replace p28 := eq_true p28; replace q28 := eq_true q28; have hcz40_0 : w39.cell? ⟨gb217, 0, none⟩ = some (.int .i64 (-1)) := (blk_cell BK217.out 0).trans rfl; have hcz40_1 : w39.cell? ⟨gb217, 1, none⟩ = some (.int .i64 (-1)) := (blk_cell BK217.out 1).trans rfl; have hcz40_2 : w39.cell? ⟨gb217, 2, none⟩ = some (.bool t216) := (blk_cell BK217.out 2).trans rfl; have hfz40_0 := blk_frozen BK217.out 0; have hfz40_1 := blk_frozen BK217.out 1; have hfz40_2 := blk_frozen BK217.out 2) | ((with_reducible refine gate_store (t := 3) (p := 59) rfl ?_); refine store_event (t := 3) (p := 59) (v := ?vo_w41) (w1 := (w39.setCell ⟨gb217, 0, none⟩ (.int .i64 (((bt (rdOf ByteArray.empty x3_1 x7_2) (ji25)) - 97) % 256)))) ?hg ?ho ?hn ?hr ?_; (case ho => rfl); (case hg => rfl); (case hn => rfl); (case hr => exact ax8); intro w41 hw; have n0_ : Aside0 (Kd.V Kd.string 9 w41 w.heap.size (fun k_ => some k_ ≠ (u215000 : Value).ownBlock ∧ k_ ≠ gb202 ∧ k_ ≠ gb214 ∧ k_ ≠ gb217) (.slice (some ad215) x3_1.length co34) x3_1) := ⟨(by rw [hw]; exact (by (with_reducible repeat (first | apply Kd.V_alloc | apply Kd.V_drewN | apply Kd.V_drew)); exact Kd.V_mono (Kd.V_far (p := ⟨gb217, 0, none⟩) (Kd.V_mono HO_3.out (fun k_ hk => (⟨hk, hk.2.2.2⟩ : _ ∧ k_ ≠ gb217))) (fun _ hk => hk.2) (.int .i64 (((bt (rdOf ByteArray.empty x3_1 x7_2) (ji25)) - 97) % 256))) (fun _ hk => ⟨hk.1.1, ⟨hk.1.2.1, ⟨hk.1.2.2.1, hk.1.2.2.2⟩⟩⟩)))⟩; have n1_ : Aside0 (Kd.R k68 68 w41 w.heap.size (fun k_ => k_ ≠ gb217) u215000 x215000_2) := ⟨(by rw [hw]; exact (by (with_reducible repeat (first | apply Kd.R_alloc | apply Kd.R_drewN | apply Kd.R_drew)); exact Kd.R_mono (Kd.R_far (p := ⟨gb217, 0, none⟩) (Kd.R_mono HO_215000.out (fun k_ hk => (⟨hk, hk⟩ : _ ∧ k_ ≠ gb217))) (fun _ hk => hk.2) (.int .i64 (((bt (rdOf ByteArray.empty x3_1 x7_2) (ji25)) - 97) % 256))) (fun _ hk => hk.1)))⟩; have n2_ : Aside0 (w41.heap[gb202]? = some (.cells #[.slice none 0 0] 51 (0, 0))) := ⟨(by rw [hw]; exact ax84)⟩; have n3_ : Aside0 (w41.heap[gb214]? = some (.cells #[u215000] 51 (0, 0))) := ⟨(by rw [hw]; exact ax85)⟩; have n4_ : Aside0 (w41.heap[gb217]? = some (.cells #[.int .i64 (((bt (rdOf ByteArray.empty x3_1 x7_2) (ji25)) - 97) % 256), .int .i64 (-1), .bool t216] 68 (0, 0))) := ⟨(by rw [hw]; exact (by (with_reducible repeat (first | refine blk_drewN ?_ _ | refine blk_drew ?_ | refine blk_alloc ?_ _)); refine blk_put (cs := #[.int .i64 (-1), .int .i64 (-1), .bool t216]) ?_ 0 _ rfl; (with_reducible repeat (first | refine blk_drewN ?_ _ | refine blk_drew ?_ | refine blk_alloc ?_ _)); exact BK217.out))⟩; have n5_ : Aside0 (Below w.heap.size w w41) := ⟨ax83⟩; clear hw; clear HO_3; clear HO_215000; clear BK202; clear BK214; clear BK217; clear HB; have HO_3 := n0_; have HO_215000 := n1_; have BK202 := n2_; have BK214 := n3_; have BK217 := n4_; have HB := n5_; clear n0_ n1_ n2_ n3_ n4_ n5_) | ((with_reducible refine gate_callee (f := 33) rfl ?_); refine goesL_ (some 66) rfl rfl Tryz.func33 (by kernel_rfl) rfl #[.slice (some ad215) x3_1.length co34, .string js31] rfl ax12 ?_; (with_reducible refine (spec_l2Place.calls k2 _ _ x3_1 js31 t218 _ ?side1 ?side2 A32.out).mono ?_); (case side1 => repeat (first | exact (Kd.V_reads' HO_3.out).2.2 | (with_reducible refine Kd.C_alloc ?_ _) | (with_reducible refine Kd.C_drewN ?_ _) | (with_reducible refine Kd.C_drew ?_))); (case side2 => exact (Kd.V_reads' HO_3.out).2.1); rintro e w' ⟨rfl, ⟨nd, rfl⟩⟩; refine ⟨_, rfl, ?_⟩; (try (rw [drewN_self w41]; generalize hq_ : World.drewN w41 _ = w41; have n0_ : Aside0 (Kd.R k68 68 w41 w.heap.size (fun k_ => k_ ≠ gb217) u215000 x215000_2) := ⟨ax69⟩; have n1_ : Aside0 (Kd.V Kd.string 9 w41 w.heap.size (fun k_ => some k_ ≠ (u215000 : Value).ownBlock ∧ k_ ≠ gb202 ∧ k_ ≠ gb214 ∧ k_ ≠ gb217) (.slice (some ad215) x3_1.length co34) x3_1) := ⟨ax70⟩; have n2_ : Aside0 (w41.heap[gb202]? = some (.cells #[.slice none 0 0] 51 (0, 0))) := ⟨ax71⟩; have n3_ : Aside0 (w41.heap[gb214]? = some (.cells #[u215000] 51 (0, 0))) := ⟨ax72⟩; have n4_ : Aside0 (w41.heap[gb217]? = some (.cells #[.int .i64 (((bt (rdOf ByteArray.empty x3_1 x7_2) (ji25)) - 97) % 256), .int .i64 (-1), .bool t216] 68 (0, 0))) := ⟨(by rw [← hq_]; exact (by (with_reducible repeat (first | refine blk_drewN ?_ _ | refine blk_drew ?_ | refine blk_alloc ?_ _)); exact BK217.out))⟩; have n5_ : Aside0 (Below w.heap.size w w41) := ⟨(by rw [← hq_]; exact ax86)⟩; clear HO_215000 HO_3 BK202 BK214 BK217 HB hq_; have HO_215000 := n0_; have HO_3 := n1_; have BK202 := n2_; have BK214 := n3_; have BK217 := n4_; have HB := n5_; clear n0_ n1_ n2_ n3_ n4_ n5_)); have hcz42_0 : w41.cell? ⟨gb217, 0, none⟩ = some (.int .i64 (((bt (rdOf ByteArray.empty x3_1 x7_2) (ji25)) - 97) % 256)) := (blk_cell BK217.out 0).trans rfl; have hcz42_1 : w41.cell? ⟨gb217, 1, none⟩ = some (.int .i64 (-1)) := (blk_cell BK217.out 1).trans rfl; have hcz42_2 : w41.cell? ⟨gb217, 2, none⟩ = some (.bool t216) := (blk_cell BK217.out 2).trans rfl; have hfz42_0 := blk_frozen BK217.out 0; have hfz42_1 := blk_frozen BK217.out 1; have hfz42_2 := blk_frozen BK217.out 2; have hnb43 := NB214_202.out; have hnc43 := NB202_214.out; have hcz44_0 : w41.cell? ⟨gb214, 0, none⟩ = some (u215000) := (blk_cell BK214.out 0).trans rfl; have hfz44_0 := blk_frozen BK214.out 0) | ((with_reducible refine gate_builtin (b := .append) (xs := #[.tmp 69, .tmp 71]) rfl ?_); at_builtin; refine Kd.R_append k68 (w0 := w) w.heap.size rfl (.tmp 69) (.tmp 71) 49 68 (.agg #[(.int .i64 0), (.int .i64 0), (.bool false)]) 24 rfl Tryz.underlying49 info68 rfl (by decide) (by omega) u215000 x215000_2 (⟨((bt (rdOf ByteArray.empty x3_1 x7_2) (ji25)) - 97) % 256, t218, t216⟩ : S68) [.int .i64 (((bt (rdOf ByteArray.empty x3_1 x7_2) (ji25)) - 97) % 256), .int .i64 t218, .bool t216] (fun k_ => k_ ≠ gb217) (fun _ => False) rfl ax8 ?aP (fun _ hk => hk.elim) ?aF ?aO ?aB ?aS ?aL ?_; (case aP => exact k68_mkM _ _ _ (⟨((bt (rdOf ByteArray.empty x3_1 x7_2) (ji25)) - 97) % 256, t218, t216⟩ : S68)); (case aB => exact ax87); (case aF => exact (fun k_ hk => Kd.freshB (g := gb217) (o := .cells #[.int .i64 (((bt (rdOf ByteArray.empty x3_1 x7_2) (ji25)) - 97) % 256), .int .i64 t218, .bool t216] 68 (0, 0)) ax88 k_ hk)); (case aO => exact (by (with_reducible repeat (first | apply Kd.R_alloc | apply Kd.R_drewN | apply Kd.R_drew)); exact Kd.R_mono (Kd.R_far (p := ⟨gb217, 1, none⟩) (Kd.R_mono HO_215000.out (fun k_ hk => (⟨hk, hk⟩ : _ ∧ k_ ≠ gb217))) (fun _ hk => hk.2) (.int .i64 t218)) (fun _ hk => hk.1))); (case aS => exact ax89); (case aL => have := LMc33.out; omega); intro v220 w45 ho hb hg hat; rw [← Ny219.out] at ho; have n0_ := Aside0.mk (Kd.V_afterv (ok := (fun k_ => k_ ≠ gb202 ∧ k_ ≠ gb214 ∧ k_ ≠ gb217)) (by (with_reducible repeat (first | apply Kd.V_alloc | apply Kd.V_drewN | apply Kd.V_drew)); exact Kd.V_mono (Kd.V_far (p := ⟨gb217, 1, none⟩) (Kd.V_mono HO_3.out (fun k_ hk => (⟨hk, hk.2.2.2⟩ : _ ∧ k_ ≠ gb217))) (fun _ hk => hk.2) (.int .i64 t218)) (fun _ hk => ⟨⟨hk.1.2.1, ⟨hk.1.2.2.1, hk.1.2.2.2⟩⟩, hk.1.1⟩)) hg hat); have n1_ := Aside0.mk (blk_grown (g := gb202) (o := .cells #[.slice none 0 0] 51 (0, 0)) ax84 hg (Kd.R_ne HO_215000.out BK202.out (by decide))); have n2_ := Aside0.mk (blk_grown (g := gb214) (o := .cells #[u215000] 51 (0, 0)) ax85 hg (Kd.R_ne HO_215000.out BK214.out (by decide))); have n3_ := Aside0.mk (blk_grown (g := gb217) (o := .cells #[.int .i64 (((bt (rdOf ByteArray.empty x3_1 x7_2) (ji25)) - 97) % 256), .int .i64 t218, .bool t216] 68 (0, 0)) ax88 hg (Kd.R_away HO_215000.out (fun _ hk => hk))); have n4_ := Aside0.mk (hb); have n5_ := Aside0.mk (ho); clear HO_3; clear BK202; clear BK214; clear BK217; clear HB; clear HO_215000; have HO_3 := n0_; have BK202 := n1_; have BK214 := n2_; have BK217 := n3_; have HB := n4_; have HO221 := n5_; clear n0_ n1_ n2_ n3_ n4_ n5_; clear ho hb hg hat; obtain ⟨Ao46, co46, eo46⟩ := Kd.R_slice HO221.out; subst eo46; have hcz47_0 : w45.cell? ⟨gb214, 0, none⟩ = some (u215000) := (blk_cell BK214.out 0).trans rfl; have hfz47_0 := blk_frozen BK214.out 0))
             go_roundg k2
             case measure => have := HK1.out; have := HK2.out; omega
             case rel => exact ⟨(wrap64 (x7_2 + 1)), (y219), (.slice Ao46 y219.length co46), ax15, H', ⟨ax63⟩, ⟨(by (with_reducible repeat (first | apply Kd.V_alloc | apply Kd.V_drewN | apply Kd.V_drew)); exact Kd.V_mono (Kd.V_far (p := ⟨gb214, 0, none⟩) (Kd.V_mono HO_3.out (fun k_ hk => (⟨hk, hk.1.2.1⟩ : _ ∧ k_ ≠ gb214))) (fun _ hk => hk.2) (.slice Ao46 y219.length co46)) (fun _ hk => ⟨hk.1.2, ⟨hk.1.1.1, hk.1.1.2.1⟩⟩))⟩, ⟨(by (with_reducible repeat (first | apply Kd.R_alloc | apply Kd.R_drewN | apply Kd.R_drew)); exact Kd.R_mono (Kd.R_far (p := ⟨gb214, 0, none⟩) (Kd.R_types HO221.out BK214.out (by decide)) (fun _ hk => hk.2) (.slice Ao46 y219.length co46)) (fun _ hk => trivial))⟩, ⟨ax67⟩, ⟨ax90⟩, ⟨ax86⟩⟩
            ·rw [if_neg c33] at H
             exact absurd H (by simp)
           ·rw [if_neg c30] at H
            exact absurd H (by simp)
          ·rw [if_neg c27] at H
           exact absurd H (by simp)
         ·rw [if_neg c26] at H
          exact absurd H (by simp)
        ·rw [if_neg c24] at H
         have c24b0 : decide (0 < x7_2) = false := decide_eq_false c24
         clear c24
         by_cases c48 : x215000_2.length < 5864062014805
         ·rw [if_pos c48] at H
          have LMc48 := Aside0.mk c48; clear c48
          obtain ⟨y222, hy222⟩ : ∃ y_ : List (S68), y_ = (x215000_2 ++ [(⟨(-1), (-1), t216⟩ : S68)]) := ⟨_, rfl⟩
          replace H : (spec_l2Of.l2 k2 l0 x3_1 (wrap64 (x7_2 + 1)) y222) = some r := by first | (rw [hy222]; with_reducible exact H) | (have H2_ := (Option.bind_some _ _).symm.trans H; rw [hy222]; with_reducible exact H2_) | (have H2_ := (Option.bind_some _ _).symm.trans H; with_reducible exact H2_) | with_reducible exact H | (rw [hy222]; exact H) | exact H
          have Ny222 := Aside0.mk hy222; clear hy222
          have H' := Aside0.mk H
          clear H
          obtain ⟨Ao49, co49, eo49⟩ := Kd.V_slice HO_3.out
          subst eo49
          have p215 : 0 ≤ (x7_2 : Int) := of_decide_eq_true ax17
          have q215 : x7_2 < (x3_1.length : Int) := of_decide_eq_true ax17
          obtain ⟨ad215, e215, hx215_0⟩ := Kd.at_string (Kd.V_reads' HO_3.out).2.2 x7_2 p215 q215
          cases e215; replace p215 := eq_true p215; replace q215 := eq_true q215
          go_wp2_with (first | ((with_reducible refine gate_callee (f := 29) rfl ?_); refine goesL_ (some 48) rfl rfl Tryz.func29 (by kernel_rfl) rfl #[.slice A0 l0.length c0, .string (rdOf ByteArray.empty x3_1 x7_2)] rfl ax12 ?_; (with_reducible refine (spec_l2Has.calls k2 _ _ l0 (rdOf ByteArray.empty x3_1 x7_2) t216 _ ?side1 ?side2 A23.out).mono ?_); (case side1 => exact ax24); (case side2 => exact HC0.out); rintro e w' ⟨rfl, ⟨nd, rfl⟩⟩; refine ⟨_, rfl, ?_⟩; (try (rw [drewN_self wr]; generalize hq_ : World.drewN wr _ = wr; have n0_ : Aside0 (Kd.R k68 68 wr w.heap.size (fun _ => True) u215000 x215000_2) := ⟨ax69⟩; have n1_ : Aside0 (Kd.V Kd.string 9 wr w.heap.size (fun k_ => some k_ ≠ (u215000 : Value).ownBlock ∧ k_ ≠ gb202 ∧ k_ ≠ gb214) (.slice (some ad215) x3_1.length co49) x3_1) := ⟨ax70⟩; have n2_ : Aside0 (wr.heap[gb202]? = some (.cells #[.slice none 0 0] 51 (0, 0))) := ⟨ax71⟩; have n3_ : Aside0 (wr.heap[gb214]? = some (.cells #[u215000] 51 (0, 0))) := ⟨ax72⟩; have n4_ : Aside0 (Below w.heap.size w wr) := ⟨ax73⟩; clear HO_215000 HO_3 BK202 BK214 HB hq_; have HO_215000 := n0_; have HO_3 := n1_; have BK202 := n2_; have BK214 := n3_; have HB := n4_; clear n0_ n1_ n2_ n3_ n4_))) | ((with_reducible refine gate_dst (N := 9) rfl ?_); refine box_event ?hg (N := 9) ?hd (cs := #[.int .i64 0, .int .i64 0, .bool false]) (t := 68) ?hr ?_; (case hd => rfl); (case hg => rfl); (case hr => exact ax8); intro gb217 hg w50 hbox hb; have n0_ := Aside0.mk (Kd.V_below (Kd.V_elderB ax62 gb217 (Nat.le_of_eq hg.symm)) hb); have n1_ := Aside0.mk (Kd.R_below (Kd.R_elderB ax74 gb217 (Nat.le_of_eq hg.symm)) hb); have n2_ := Aside0.mk (blk_below (g := gb202) (o := .cells #[.slice none 0 0] 51 (0, 0)) ax61 hb); have n3_ := Aside0.mk (blk_below (g := gb214) (o := .cells #[u215000] 51 (0, 0)) ax75 hb); have n4_ := Aside0.mk (below_step ax68 hb); have n5_ := Aside0.mk (hbox); have n6_ := Aside0.mk ((ax76 : w.heap.size ≤ gb217)); have n7_ := Aside0.mk ((ax76 : w.heap.size ≤ gb217)); have n8_ := Aside0.mk ((ax65 : gb202 ≠ gb217)); have n9_ := Aside0.mk ((ax66 : gb217 ≠ gb202)); have n10_ := Aside0.mk ((ax77 : gb214 ≠ gb217)); have n11_ := Aside0.mk ((ax78 : gb217 ≠ gb214)); clear HO_3; clear HO_215000; clear BK202; clear BK214; clear HB; have HO_3 := n0_; have HO_215000 := n1_; have BK202 := n2_; have BK214 := n3_; have HB := n4_; have BK217 := n5_; have GW217 := n6_; have GE217 := n7_; have NB202_217 := n8_; have NB217_202 := n9_; have NB214_217 := n10_; have NB217_214 := n11_; clear n0_ n1_ n2_ n3_ n4_ n5_ n6_ n7_ n8_ n9_ n10_ n11_; clear hb hbox hg; have hnb51 := NB217_202.out; have hnc51 := NB202_217.out; have hnb52 := NB217_214.out; have hnc52 := NB214_217.out; have hcz53_0 : w50.cell? ⟨gb217, 0, none⟩ = some (.int .i64 0) := (blk_cell BK217.out 0).trans rfl; have hcz53_1 : w50.cell? ⟨gb217, 1, none⟩ = some (.int .i64 0) := (blk_cell BK217.out 1).trans rfl; have hcz53_2 : w50.cell? ⟨gb217, 2, none⟩ = some (.bool false) := (blk_cell BK217.out 2).trans rfl; have hfz53_0 := blk_frozen BK217.out 0; have hfz53_1 := blk_frozen BK217.out 1; have hfz53_2 := blk_frozen BK217.out 2; have hnb54 := NB214_202.out; have hnc54 := NB202_214.out; have hcz55_0 : w50.cell? ⟨gb214, 0, none⟩ = some (u215000) := (blk_cell BK214.out 0).trans rfl; have hfz55_0 := blk_frozen BK214.out 0) | ((with_reducible refine gate_builtin (b := .append) (xs := #[.tmp 69, .tmp 71]) rfl ?_); at_builtin; refine Kd.R_append k68 (w0 := w) w.heap.size rfl (.tmp 69) (.tmp 71) 49 68 (.agg #[(.int .i64 0), (.int .i64 0), (.bool false)]) 24 rfl Tryz.underlying49 info68 rfl (by decide) (by omega) u215000 x215000_2 (⟨(-1), (-1), t216⟩ : S68) [.int .i64 (-1), .int .i64 (-1), .bool t216] (fun k_ => k_ ≠ gb217) (fun _ => False) rfl ax8 ?aP (fun _ hk => hk.elim) ?aF ?aO ?aB ?aS ?aL ?_; (case aP => exact k68_mkM _ _ _ (⟨(-1), (-1), t216⟩ : S68)); (case aB => exact ax87); (case aF => exact (fun k_ hk => Kd.freshB (g := gb217) (o := .cells #[.int .i64 (-1), .int .i64 (-1), .bool t216] 68 (0, 0)) ax82 k_ hk)); (case aO => exact ax79); (case aS => exact ax89); (case aL => have := LMc48.out; omega); intro v223 w56 ho hb hg hat; rw [← Ny222.out] at ho; have n0_ := Aside0.mk (Kd.V_afterv (ok := (fun k_ => k_ ≠ gb202 ∧ k_ ≠ gb214 ∧ k_ ≠ gb217)) (by (with_reducible repeat (first | apply Kd.V_alloc | apply Kd.V_drewN | apply Kd.V_drew)); exact Kd.V_mono (Kd.V_far (p := ⟨gb217, 2, none⟩) (Kd.V_far (p := ⟨gb217, 1, none⟩) (Kd.V_far (p := ⟨gb217, 0, none⟩) (Kd.V_mono HO_3.out (fun k_ hk => (⟨hk, hk.2⟩ : _ ∧ k_ ≠ gb217))) (fun _ hk => hk.2) (.int .i64 (-1))) (fun _ hk => hk.2) (.int .i64 (-1))) (fun _ hk => hk.2) (.bool t216)) (fun _ hk => ⟨⟨hk.1.1.2.1, ⟨hk.1.1.2.2, hk.1.2⟩⟩, hk.1.1.1⟩)) hg hat); have n1_ := Aside0.mk (blk_grown (g := gb202) (o := .cells #[.slice none 0 0] 51 (0, 0)) ax80 hg (Kd.R_ne HO_215000.out BK202.out (by decide))); have n2_ := Aside0.mk (blk_grown (g := gb214) (o := .cells #[u215000] 51 (0, 0)) ax81 hg (Kd.R_ne HO_215000.out BK214.out (by decide))); have n3_ := Aside0.mk (blk_grown (g := gb217) (o := .cells #[.int .i64 (-1), .int .i64 (-1), .bool t216] 68 (0, 0)) ax82 hg (Kd.R_away HO_215000.out (fun _ hk => hk.2))); have n4_ := Aside0.mk (hb); have n5_ := Aside0.mk (ho); clear HO_3; clear BK202; clear BK214; clear BK217; clear HB; clear HO_215000; have HO_3 := n0_; have BK202 := n1_; have BK214 := n2_; have BK217 := n3_; have HB := n4_; have HO224 := n5_; clear n0_ n1_ n2_ n3_ n4_ n5_; clear ho hb hg hat; obtain ⟨Ao57, co57, eo57⟩ := Kd.R_slice HO224.out; subst eo57; have hcz58_0 : w56.cell? ⟨gb214, 0, none⟩ = some (u215000) := (blk_cell BK214.out 0).trans rfl; have hfz58_0 := blk_frozen BK214.out 0))
          go_roundg k2
          case measure => have := HK1.out; have := HK2.out; omega
          case rel => exact ⟨(wrap64 (x7_2 + 1)), (y222), (.slice Ao57 y222.length co57), ax15, H', ⟨ax63⟩, ⟨(by (with_reducible repeat (first | apply Kd.V_alloc | apply Kd.V_drewN | apply Kd.V_drew)); exact Kd.V_mono (Kd.V_far (p := ⟨gb214, 0, none⟩) (Kd.V_mono HO_3.out (fun k_ hk => (⟨hk, hk.1.2.1⟩ : _ ∧ k_ ≠ gb214))) (fun _ hk => hk.2) (.slice Ao57 y222.length co57)) (fun _ hk => ⟨hk.1.2, ⟨hk.1.1.1, hk.1.1.2.1⟩⟩))⟩, ⟨(by (with_reducible repeat (first | apply Kd.R_alloc | apply Kd.R_drewN | apply Kd.R_drew)); exact Kd.R_mono (Kd.R_far (p := ⟨gb214, 0, none⟩) (Kd.R_types HO224.out BK214.out (by decide)) (fun _ hk => hk.2) (.slice Ao57 y222.length co57)) (fun _ hk => trivial))⟩, ⟨ax67⟩, ⟨ax90⟩, ⟨ax86⟩⟩
         ·rw [if_neg c48] at H
          exact absurd H (by simp)
       ·rw [if_neg c22] at H
        exact absurd H (by simp)
      ·rw [if_neg c21] at H
       have c21b0 : decide (x7_2 < (x3_1.length : Int)) = false := decide_eq_false c21
       clear c21
       obtain rfl := Option.some.inj H
       obtain ⟨Ao59, co59, eo59⟩ := Kd.V_slice HO_3.out
       subst eo59; have hnb60 := NB214_202.out; have hnc60 := NB202_214.out
       have hcz61_0 : wr.cell? ⟨gb214, 0, none⟩ = some (u215000) := (blk_cell BK214.out 0).trans rfl
       have hfz61_0 := blk_frozen BK214.out 0
       obtain ⟨Ao62, co62, eo62⟩ := Kd.R_slice HO_215000.out
       subst eo62
       have hcz63_0 : wr.cell? ⟨gb202, 0, none⟩ = some (.slice none 0 0) := (blk_cell BK202.out 0).trans rfl
       have hfz63_0 := blk_frozen BK202.out 0
       go_wp2
       refine bodyPost_ret (results_cell_row rfl _ _ gb202 51 #[.slice Ao62 x215000_2.length co62] (0, 0) _ rfl (by (with_reducible repeat (first | refine blk_drewN ?_ _ | refine blk_drew ?_ | refine blk_alloc ?_ _)); refine blk_put (cs := #[.slice none 0 0]) ?_ 0 _ rfl; (with_reducible repeat (first | refine blk_drewN ?_ _ | refine blk_drew ?_ | refine blk_alloc ?_ _)); exact BK202.out) Tryz.underlying51 rfl (by kernel_rfl)) rfl ?_
       exact ⟨_, by first | rfl | (simp [errW_none, errW_some] <;> rfl) | (simp [*, errW_none, errW_some] <;> rfl), by (with_reducible repeat (first | apply Kd.R_alloc | apply Kd.R_drewN | apply Kd.R_drew)); exact Kd.R_mono (Kd.R_far (p := ⟨gb202, 0, none⟩) (Kd.R_types HO_215000.out BK202.out (by decide)) (fun _ hk => hk.2) (.slice Ao62 x215000_2.length co62)) (fun _ hk => trivial), by repeat (first | (with_reducible first | exact HB.out | apply below_alloc | apply pw_below_drewN | apply below_drew1 | refine below_set ?_ GE202.out | refine below_set ?_ GE214.out) | exact HB.out)⟩

end Go.Proofs.YtnjjchbhbicmoaaGreatDoor.X

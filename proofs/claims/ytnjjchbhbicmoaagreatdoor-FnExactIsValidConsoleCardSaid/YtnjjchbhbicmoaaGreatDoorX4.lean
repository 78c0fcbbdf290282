-- By gen.py (the session's own program over the kit's printer): functions of the program, each with its contract. Lean checks it.
import Derived.Test.YtnjjchbhbicmoaaGreatDoorX0
import Derived.Test.YtnjjchbhbicmoaaGreatDoorX1
import Derived.Test.YtnjjchbhbicmoaaGreatDoorX3
namespace Go.Proofs.YtnjjchbhbicmoaaGreatDoor.X
open Go.RowKit Go.Proofs.YtnjjchbhbicmoaaGreatDoorW.PrintWords Go.Proofs.YtnjjchbhbicmoaaGreatDoorW.PrintLast Go.Proofs.YtnjjchbhbicmoaaGreatDoorW.PrintMore
attribute [local go_sem] max2_int min2_int max_two min_two max_three min_three max_four min_four   -- for this text's walks alone
set_option linter.unusedVariables false
set_option linter.unusedSimpArgs false

/-! ### spec_l2Set: function 28 -/
def spec_l2Set.l0 : Nat → List ByteArray → List ByteArray → Int → Option (List ByteArray × Bool)
 | 0, _, _, _ => none
 | k + 1, x0, x4, x5 => if x5 < (x0.length : Int) then (if 0 ≤ x5 then ((spec_l2Word.f k (rdOf ByteArray.empty x0 x5)).bind fun t172 => (if t172 = true then ((spec_l2Put.f k x4 (rdOf ByteArray.empty x0 x5)).bind fun t174 => (spec_l2Set.l0 k x0 t174 (wrap64 (x5 + 1)))) else (some ((([] : List ByteArray)), false)))) else (none)) else (some (x4, decide ((x4.length : Int) ≤ 40)))
def spec_l2Set.f (k : Nat) (l0 : List ByteArray) : Option (List ByteArray × Bool) := spec_l2Set.l0 k l0 (([] : List ByteArray)) 0
theorem spec_l2Set.mono_l : ∀ k, (∀ y0 y1 y2, LeO (spec_l2Set.l0 k y0 y1 y2) (spec_l2Set.l0 (k + 1) y0 y1 y2))
 | 0 => fun _ _ _ r h => by simp [spec_l2Set.l0] at h
 | k + 1 => by
  have ih0 := spec_l2Set.mono_l k
  ·intro y0 y1 y2
   unfold spec_l2Set.l0
   repeat' first | (with_reducible first | exact ih0 .. | exact spec_l2Put.mono .. | exact spec_l2Word.mono .. | exact LeO.refl _ | exact LeO.none _ | refine LeO.ite ?_ ?_ | refine LeO.bind ?_ (fun _ => ?_)) | exact ih0 .. | exact spec_l2Put.mono .. | exact spec_l2Word.mono .. | exact LeO.none _ | refine LeO.ite ?_ ?_ | refine LeO.bind ?_ (fun _ => ?_)
theorem spec_l2Set.mono : ∀ a0 k, LeO (spec_l2Set.f k a0) (spec_l2Set.f (k + 1) a0) := by
 intro a0 k
 have ih0 := spec_l2Set.mono_l k
 unfold spec_l2Set.f
 repeat' first | (with_reducible first | exact ih0 .. | exact spec_l2Put.mono .. | exact spec_l2Word.mono .. | exact LeO.refl _ | exact LeO.none _ | refine LeO.ite ?_ ?_ | refine LeO.bind ?_ (fun _ => ?_)) | exact ih0 .. | exact spec_l2Put.mono .. | exact spec_l2Word.mono .. | exact LeO.none _ | refine LeO.ite ?_ ?_ | refine LeO.bind ?_ (fun _ => ?_)
set_option maxHeartbeats 8000000 in
set_option maxRecDepth 100000 in
theorem spec_l2Set.calls (k : Nat) (A0 : Option Addr) (c0 : Nat) (l0 : List ByteArray) (r1 : List ByteArray) (r2 : Bool) (w : World) (hr0 : Kd.C Kd.string w A0 l0.length l0) (hc0 : l0.length ≤ c0) (h : spec_l2Set.f k l0 = some (r1, r2)) :
  Calls Tryz.prog 28 #[.slice A0 l0.length c0] w fun e w' => ∃ v0_ : Value, e = .returned (.tuple #[v0_, .bool r2]) ∧ Kd.V Kd.string 9 w' w.heap.size (fun k_ => (w.heap.size ≤ k_)) v0_ r1 ∧ Below w.heap.size w w' := by
 have HR0 := Aside0.mk hr0; have HC0 := Aside0.mk hc0; clear hr0 hc0; have HB := Aside0.mk (Below.refl w.heap.size w)
 have H : (spec_l2Set.l0 k l0 (([] : List ByteArray)) 0) = some (r1, r2) := h
 clear h
 obtain ⟨y168, hy168⟩ : ∃ y_ : List ByteArray, y_ = (([] : List ByteArray)) := ⟨_, rfl⟩
 replace H : (spec_l2Set.l0 k l0 y168 0) = some (r1, r2) := by first | (rw [hy168]; with_reducible exact H) | (have H2_ := (Option.bind_some _ _).symm.trans H; rw [hy168]; with_reducible exact H2_) | (have H2_ := (Option.bind_some _ _).symm.trans H; with_reducible exact H2_) | with_reducible exact H | (rw [hy168]; exact H) | exact H
 have Ny168 := Aside0.mk hy168; clear hy168
 have H' := Aside0.mk H
 clear H
 go_enter Tryz.func28, Tryz.ntmps28
 go_wp2_with (first | ((with_reducible refine gate_dst (N := 6) rfl ?_); refine Kd.R_lit Kd.string _ 9 ?hg (N := 6) ?hd (xs := ([] : List ByteArray)) (inner := []) (ok := fun _ => True) (okp := fun _ => True) ?hr ?hp (fun _ hk => hk) trivial (Below.refl _ _) (Nat.le_refl _) (by simp) ?_; (case hd => rfl); (case hg => rfl); (case hr => exact ax8); (case hp => exact ax18); intro v169 w2 ho3 hb hg_ hnew_; clear hg_ hnew_; (first | rw [← Ny168.out] at ho3 | (simp only [Int.reduceToNat] at ho3; rw [← Ny168.out] at ho3)); have n0_ := Aside0.mk (Kd.R_lower (Kd.R_newM (M := fun k_ => (w.heap.size ≤ k_)) ho3 (below_size ax9) (fun k_ h_ => h_)) (below_size ax9)); have n1_ := Aside0.mk (below_step ax9 hb); clear HB; have HO170 := n0_; have HB := n1_; clear n0_ n1_; clear hb ho3))
 go_loopg [4, 5] k (fun kq v4 v5 w' => ∃ (x4_1 : List ByteArray) (x5_1 : Int), v5 = .int .i64 x5_1 ∧ Aside0 (spec_l2Set.l0 kq l0 x4_1 x5_1 = some (r1, r2)) ∧ Aside0 (kq ≤ k) ∧ Aside0 (Kd.V Kd.string 9 w' w.heap.size (fun k_ => (w.heap.size ≤ k_)) v4 x4_1) ∧ Aside0 (Below w.heap.size w w'))
 case atStart => exact ⟨(y168), (0), ax15, H', ⟨Nat.le_refl _⟩, ⟨Kd.R_V (by (with_reducible repeat (first | apply Kd.R_alloc | apply Kd.R_drewN | apply Kd.R_drew)); exact Kd.R_mono HO170.out (fun _ hk => hk.1))⟩, ⟨ax9⟩⟩
 case round =>
  clear H'
  try clear c2
  try clear p2
  obtain ⟨x4_1, x5_1, rfl, HA, HK1, HO_4, HB⟩ := hrel
  cases gk with
  | zero => exact absurd HA.out (by simp [spec_l2Set.l0])
  | succ k1 =>
   have H := HA.out; clear HA
   simp only [spec_l2Set.l0] at H
   by_cases c4 : x5_1 < (l0.length : Int)
   ·rw [if_pos c4] at H
    have c4b0 : decide (x5_1 < (l0.length : Int)) = true := decide_eq_true c4
    clear c4
    by_cases c5 : 0 ≤ x5_1
    ·rw [if_pos c5] at H
     have c5b0 : decide (0 ≤ x5_1) = true := decide_eq_true c5
     clear c5
     obtain ⟨t172, A6, H⟩ := bs H
     by_cases c7 : t172 = true
     ·subst c7
      rw [if_pos rfl] at H
      obtain ⟨t174, A8, H⟩ := bs H
      have H' := Aside0.mk H
      clear H
      have p171 : 0 ≤ (x5_1 : Int) := of_decide_eq_true ax17
      have q171 : x5_1 < (l0.length : Int) := of_decide_eq_true ax17
      obtain ⟨ad171, e171, hx171_0⟩ := Kd.at_string HR0.out x5_1 p171 q171
      cases e171; replace hx171_0 := (HB.out.cell (World.block_lt_of_cell? w _ hx171_0)).trans hx171_0; replace p171 := eq_true p171; replace q171 := eq_true q171
      go_wp2_with (first | ((with_reducible refine gate_callee (f := 16) rfl ?_); refine goesL_ (some 17) rfl rfl Tryz.func16 (by kernel_rfl) rfl #[.string (rdOf ByteArray.empty l0 x5_1)] rfl ax12 ?_; (with_reducible refine (spec_l2Word.calls k1 (rdOf ByteArray.empty l0 x5_1) true _ A6.out).mono ?_); rintro e w' ⟨rfl, ⟨nd, rfl⟩⟩; refine ⟨_, rfl, ?_⟩; have p173 : 0 ≤ (x5_1 : Int) := of_decide_eq_true ax17; have q173 : x5_1 < (l0.length : Int) := of_decide_eq_true ax17; obtain ⟨ad173, e173, hx173_0⟩ := Kd.at_string HR0.out x5_1 p173 q173; obtain rfl : ad171 = ad173 := (by injection e173); replace hx173_0 := (HB.out.cell (World.block_lt_of_cell? w _ hx173_0)).trans hx173_0; replace p173 := eq_true p173; replace q173 := eq_true q173; obtain ⟨Ao9, co9, eo9⟩ := Kd.V_slice HO_4.out; subst eo9) | ((with_reducible refine gate_callee (f := 32) rfl ?_); refine goesL_ (some 25) rfl rfl Tryz.func32 (by kernel_rfl) rfl #[.slice Ao9 x4_1.length co9, .string (rdOf ByteArray.empty l0 x5_1)] rfl ax12 ?_; (with_reducible refine (spec_l2Put.calls k1 (fun k_ => (w.heap.size ≤ k_)) _ _ x4_1 (rdOf ByteArray.empty l0 x5_1) t174 _ ?side1 A8.out).mono ?_); (case side1 => exact HO_4.out); rintro e w10 ⟨v175, rfl, ho0, hb⟩; refine ⟨_, rfl, ?_⟩; have n0_ := Aside0.mk (Kd.V_below ax48 hb); have n1_ := Aside0.mk (Kd.V_lower (Kd.V_mono (ok' := fun k_ => (w.heap.size ≤ k_)) ho0 (fun k_ hk_ => Or.elim hk_ (fun hs_ => hs_) (fun hn_ => (Nat.le_trans (below_size ax9) hn_)))) (below_size ax9)); have n2_ := Aside0.mk (below_step ax9 hb); clear HO_4; clear HB; have HO_4 := n0_; have HO176 := n1_; have HB := n2_; clear n0_ n1_ n2_; (try clear hb); (try clear hb2); (try clear hk); (try clear hi); (try clear ho0)))
      go_roundg k1
      case measure => have := HK1.out; omega
      case rel => exact ⟨(t174), (wrap64 (x5_1 + 1)), ax15, H', ⟨by have := HK1.out; omega⟩, ⟨(by (with_reducible repeat (first | apply Kd.V_alloc | apply Kd.V_drewN | apply Kd.V_drew)); exact HO176.out)⟩, ⟨ax9⟩⟩
     ·replace c7 := Bool.eq_false_iff.mpr c7
      subst c7
      rw [if_neg (show ¬ (false = true) by decide)] at H
      obtain ⟨y177, hy177⟩ : ∃ y_ : List ByteArray, y_ = (([] : List ByteArray)) := ⟨_, rfl⟩
      replace H : (some (y177, false)) = some (r1, r2) := by first | (rw [hy177]; with_reducible exact H) | (have H2_ := (Option.bind_some _ _).symm.trans H; rw [hy177]; with_reducible exact H2_) | (have H2_ := (Option.bind_some _ _).symm.trans H; with_reducible exact H2_) | with_reducible exact H | (rw [hy177]; exact H) | exact H
      have Ny177 := Aside0.mk hy177; clear hy177
      simp only [Option.some.injEq, Prod.mk.injEq] at H
      obtain ⟨rfl, rfl⟩ := H
      have p171 : 0 ≤ (x5_1 : Int) := of_decide_eq_true ax17
      have q171 : x5_1 < (l0.length : Int) := of_decide_eq_true ax17
      obtain ⟨ad171, e171, hx171_0⟩ := Kd.at_string HR0.out x5_1 p171 q171
      cases e171; replace hx171_0 := (HB.out.cell (World.block_lt_of_cell? w _ hx171_0)).trans hx171_0; replace p171 := eq_true p171; replace q171 := eq_true q171
      go_wp2_with (first | ((with_reducible refine gate_callee (f := 16) rfl ?_); refine goesL_ (some 17) rfl rfl Tryz.func16 (by kernel_rfl) rfl #[.string (rdOf ByteArray.empty l0 x5_1)] rfl ax12 ?_; (with_reducible refine (spec_l2Word.calls k1 (rdOf ByteArray.empty l0 x5_1) false _ A6.out).mono ?_); rintro e w' ⟨rfl, ⟨nd, rfl⟩⟩; refine ⟨_, rfl, ?_⟩) | ((with_reducible refine gate_dst (N := 19) rfl ?_); refine Kd.R_lit Kd.string _ 9 ?hg (N := 19) ?hd (xs := ([] : List ByteArray)) (inner := []) (ok := fun _ => True) (okp := fun _ => True) ?hr ?hp (fun _ hk => hk) trivial (Below.refl _ _) (Nat.le_refl _) (by simp) ?_; (case hd => rfl); (case hg => rfl); (case hr => exact ax8); (case hp => exact ax18); intro v178 w11 ho12 hb hg_ hnew_; clear hg_ hnew_; (first | rw [← Ny177.out] at ho12 | (simp only [Int.reduceToNat] at ho12; rw [← Ny177.out] at ho12)); have n0_ := Aside0.mk (Kd.V_elder' ax48 (Kd.R_base ho12) hb); have n1_ := Aside0.mk (Kd.R_lower (Kd.R_newM (M := fun k_ => (w.heap.size ≤ k_)) ho12 (below_size ax9) (fun k_ h_ => h_)) (below_size ax9)); have n2_ := Aside0.mk (below_step ax9 hb); clear HO_4; clear HB; have HO_4 := n0_; have HO179 := n1_; have HB := n2_; clear n0_ n1_ n2_; clear hb ho12))
      go_ret2
      exact ⟨_, by first | rfl | (simp [errW_none, errW_some] <;> rfl) | (simp [*, errW_none, errW_some] <;> rfl), Kd.R_V (by (with_reducible repeat (first | apply Kd.R_alloc | apply Kd.R_drewN | apply Kd.R_drew)); exact Kd.R_mono HO179.out (fun _ hk => hk.1)), by repeat (first | (with_reducible first | exact HB.out | apply below_alloc | apply pw_below_drewN | apply below_drew1) | exact HB.out)⟩
    ·exact ax2
   ·rw [if_neg c4] at H
    have c4b0 : decide (x5_1 < (l0.length : Int)) = false := decide_eq_false c4
    clear c4
    simp only [Option.some.injEq, Prod.mk.injEq] at H
    obtain ⟨rfl, rfl⟩ := H
    obtain ⟨Ao13, co13, eo13⟩ := Kd.V_slice HO_4.out
    subst eo13
    go_wp2
    go_ret2
    exact ⟨_, by first | rfl | (simp [errW_none, errW_some] <;> rfl) | (simp [*, errW_none, errW_some] <;> rfl), by (with_reducible repeat (first | apply Kd.V_alloc | apply Kd.V_drewN | apply Kd.V_drew)); exact HO_4.out, by repeat (first | (with_reducible first | exact HB.out | apply below_alloc | apply pw_below_drewN | apply below_drew1) | exact HB.out)⟩

/-! ### spec_l2Has: function 29 -/
def spec_l2Has.l0 : Nat → List ByteArray → ByteArray → Int → Option (Bool)
 | 0, _, _, _ => none
 | k + 1, x0, x1, x5 => if x5 < (x0.length : Int) then (if 0 ≤ x5 then (if (rdOf ByteArray.empty x0 x5).toList = x1.toList then (some true) else (spec_l2Has.l0 k x0 x1 (wrap64 (x5 + 1)))) else (none)) else (some false)
def spec_l2Has.f (k : Nat) (l0 : List ByteArray) (a1 : ByteArray) : Option (Bool) := spec_l2Has.l0 k l0 a1 0
theorem spec_l2Has.mono_l : ∀ k, (∀ y0 y1 y2, LeO (spec_l2Has.l0 k y0 y1 y2) (spec_l2Has.l0 (k + 1) y0 y1 y2))
 | 0 => fun _ _ _ r h => by simp [spec_l2Has.l0] at h
 | k + 1 => by
  have ih0 := spec_l2Has.mono_l k
  ·intro y0 y1 y2
   unfold spec_l2Has.l0
   repeat' first | (with_reducible first | exact ih0 .. | exact LeO.refl _ | exact LeO.none _ | refine LeO.ite ?_ ?_ | refine LeO.bind ?_ (fun _ => ?_)) | exact ih0 .. | exact LeO.none _ | refine LeO.ite ?_ ?_ | refine LeO.bind ?_ (fun _ => ?_)
theorem spec_l2Has.mono : ∀ a0 a1 k, LeO (spec_l2Has.f k a0 a1) (spec_l2Has.f (k + 1) a0 a1) := by
 intro a0 a1 k
 have ih0 := spec_l2Has.mono_l k
 unfold spec_l2Has.f
 repeat' first | (with_reducible first | exact ih0 .. | exact LeO.refl _ | exact LeO.none _ | refine LeO.ite ?_ ?_ | refine LeO.bind ?_ (fun _ => ?_)) | exact ih0 .. | exact LeO.none _ | refine LeO.ite ?_ ?_ | refine LeO.bind ?_ (fun _ => ?_)
set_option maxHeartbeats 8000000 in
set_option maxRecDepth 100000 in
theorem spec_l2Has.calls (k : Nat) (A0 : Option Addr) (c0 : Nat) (l0 : List ByteArray) (a1 : ByteArray) (r : Bool) (w : World) (hr0 : Kd.C Kd.string w A0 l0.length l0) (hc0 : l0.length ≤ c0) (h : spec_l2Has.f k l0 a1 = some r) :
  Calls Tryz.prog 29 #[.slice A0 l0.length c0, .string a1] w fun e w' => e = .returned (.bool r) ∧ Drawn0 w w' := by
 have HR0 := Aside0.mk hr0; have HC0 := Aside0.mk hc0; clear hr0 hc0
 have H : (spec_l2Has.l0 k l0 a1 0) = some r := h
 clear h
 have H' := Aside0.mk H
 clear H
 go_enter Tryz.func29, Tryz.ntmps29
 go_wp2
 go_loopg [5] k (fun kq v5 w' => ∃ (x5_1 : Int), v5 = .int .i64 x5_1 ∧ Aside0 (spec_l2Has.l0 kq l0 a1 x5_1 = some r) ∧ Aside0 (kq ≤ k) ∧ Drawn0 w w')
 case atStart => exact ⟨(0), ax15, H', ⟨Nat.le_refl _⟩, by repeat (first | exact Drawn0.refl _ | apply Drawn0.step)⟩
 case round =>
  clear H'
  try clear c2
  try clear p2
  obtain ⟨x5_1, rfl, HA, HK1, ⟨m1, rfl⟩⟩ := hrel
  cases gk with
  | zero => exact absurd HA.out (by simp [spec_l2Has.l0])
  | succ k1 =>
   have H := HA.out; clear HA
   simp only [spec_l2Has.l0] at H
   by_cases c3 : x5_1 < (l0.length : Int)
   ·rw [if_pos c3] at H
    have c3b0 : decide (x5_1 < (l0.length : Int)) = true := decide_eq_true c3
    clear c3
    by_cases c4 : 0 ≤ x5_1
    ·rw [if_pos c4] at H
     have c4b0 : decide (0 ≤ x5_1) = true := decide_eq_true c4
     clear c4
     by_cases c5 : (rdOf ByteArray.empty l0 x5_1).toList = a1.toList
     ·rw [if_pos c5] at H
      have c5b0 : ((rdOf ByteArray.empty l0 x5_1).toList == a1.toList) = true := beq_iff_eq.mpr c5
      have c5b1 : ((rdOf ByteArray.empty l0 x5_1).toList != a1.toList) = false := bne_eq_false_iff_eq.mpr c5
      clear c5
      obtain rfl := Option.some.inj H
      have p180 : 0 ≤ (x5_1 : Int) := of_decide_eq_true ax17
      have q180 : x5_1 < (l0.length : Int) := of_decide_eq_true ax17
      obtain ⟨ad180, e180, hx180_0⟩ := Kd.at_string HR0.out x5_1 p180 q180
      cases e180; replace p180 := eq_true p180; replace q180 := eq_true q180
      go_wp2
      go_ret
      exact ⟨ax15, by repeat (first | exact Drawn0.refl _ | apply Drawn0.step)⟩
     ·rw [if_neg c5] at H
      have c5b0 : ((rdOf ByteArray.empty l0 x5_1).toList == a1.toList) = false := beq_eq_false_iff_ne.mpr c5
      have c5b1 : ((rdOf ByteArray.empty l0 x5_1).toList != a1.toList) = true := bne_iff_ne.mpr c5
      have H' := Aside0.mk H
      clear H
      have p180 : 0 ≤ (x5_1 : Int) := of_decide_eq_true ax17
      have q180 : x5_1 < (l0.length : Int) := of_decide_eq_true ax17
      obtain ⟨ad180, e180, hx180_0⟩ := Kd.at_string HR0.out x5_1 p180 q180
      cases e180; replace p180 := eq_true p180; replace q180 := eq_true q180
      go_wp2
      go_roundg k1
      case measure => have := HK1.out; omega
      case rel => exact ⟨(wrap64 (x5_1 + 1)), ax15, H', ⟨by have := HK1.out; omega⟩, by repeat (first | exact Drawn0.refl _ | apply Drawn0.step)⟩
    ·exact ax7
   ·rw [if_neg c3] at H
    have c3b0 : decide (x5_1 < (l0.length : Int)) = false := decide_eq_false c3
    clear c3
    obtain rfl := Option.some.inj H
    go_wp2
    go_ret
    exact ⟨ax15, by repeat (first | exact Drawn0.refl _ | apply Drawn0.step)⟩

/-! ### spec_l12Joined: function 30 -/
def spec_l12Joined.l0 : Nat → List ByteArray → ByteArray → Int → Option (ByteArray)
 | 0, _, _, _ => none
 | k + 1, x0, x3, x4 => if x4 < (x0.length : Int) then (if x4 > 0 then (if x3.size + 1 ≤ 9223372036854775807 then (if 0 ≤ x4 then (if (x3 ++ (⟨#[32]⟩ : ByteArray)).size + (rdOf ByteArray.empty x0 x4).size ≤ 9223372036854775807 then (spec_l12Joined.l0 k x0 ((x3 ++ (⟨#[32]⟩ : ByteArray)) ++ (rdOf ByteArray.empty x0 x4)) (wrap64 (x4 + 1))) else (none)) else (none)) else (none)) else (if 0 ≤ x4 then (if x3.size + (rdOf ByteArray.empty x0 x4).size ≤ 9223372036854775807 then (spec_l12Joined.l0 k x0 (x3 ++ (rdOf ByteArray.empty x0 x4)) (wrap64 (x4 + 1))) else (none)) else (none))) else (some x3)
def spec_l12Joined.f (k : Nat) (l0 : List ByteArray) : Option (ByteArray) := spec_l12Joined.l0 k l0 (⟨#[]⟩ : ByteArray) 0
theorem spec_l12Joined.mono_l : ∀ k, (∀ y0 y1 y2, LeO (spec_l12Joined.l0 k y0 y1 y2) (spec_l12Joined.l0 (k + 1) y0 y1 y2))
 | 0 => fun _ _ _ r h => by simp [spec_l12Joined.l0] at h
 | k + 1 => by
  have ih0 := spec_l12Joined.mono_l k
  ·intro y0 y1 y2
   unfold spec_l12Joined.l0
   repeat' first | (with_reducible first | exact ih0 .. | exact LeO.refl _ | exact LeO.none _ | refine LeO.ite ?_ ?_ | refine LeO.bind ?_ (fun _ => ?_)) | exact ih0 .. | exact LeO.none _ | refine LeO.ite ?_ ?_ | refine LeO.bind ?_ (fun _ => ?_)
theorem spec_l12Joined.mono : ∀ a0 k, LeO (spec_l12Joined.f k a0) (spec_l12Joined.f (k + 1) a0) := by
 intro a0 k
 have ih0 := spec_l12Joined.mono_l k
 unfold spec_l12Joined.f
 repeat' first | (with_reducible first | exact ih0 .. | exact LeO.refl _ | exact LeO.none _ | refine LeO.ite ?_ ?_ | refine LeO.bind ?_ (fun _ => ?_)) | exact ih0 .. | exact LeO.none _ | refine LeO.ite ?_ ?_ | refine LeO.bind ?_ (fun _ => ?_)
set_option maxHeartbeats 8000000 in
set_option maxRecDepth 100000 in
theorem spec_l12Joined.calls (k : Nat) (A0 : Option Addr) (c0 : Nat) (l0 : List ByteArray) (r : ByteArray) (w : World) (hr0 : Kd.C Kd.string w A0 l0.length l0) (hc0 : l0.length ≤ c0) (h : spec_l12Joined.f k l0 = some r) :
  Calls Tryz.prog 30 #[.slice A0 l0.length c0] w fun e w' => e = .returned (.string r) ∧ Drawn0 w w' := by
 have HR0 := Aside0.mk hr0; have HC0 := Aside0.mk hc0; clear hr0 hc0
 have H : (spec_l12Joined.l0 k l0 (⟨#[]⟩ : ByteArray) 0) = some r := h
 clear h
 have H' := Aside0.mk H
 clear H
 go_enter Tryz.func30, Tryz.ntmps30
 go_wp2
 go_loopg [3, 4] k (fun kq v3 v4 w' => ∃ (x3_1 : ByteArray) (x4_1 : Int), v3 = .string x3_1 ∧ v4 = .int .i64 x4_1 ∧ Aside0 (spec_l12Joined.l0 kq l0 x3_1 x4_1 = some r) ∧ Aside0 (kq ≤ k) ∧ Drawn0 w w')
 case atStart => exact ⟨((⟨#[]⟩ : ByteArray)), (0), ax15, ax15, H', ⟨Nat.le_refl _⟩, by repeat (first | exact Drawn0.refl _ | apply Drawn0.step)⟩
 case round =>
  clear H'
  obtain ⟨x3_1, x4_1, rfl, rfl, HA, HK1, ⟨m1, rfl⟩⟩ := hrel
  cases gk with
  | zero => exact absurd HA.out (by simp [spec_l12Joined.l0])
  | succ k1 =>
   have H := HA.out; clear HA
   simp only [spec_l12Joined.l0] at H
   by_cases c2 : x4_1 < (l0.length : Int)
   ·rw [if_pos c2] at H
    have c2b0 : decide (x4_1 < (l0.length : Int)) = true := decide_eq_true c2
    clear c2
    by_cases c3 : x4_1 > 0
    ·rw [if_pos c3] at H
     have c3b0 : decide (0 < x4_1) = true := decide_eq_true c3
     clear c3
     by_cases c4 : x3_1.size + 1 ≤ 9223372036854775807
     ·rw [if_pos c4] at H
      have c4b0 := eq_true c4
      have c4b1 : decide (x3_1.size + 1 ≤ 9223372036854775807) = true := decide_eq_true c4
      try have c4b2 : (9223372036854775807 < x3_1.size + 1) = False := eq_false (Nat.not_lt.2 c4)
      clear c4
      obtain ⟨js5, hjs5⟩ : ∃ j_ : ByteArray, (x3_1 ++ (⟨#[32]⟩ : ByteArray)) = j_ := ⟨_, rfl⟩
      replace H : (if 0 ≤ x4_1 then (if js5.size + (rdOf ByteArray.empty l0 x4_1).size ≤ 9223372036854775807 then (spec_l12Joined.l0 k1 l0 (js5 ++ (rdOf ByteArray.empty l0 x4_1)) (wrap64 (x4_1 + 1))) else (none)) else (none)) = some r := by first | (rw [hjs5] at H; exact H) | (simp only [hjs5] at H ⊢; exact H)
      by_cases c6 : 0 ≤ x4_1
      ·rw [if_pos c6] at H
       have c6b0 : decide (0 ≤ x4_1) = true := decide_eq_true c6
       clear c6
       by_cases c7 : js5.size + (rdOf ByteArray.empty l0 x4_1).size ≤ 9223372036854775807
       ·rw [if_pos c7] at H
        have c7b0 := eq_true c7
        have c7b1 : decide (js5.size + (rdOf ByteArray.empty l0 x4_1).size ≤ 9223372036854775807) = true := decide_eq_true c7
        try have c7b2 : (9223372036854775807 < js5.size + (rdOf ByteArray.empty l0 x4_1).size) = False := eq_false (Nat.not_lt.2 c7)
        clear c7
        obtain ⟨js8, hjs8⟩ : ∃ j_ : ByteArray, (js5 ++ (rdOf ByteArray.empty l0 x4_1)) = j_ := ⟨_, rfl⟩
        replace H : (spec_l12Joined.l0 k1 l0 js8 (wrap64 (x4_1 + 1))) = some r := by first | (rw [hjs8] at H; exact H) | (simp only [hjs8] at H ⊢; exact H)
        have H' := Aside0.mk H
        clear H
        have p181 : 0 ≤ (x4_1 : Int) := of_decide_eq_true ax17
        have q181 : x4_1 < (l0.length : Int) := of_decide_eq_true ax17
        obtain ⟨ad181, e181, hx181_0⟩ := Kd.at_string HR0.out x4_1 p181 q181
        cases e181; replace p181 := eq_true p181; replace q181 := eq_true q181
        go_wp2
        go_roundg k1
        case measure => have := HK1.out; omega
        case rel => exact ⟨(js8), (wrap64 (x4_1 + 1)), (by first | rfl | (simp; done) | (simp only [← hjs8] <;> (first | rfl | simp)) | (simp [*]; done)), ax15, H', ⟨by have := HK1.out; omega⟩, by repeat (first | exact Drawn0.refl _ | apply Drawn0.step)⟩
       ·exact ax6
      ·exact ax1
     ·exact ax7
    ·rw [if_neg c3] at H
     have c3b0 : decide (0 < x4_1) = false := decide_eq_false c3
     clear c3
     by_cases c9 : 0 ≤ x4_1
     ·rw [if_pos c9] at H
      have c9b0 : decide (0 ≤ x4_1) = true := decide_eq_true c9
      clear c9
      by_cases c10 : x3_1.size + (rdOf ByteArray.empty l0 x4_1).size ≤ 9223372036854775807
      ·rw [if_pos c10] at H
       have c10b0 := eq_true c10
       have c10b1 : decide (x3_1.size + (rdOf ByteArray.empty l0 x4_1).size ≤ 9223372036854775807) = true := decide_eq_true c10
       try have c10b2 : (9223372036854775807 < x3_1.size + (rdOf ByteArray.empty l0 x4_1).size) = False := eq_false (Nat.not_lt.2 c10)
       clear c10
       obtain ⟨js11, hjs11⟩ : ∃ j_ : ByteArray, (x3_1 ++ (rdOf ByteArray.empty l0 x4_1)) = j_ := ⟨_, rfl⟩
       replace H : (spec_l12Joined.l0 k1 l0 js11 (wrap64 (x4_1 + 1))) = some r := by first | (rw [hjs11] at H; exact H) | (simp only [hjs11] at H ⊢; exact H)
       have H' := Aside0.mk H
       clear H
       have p182 : 0 ≤ (x4_1 : Int) := of_decide_eq_true ax17
       have q182 : x4_1 < (l0.length : Int) := of_decide_eq_true ax17
       obtain ⟨ad182, e182, hx182_0⟩ := Kd.at_string HR0.out x4_1 p182 q182
       cases e182; replace p182 := eq_true p182; replace q182 := eq_true q182
       go_wp2
       go_roundg k1
       case measure => have := HK1.out; omega
       case rel => exact ⟨(js11), (wrap64 (x4_1 + 1)), (by first | rfl | (simp; done) | (simp only [← hjs11] <;> (first | rfl | simp)) | (simp [*]; done)), ax15, H', ⟨by have := HK1.out; omega⟩, by repeat (first | exact Drawn0.refl _ | apply Drawn0.step)⟩
      ·exact ax4
     ·exact ax5
   ·rw [if_neg c2] at H
    have c2b0 : decide (x4_1 < (l0.length : Int)) = false := decide_eq_false c2
    clear c2
    obtain rfl := Option.some.inj H
    go_wp2
    go_ret
    exact ⟨ax15, by repeat (first | exact Drawn0.refl _ | apply Drawn0.step)⟩

/-! ### spec_l12Words: function 18 -/
def spec_l12Words.f (k : Nat) (a0_0 : ByteArray) (a0_1 : ByteArray) (a0_2 : Int) : Option (List ByteArray × Bool) := if a0_0.toList = ([] : List UInt8) then (some ((([] : List ByteArray)), true)) else ((spec_l1Split.f k a0_0 32).bind fun t187 => ((spec_l2Set.f k t187).bind fun bt190 => (if bt190.2 = true then ((spec_l2Has.f k t187 (⟨#[]⟩ : ByteArray)).bind fun t194 => (if t194 = true then (some (bt190.1, false)) else ((spec_l12Joined.f k bt190.1).bind fun t195 => (some (bt190.1, (t195.toList == a0_0.toList)))))) else (some (bt190.1, false)))))
theorem spec_l12Words.mono : ∀ a0 a1 a2 k, LeO (spec_l12Words.f k a0 a1 a2) (spec_l12Words.f (k + 1) a0 a1 a2) := by
 intro a0 a1 a2 k
 unfold spec_l12Words.f
 repeat' first | (with_reducible first | exact spec_l12Joined.mono .. | exact spec_l1Split.mono .. | exact spec_l2Has.mono .. | exact spec_l2Set.mono .. | exact LeO.refl _ | exact LeO.none _ | refine LeO.ite ?_ ?_ | refine LeO.bind ?_ (fun _ => ?_)) | exact spec_l12Joined.mono .. | exact spec_l1Split.mono .. | exact spec_l2Has.mono .. | exact spec_l2Set.mono .. | exact LeO.none _ | refine LeO.ite ?_ ?_ | refine LeO.bind ?_ (fun _ => ?_)
set_option maxHeartbeats 8000000 in
set_option maxRecDepth 100000 in
theorem spec_l12Words.calls (k : Nat) (a0_0 : ByteArray) (a0_1 : ByteArray) (a0_2 : Int) (r1 : List ByteArray) (r2 : Bool) (w : World) (h : spec_l12Words.f k a0_0 a0_1 a0_2 = some (r1, r2)) :
  Calls Tryz.prog 18 #[.agg #[.string a0_0, .string a0_1, .int .i64 a0_2]] w fun e w' => ∃ v0_ : Value, e = .returned (.tuple #[v0_, .bool r2]) ∧ Kd.V Kd.string 9 w' w.heap.size (fun k_ => (w.heap.size ≤ k_)) v0_ r1 ∧ Below w.heap.size w w' := by
 have hu30 := Tryz.underlying30; have HB := Aside0.mk (Below.refl w.heap.size w)
 have H : (if a0_0.toList = ([] : List UInt8) then (some ((([] : List ByteArray)), true)) else ((spec_l1Split.f k a0_0 32).bind fun t187 => ((spec_l2Set.f k t187).bind fun bt190 => (if bt190.2 = true then ((spec_l2Has.f k t187 (⟨#[]⟩ : ByteArray)).bind fun t194 => (if t194 = true then (some (bt190.1, false)) else ((spec_l12Joined.f k bt190.1).bind fun t195 => (some (bt190.1, (t195.toList == a0_0.toList)))))) else (some (bt190.1, false)))))) = some (r1, r2) := h
 clear h
 by_cases c2 : a0_0.toList = ([] : List UInt8)
 ·rw [if_pos c2] at H
  have c2b0 : (a0_0.toList == ([] : List UInt8)) = true := beq_iff_eq.mpr c2
  have c2b1 : (a0_0.toList != ([] : List UInt8)) = false := bne_eq_false_iff_eq.mpr c2
  clear c2
  obtain ⟨y184, hy184⟩ : ∃ y_ : List ByteArray, y_ = (([] : List ByteArray)) := ⟨_, rfl⟩
  replace H : (some (y184, true)) = some (r1, r2) := by first | (rw [hy184]; with_reducible exact H) | (have H2_ := (Option.bind_some _ _).symm.trans H; rw [hy184]; with_reducible exact H2_) | (have H2_ := (Option.bind_some _ _).symm.trans H; with_reducible exact H2_) | with_reducible exact H | (rw [hy184]; exact H) | exact H
  have Ny184 := Aside0.mk hy184; clear hy184
  simp only [Option.some.injEq, Prod.mk.injEq] at H
  obtain ⟨rfl, rfl⟩ := H
  go_enter Tryz.func18, Tryz.ntmps18
  go_wp2_with (first | ((with_reducible refine gate_dst (N := 1) rfl ?_); refine box_event ?hg (N := 1) ?hd (cs := #[.string a0_0, .string a0_1, .int .i64 a0_2]) (t := 30) ?hr ?_; (case hd => rfl); (case hg => rfl); (case hr => exact ax8); intro gb183 hg w3 hbox hb; have n0_ := Aside0.mk (below_step ax9 hb); have n1_ := Aside0.mk (hbox); have n2_ := Aside0.mk ((ax10 : w.heap.size ≤ gb183)); have n3_ := Aside0.mk ((ax10 : w.heap.size ≤ gb183)); clear HB; have HB := n0_; have BK183 := n1_; have GW183 := n2_; have GE183 := n3_; clear n0_ n1_ n2_ n3_; clear hb hbox hg; have hcz4_0 : w3.cell? ⟨gb183, 0, none⟩ = some (.string a0_0) := (blk_cell BK183.out 0).trans rfl; have hcz4_1 : w3.cell? ⟨gb183, 1, none⟩ = some (.string a0_1) := (blk_cell BK183.out 1).trans rfl; have hcz4_2 : w3.cell? ⟨gb183, 2, none⟩ = some (.int .i64 a0_2) := (blk_cell BK183.out 2).trans rfl; have hfz4_0 := blk_frozen BK183.out 0; have hfz4_1 := blk_frozen BK183.out 1; have hfz4_2 := blk_frozen BK183.out 2) | ((with_reducible refine gate_dst (N := 10) rfl ?_); refine Kd.R_lit Kd.string _ 9 ?hg (N := 10) ?hd (xs := ([] : List ByteArray)) (inner := []) (ok := fun _ => True) (okp := fun _ => True) ?hr ?hp (fun _ hk => hk) trivial (Below.refl _ _) (Nat.le_refl _) (by simp) ?_; (case hd => rfl); (case hg => rfl); (case hr => exact ax8); (case hp => exact ax18); intro v185 w5 ho6 hb hg_ hnew_; clear hg_ hnew_; (first | rw [← Ny184.out] at ho6 | (simp only [Int.reduceToNat] at ho6; rw [← Ny184.out] at ho6)); have n0_ := Aside0.mk (Kd.R_lower (Kd.R_newM (M := fun k_ => (w.heap.size ≤ k_)) ho6 (below_size ax49) (fun k_ h_ => h_)) (below_size ax49)); have n1_ := Aside0.mk (blk_below (g := gb183) (o := .cells #[.string a0_0, .string a0_1, .int .i64 a0_2] 30 (0, 0)) ax50 hb); have n2_ := Aside0.mk (below_step ax49 hb); clear BK183; clear HB; have HO186 := n0_; have BK183 := n1_; have HB := n2_; clear n0_ n1_ n2_; clear hb ho6))
  repeat (go_quiet (first | ((with_reducible refine gate_dst (N := 1) rfl ?_); refine box_event ?hg (N := 1) ?hd (cs := #[.string a0_0, .string a0_1, .int .i64 a0_2]) (t := 30) ?hr ?_; (case hd => rfl); (case hg => rfl); (case hr => exact ax8); intro gb183 hg w3 hbox hb; have n0_ := Aside0.mk (below_step ax9 hb); have n1_ := Aside0.mk (hbox); have n2_ := Aside0.mk ((ax10 : w.heap.size ≤ gb183)); have n3_ := Aside0.mk ((ax10 : w.heap.size ≤ gb183)); clear HB; have HB := n0_; have BK183 := n1_; have GW183 := n2_; have GE183 := n3_; clear n0_ n1_ n2_ n3_; clear hb hbox hg; have hcz4_0 : w3.cell? ⟨gb183, 0, none⟩ = some (.string a0_0) := (blk_cell BK183.out 0).trans rfl; have hcz4_1 : w3.cell? ⟨gb183, 1, none⟩ = some (.string a0_1) := (blk_cell BK183.out 1).trans rfl; have hcz4_2 : w3.cell? ⟨gb183, 2, none⟩ = some (.int .i64 a0_2) := (blk_cell BK183.out 2).trans rfl; have hfz4_0 := blk_frozen BK183.out 0; have hfz4_1 := blk_frozen BK183.out 1; have hfz4_2 := blk_frozen BK183.out 2) | ((with_reducible refine gate_dst (N := 10) rfl ?_); refine Kd.R_lit Kd.string _ 9 ?hg (N := 10) ?hd (xs := ([] : List ByteArray)) (inner := []) (ok := fun _ => True) (okp := fun _ => True) ?hr ?hp (fun _ hk => hk) trivial (Below.refl _ _) (Nat.le_refl _) (by simp) ?_; (case hd => rfl); (case hg => rfl); (case hr => exact ax8); (case hp => exact ax18); intro v185 w5 ho6 hb hg_ hnew_; clear hg_ hnew_; (first | rw [← Ny184.out] at ho6 | (simp only [Int.reduceToNat] at ho6; rw [← Ny184.out] at ho6)); have n0_ := Aside0.mk (Kd.R_lower (Kd.R_newM (M := fun k_ => (w.heap.size ≤ k_)) ho6 (below_size ax49) (fun k_ h_ => h_)) (below_size ax49)); have n1_ := Aside0.mk (blk_below (g := gb183) (o := .cells #[.string a0_0, .string a0_1, .int .i64 a0_2] 30 (0, 0)) ax50 hb); have n2_ := Aside0.mk (below_step ax49 hb); clear BK183; clear HB; have HO186 := n0_; have BK183 := n1_; have HB := n2_; clear n0_ n1_ n2_; clear hb ho6)); try go_wp2_with (first | ((with_reducible refine gate_dst (N := 1) rfl ?_); refine box_event ?hg (N := 1) ?hd (cs := #[.string a0_0, .string a0_1, .int .i64 a0_2]) (t := 30) ?hr ?_; (case hd => rfl); (case hg => rfl); (case hr => exact ax8); intro gb183 hg w3 hbox hb; have n0_ := Aside0.mk (below_step ax9 hb); have n1_ := Aside0.mk (hbox); have n2_ := Aside0.mk ((ax10 : w.heap.size ≤ gb183)); have n3_ := Aside0.mk ((ax10 : w.heap.size ≤ gb183)); clear HB; have HB := n0_; have BK183 := n1_; have GW183 := n2_; have GE183 := n3_; clear n0_ n1_ n2_ n3_; clear hb hbox hg; have hcz4_0 : w3.cell? ⟨gb183, 0, none⟩ = some (.string a0_0) := (blk_cell BK183.out 0).trans rfl; have hcz4_1 : w3.cell? ⟨gb183, 1, none⟩ = some (.string a0_1) := (blk_cell BK183.out 1).trans rfl; have hcz4_2 : w3.cell? ⟨gb183, 2, none⟩ = some (.int .i64 a0_2) := (blk_cell BK183.out 2).trans rfl; have hfz4_0 := blk_frozen BK183.out 0; have hfz4_1 := blk_frozen BK183.out 1; have hfz4_2 := blk_frozen BK183.out 2) | ((with_reducible refine gate_dst (N := 10) rfl ?_); refine Kd.R_lit Kd.string _ 9 ?hg (N := 10) ?hd (xs := ([] : List ByteArray)) (inner := []) (ok := fun _ => True) (okp := fun _ => True) ?hr ?hp (fun _ hk => hk) trivial (Below.refl _ _) (Nat.le_refl _) (by simp) ?_; (case hd => rfl); (case hg => rfl); (case hr => exact ax8); (case hp => exact ax18); intro v185 w5 ho6 hb hg_ hnew_; clear hg_ hnew_; (first | rw [← Ny184.out] at ho6 | (simp only [Int.reduceToNat] at ho6; rw [← Ny184.out] at ho6)); have n0_ := Aside0.mk (Kd.R_lower (Kd.R_newM (M := fun k_ => (w.heap.size ≤ k_)) ho6 (below_size ax49) (fun k_ h_ => h_)) (below_size ax49)); have n1_ := Aside0.mk (blk_below (g := gb183) (o := .cells #[.string a0_0, .string a0_1, .int .i64 a0_2] 30 (0, 0)) ax50 hb); have n2_ := Aside0.mk (below_step ax49 hb); clear BK183; clear HB; have HO186 := n0_; have BK183 := n1_; have HB := n2_; clear n0_ n1_ n2_; clear hb ho6)))
  go_ret2
  exact ⟨_, by first | rfl | (simp [errW_none, errW_some] <;> rfl) | (simp [*, errW_none, errW_some] <;> rfl), Kd.R_V (by (with_reducible repeat (first | apply Kd.R_alloc | apply Kd.R_drewN | apply Kd.R_drew)); exact Kd.R_mono HO186.out (fun _ hk => hk.1)), by repeat (first | (with_reducible first | exact HB.out | apply below_alloc | apply pw_below_drewN | apply below_drew1 | refine below_set ?_ GE183.out) | exact HB.out)⟩
 ·rw [if_neg c2] at H
  have c2b0 : (a0_0.toList == ([] : List UInt8)) = false := beq_eq_false_iff_ne.mpr c2
  have c2b1 : (a0_0.toList != ([] : List UInt8)) = true := bne_iff_ne.mpr c2
  obtain ⟨t187, A7, H⟩ := bs H
  obtain ⟨⟨t190, t193⟩, A8, H⟩ := bs H
  by_cases c9 : t193 = true
  ·subst c9
   rw [if_pos rfl] at H
   obtain ⟨t194, A10, H⟩ := bs H
   by_cases c11 : t194 = true
   ·subst c11
    rw [if_pos rfl] at H
    simp only [Option.some.injEq, Prod.mk.injEq] at H
    obtain ⟨rfl, rfl⟩ := H
    go_enter Tryz.func18, Tryz.ntmps18
    go_wp2_with (first | ((with_reducible refine gate_dst (N := 1) rfl ?_); refine box_event ?hg (N := 1) ?hd (cs := #[.string a0_0, .string a0_1, .int .i64 a0_2]) (t := 30) ?hr ?_; (case hd => rfl); (case hg => rfl); (case hr => exact ax8); intro gb183 hg w12 hbox hb; have n0_ := Aside0.mk (below_step ax9 hb); have n1_ := Aside0.mk (hbox); have n2_ := Aside0.mk ((ax10 : w.heap.size ≤ gb183)); have n3_ := Aside0.mk ((ax10 : w.heap.size ≤ gb183)); clear HB; have HB := n0_; have BK183 := n1_; have GW183 := n2_; have GE183 := n3_; clear n0_ n1_ n2_ n3_; clear hb hbox hg; have hcz13_0 : w12.cell? ⟨gb183, 0, none⟩ = some (.string a0_0) := (blk_cell BK183.out 0).trans rfl; have hcz13_1 : w12.cell? ⟨gb183, 1, none⟩ = some (.string a0_1) := (blk_cell BK183.out 1).trans rfl; have hcz13_2 : w12.cell? ⟨gb183, 2, none⟩ = some (.int .i64 a0_2) := (blk_cell BK183.out 2).trans rfl; have hfz13_0 := blk_frozen BK183.out 0; have hfz13_1 := blk_frozen BK183.out 1; have hfz13_2 := blk_frozen BK183.out 2) | (go_at_call 27; (with_reducible refine (spec_l1Split.calls k a0_0 32 t187 _ A7.out).mono ?_); rintro e w14 ⟨v188, rfl, ho0, hb⟩; have n0_ := Aside0.mk (Kd.R_lower (Kd.R_newM (M := fun k_ => (w.heap.size ≤ k_)) ho0 (below_size ax49) (fun k_ h_ => h_)) (below_size ax49)); have n1_ := Aside0.mk (blk_below (g := gb183) (o := .cells #[.string a0_0, .string a0_1, .int .i64 a0_2] 30 (0, 0)) ax50 hb); have n2_ := Aside0.mk (below_step ax49 hb); clear BK183; clear HB; have HO189 := n0_; have BK183 := n1_; have HB := n2_; clear n0_ n1_ n2_; (try clear hb); (try clear hb2); (try clear hk); (try clear hi); (try clear ho0); obtain ⟨Ao15, co15, eo15⟩ := Kd.R_slice HO189.out; subst eo15) | (go_at_call 28; (with_reducible refine (spec_l2Set.calls k _ _ t187 t190 true _ ?side1 ?side2 A8.out).mono ?_); (case side1 => exact ax51); (case side2 => exact ax52); rintro e w16 ⟨v191, rfl, ho0, hb⟩; have n0_ := Aside0.mk (Kd.R_below ax53 hb); have n1_ := Aside0.mk (Kd.V_lower (Kd.V_mono (ok' := fun k_ => (w.heap.size ≤ k_) ∧ some k_ ≠ (.slice Ao15 t187.length co15 : Value).ownBlock ∧ k_ ≠ gb183) ho0 (fun k_ hk_ => ⟨(Nat.le_trans (below_size ax49) hk_), (Kd.fresh' (Kd.R_lt ax53) k_ hk_), (Kd.freshB (g := gb183) (o := .cells #[.string a0_0, .string a0_1, .int .i64 a0_2] 30 (0, 0)) ax50 k_ hk_)⟩)) (below_size ax49)); have n2_ := Aside0.mk (blk_below (g := gb183) (o := .cells #[.string a0_0, .string a0_1, .int .i64 a0_2] 30 (0, 0)) ax50 hb); have n3_ := Aside0.mk (below_step ax49 hb); clear HO189; clear BK183; clear HB; have HO189 := n0_; have HO192 := n1_; have BK183 := n2_; have HB := n3_; clear n0_ n1_ n2_ n3_; (try clear hb); (try clear hb2); (try clear hk); (try clear hi); (try clear ho0)) | (go_at_call 29; (with_reducible refine (spec_l2Has.calls k _ _ t187 (⟨#[]⟩ : ByteArray) true _ ?side1 ?side2 A10.out).mono ?_); (case side1 => exact ax51); (case side2 => exact ax52); rintro e w' ⟨rfl, ⟨nd, rfl⟩⟩; (try first | exact ⟨rfl, _, World.drewN_drewN _ _ _⟩ | exact ⟨rfl, _, Eq.trans (World.drewN_drewN _ _ _) (congrArg (World.drewN _) (Nat.add_assoc _ _ _))⟩)))
    repeat (go_quiet (first | ((with_reducible refine gate_dst (N := 1) rfl ?_); refine box_event ?hg (N := 1) ?hd (cs := #[.string a0_0, .string a0_1, .int .i64 a0_2]) (t := 30) ?hr ?_; (case hd => rfl); (case hg => rfl); (case hr => exact ax8); intro gb183 hg w12 hbox hb; have n0_ := Aside0.mk (below_step ax9 hb); have n1_ := Aside0.mk (hbox); have n2_ := Aside0.mk ((ax10 : w.heap.size ≤ gb183)); have n3_ := Aside0.mk ((ax10 : w.heap.size ≤ gb183)); clear HB; have HB := n0_; have BK183 := n1_; have GW183 := n2_; have GE183 := n3_; clear n0_ n1_ n2_ n3_; clear hb hbox hg; have hcz13_0 : w12.cell? ⟨gb183, 0, none⟩ = some (.string a0_0) := (blk_cell BK183.out 0).trans rfl; have hcz13_1 : w12.cell? ⟨gb183, 1, none⟩ = some (.string a0_1) := (blk_cell BK183.out 1).trans rfl; have hcz13_2 : w12.cell? ⟨gb183, 2, none⟩ = some (.int .i64 a0_2) := (blk_cell BK183.out 2).trans rfl; have hfz13_0 := blk_frozen BK183.out 0; have hfz13_1 := blk_frozen BK183.out 1; have hfz13_2 := blk_frozen BK183.out 2) | (go_at_call 27; (with_reducible refine (spec_l1Split.calls k a0_0 32 t187 _ A7.out).mono ?_); rintro e w14 ⟨v188, rfl, ho0, hb⟩; have n0_ := Aside0.mk (Kd.R_lower (Kd.R_newM (M := fun k_ => (w.heap.size ≤ k_)) ho0 (below_size ax49) (fun k_ h_ => h_)) (below_size ax49)); have n1_ := Aside0.mk (blk_below (g := gb183) (o := .cells #[.string a0_0, .string a0_1, .int .i64 a0_2] 30 (0, 0)) ax50 hb); have n2_ := Aside0.mk (below_step ax49 hb); clear BK183; clear HB; have HO189 := n0_; have BK183 := n1_; have HB := n2_; clear n0_ n1_ n2_; (try clear hb); (try clear hb2); (try clear hk); (try clear hi); (try clear ho0); obtain ⟨Ao15, co15, eo15⟩ := Kd.R_slice HO189.out; subst eo15) | (go_at_call 28; (with_reducible refine (spec_l2Set.calls k _ _ t187 t190 true _ ?side1 ?side2 A8.out).mono ?_); (case side1 => exact ax51); (case side2 => exact ax52); rintro e w16 ⟨v191, rfl, ho0, hb⟩; have n0_ := Aside0.mk (Kd.R_below ax53 hb); have n1_ := Aside0.mk (Kd.V_lower (Kd.V_mono (ok' := fun k_ => (w.heap.size ≤ k_) ∧ some k_ ≠ (.slice Ao15 t187.length co15 : Value).ownBlock ∧ k_ ≠ gb183) ho0 (fun k_ hk_ => ⟨(Nat.le_trans (below_size ax49) hk_), (Kd.fresh' (Kd.R_lt ax53) k_ hk_), (Kd.freshB (g := gb183) (o := .cells #[.string a0_0, .string a0_1, .int .i64 a0_2] 30 (0, 0)) ax50 k_ hk_)⟩)) (below_size ax49)); have n2_ := Aside0.mk (blk_below (g := gb183) (o := .cells #[.string a0_0, .string a0_1, .int .i64 a0_2] 30 (0, 0)) ax50 hb); have n3_ := Aside0.mk (below_step ax49 hb); clear HO189; clear BK183; clear HB; have HO189 := n0_; have HO192 := n1_; have BK183 := n2_; have HB := n3_; clear n0_ n1_ n2_ n3_; (try clear hb); (try clear hb2); (try clear hk); (try clear hi); (try clear ho0)) | (go_at_call 29; (with_reducible refine (spec_l2Has.calls k _ _ t187 (⟨#[]⟩ : ByteArray) true _ ?side1 ?side2 A10.out).mono ?_); (case side1 => exact ax51); (case side2 => exact ax52); rintro e w' ⟨rfl, ⟨nd, rfl⟩⟩; (try first | exact ⟨rfl, _, World.drewN_drewN _ _ _⟩ | exact ⟨rfl, _, Eq.trans (World.drewN_drewN _ _ _) (congrArg (World.drewN _) (Nat.add_assoc _ _ _))⟩))); try go_wp2_with (first | ((with_reducible refine gate_dst (N := 1) rfl ?_); refine box_event ?hg (N := 1) ?hd (cs := #[.string a0_0, .string a0_1, .int .i64 a0_2]) (t := 30) ?hr ?_; (case hd => rfl); (case hg => rfl); (case hr => exact ax8); intro gb183 hg w12 hbox hb; have n0_ := Aside0.mk (below_step ax9 hb); have n1_ := Aside0.mk (hbox); have n2_ := Aside0.mk ((ax10 : w.heap.size ≤ gb183)); have n3_ := Aside0.mk ((ax10 : w.heap.size ≤ gb183)); clear HB; have HB := n0_; have BK183 := n1_; have GW183 := n2_; have GE183 := n3_; clear n0_ n1_ n2_ n3_; clear hb hbox hg; have hcz13_0 : w12.cell? ⟨gb183, 0, none⟩ = some (.string a0_0) := (blk_cell BK183.out 0).trans rfl; have hcz13_1 : w12.cell? ⟨gb183, 1, none⟩ = some (.string a0_1) := (blk_cell BK183.out 1).trans rfl; have hcz13_2 : w12.cell? ⟨gb183, 2, none⟩ = some (.int .i64 a0_2) := (blk_cell BK183.out 2).trans rfl; have hfz13_0 := blk_frozen BK183.out 0; have hfz13_1 := blk_frozen BK183.out 1; have hfz13_2 := blk_frozen BK183.out 2) | (go_at_call 27; (with_reducible refine (spec_l1Split.calls k a0_0 32 t187 _ A7.out).mono ?_); rintro e w14 ⟨v188, rfl, ho0, hb⟩; have n0_ := Aside0.mk (Kd.R_lower (Kd.R_newM (M := fun k_ => (w.heap.size ≤ k_)) ho0 (below_size ax49) (fun k_ h_ => h_)) (below_size ax49)); have n1_ := Aside0.mk (blk_below (g := gb183) (o := .cells #[.string a0_0, .string a0_1, .int .i64 a0_2] 30 (0, 0)) ax50 hb); have n2_ := Aside0.mk (below_step ax49 hb); clear BK183; clear HB; have HO189 := n0_; have BK183 := n1_; have HB := n2_; clear n0_ n1_ n2_; (try clear hb); (try clear hb2); (try clear hk); (try clear hi); (try clear ho0); obtain ⟨Ao15, co15, eo15⟩ := Kd.R_slice HO189.out; subst eo15) | (go_at_call 28; (with_reducible refine (spec_l2Set.calls k _ _ t187 t190 true _ ?side1 ?side2 A8.out).mono ?_); (case side1 => exact ax51); (case side2 => exact ax52); rintro e w16 ⟨v191, rfl, ho0, hb⟩; have n0_ := Aside0.mk (Kd.R_below ax53 hb); have n1_ := Aside0.mk (Kd.V_lower (Kd.V_mono (ok' := fun k_ => (w.heap.size ≤ k_) ∧ some k_ ≠ (.slice Ao15 t187.length co15 : Value).ownBlock ∧ k_ ≠ gb183) ho0 (fun k_ hk_ => ⟨(Nat.le_trans (below_size ax49) hk_), (Kd.fresh' (Kd.R_lt ax53) k_ hk_), (Kd.freshB (g := gb183) (o := .cells #[.string a0_0, .string a0_1, .int .i64 a0_2] 30 (0, 0)) ax50 k_ hk_)⟩)) (below_size ax49)); have n2_ := Aside0.mk (blk_below (g := gb183) (o := .cells #[.string a0_0, .string a0_1, .int .i64 a0_2] 30 (0, 0)) ax50 hb); have n3_ := Aside0.mk (below_step ax49 hb); clear HO189; clear BK183; clear HB; have HO189 := n0_; have HO192 := n1_; have BK183 := n2_; have HB := n3_; clear n0_ n1_ n2_ n3_; (try clear hb); (try clear hb2); (try clear hk); (try clear hi); (try clear ho0)) | (go_at_call 29; (with_reducible refine (spec_l2Has.calls k _ _ t187 (⟨#[]⟩ : ByteArray) true _ ?side1 ?side2 A10.out).mono ?_); (case side1 => exact ax51); (case side2 => exact ax52); rintro e w' ⟨rfl, ⟨nd, rfl⟩⟩; (try first | exact ⟨rfl, _, World.drewN_drewN _ _ _⟩ | exact ⟨rfl, _, Eq.trans (World.drewN_drewN _ _ _) (congrArg (World.drewN _) (Nat.add_assoc _ _ _))⟩))))
    go_ret2
    exact ⟨_, by first | rfl | (simp [errW_none, errW_some] <;> rfl) | (simp [*, errW_none, errW_some] <;> rfl), by (with_reducible repeat (first | apply Kd.V_alloc | apply Kd.V_drewN | apply Kd.V_drew)); exact Kd.V_mono HO192.out (fun _ hk => hk.1), by repeat (first | (with_reducible first | exact HB.out | apply below_alloc | apply pw_below_drewN | apply below_drew1 | refine below_set ?_ GE183.out) | exact HB.out)⟩
   ·replace c11 := Bool.eq_false_iff.mpr c11
    subst c11
    rw [if_neg (show ¬ (false = true) by decide)] at H
    obtain ⟨t195, A17, H⟩ := bs H
    simp only [Option.some.injEq, Prod.mk.injEq] at H
    obtain ⟨rfl, rfl⟩ := H
    go_enter Tryz.func18, Tryz.ntmps18
    go_wp2_with (first | ((with_reducible refine gate_dst (N := 1) rfl ?_); refine box_event ?hg (N := 1) ?hd (cs := #[.string a0_0, .string a0_1, .int .i64 a0_2]) (t := 30) ?hr ?_; (case hd => rfl); (case hg => rfl); (case hr => exact ax8); intro gb183 hg w18 hbox hb; have n0_ := Aside0.mk (below_step ax9 hb); have n1_ := Aside0.mk (hbox); have n2_ := Aside0.mk ((ax10 : w.heap.size ≤ gb183)); have n3_ := Aside0.mk ((ax10 : w.heap.size ≤ gb183)); clear HB; have HB := n0_; have BK183 := n1_; have GW183 := n2_; have GE183 := n3_; clear n0_ n1_ n2_ n3_; clear hb hbox hg; have hcz19_0 : w18.cell? ⟨gb183, 0, none⟩ = some (.string a0_0) := (blk_cell BK183.out 0).trans rfl; have hcz19_1 : w18.cell? ⟨gb183, 1, none⟩ = some (.string a0_1) := (blk_cell BK183.out 1).trans rfl; have hcz19_2 : w18.cell? ⟨gb183, 2, none⟩ = some (.int .i64 a0_2) := (blk_cell BK183.out 2).trans rfl; have hfz19_0 := blk_frozen BK183.out 0; have hfz19_1 := blk_frozen BK183.out 1; have hfz19_2 := blk_frozen BK183.out 2) | (go_at_call 27; (with_reducible refine (spec_l1Split.calls k a0_0 32 t187 _ A7.out).mono ?_); rintro e w20 ⟨v188, rfl, ho0, hb⟩; have n0_ := Aside0.mk (Kd.R_lower (Kd.R_newM (M := fun k_ => (w.heap.size ≤ k_)) ho0 (below_size ax49) (fun k_ h_ => h_)) (below_size ax49)); have n1_ := Aside0.mk (blk_below (g := gb183) (o := .cells #[.string a0_0, .string a0_1, .int .i64 a0_2] 30 (0, 0)) ax50 hb); have n2_ := Aside0.mk (below_step ax49 hb); clear BK183; clear HB; have HO189 := n0_; have BK183 := n1_; have HB := n2_; clear n0_ n1_ n2_; (try clear hb); (try clear hb2); (try clear hk); (try clear hi); (try clear ho0); obtain ⟨Ao21, co21, eo21⟩ := Kd.R_slice HO189.out; subst eo21) | (go_at_call 28; (with_reducible refine (spec_l2Set.calls k _ _ t187 t190 true _ ?side1 ?side2 A8.out).mono ?_); (case side1 => exact ax51); (case side2 => exact ax52); rintro e w22 ⟨v191, rfl, ho0, hb⟩; have n0_ := Aside0.mk (Kd.R_below ax53 hb); have n1_ := Aside0.mk (Kd.V_lower (Kd.V_mono (ok' := fun k_ => (w.heap.size ≤ k_) ∧ some k_ ≠ (.slice Ao21 t187.length co21 : Value).ownBlock ∧ k_ ≠ gb183) ho0 (fun k_ hk_ => ⟨(Nat.le_trans (below_size ax49) hk_), (Kd.fresh' (Kd.R_lt ax53) k_ hk_), (Kd.freshB (g := gb183) (o := .cells #[.string a0_0, .string a0_1, .int .i64 a0_2] 30 (0, 0)) ax50 k_ hk_)⟩)) (below_size ax49)); have n2_ := Aside0.mk (blk_below (g := gb183) (o := .cells #[.string a0_0, .string a0_1, .int .i64 a0_2] 30 (0, 0)) ax50 hb); have n3_ := Aside0.mk (below_step ax49 hb); clear HO189; clear BK183; clear HB; have HO189 := n0_; have HO192 := n1_; have BK183 := n2_; have HB := n3_; clear n0_ n1_ n2_ n3_; (try clear hb); (try clear hb2); (try clear hk); (try clear hi); (try clear ho0)) | (go_at_call 29; (with_reducible refine (spec_l2Has.calls k _ _ t187 (⟨#[]⟩ : ByteArray) false _ ?side1 ?side2 A10.out).mono ?_); (case side1 => exact ax51); (case side2 => exact ax52); rintro e w' ⟨rfl, ⟨nd, rfl⟩⟩; (try first | exact ⟨rfl, _, World.drewN_drewN _ _ _⟩ | exact ⟨rfl, _, Eq.trans (World.drewN_drewN _ _ _) (congrArg (World.drewN _) (Nat.add_assoc _ _ _))⟩); obtain ⟨Ao23, co23, eo23⟩ := Kd.V_slice HO192.out; subst eo23) | (go_at_call 30; (with_reducible refine (spec_l12Joined.calls k _ _ t190 t195 _ ?side1 ?side2 A17.out).mono ?_); (case side1 => exact ax54); (case side2 => exact (Kd.V_reads' HO192.out).2.1); rintro e w' ⟨rfl, ⟨nd, rfl⟩⟩; (try first | exact ⟨rfl, _, World.drewN_drewN _ _ _⟩ | exact ⟨rfl, _, Eq.trans (World.drewN_drewN _ _ _) (congrArg (World.drewN _) (Nat.add_assoc _ _ _))⟩); have hcz24_0 : w22.cell? ⟨gb183, 0, none⟩ = some (.string a0_0) := (blk_cell BK183.out 0).trans rfl; have hcz24_1 : w22.cell? ⟨gb183, 1, none⟩ = some (.string a0_1) := (blk_cell BK183.out 1).trans rfl; have hcz24_2 : w22.cell? ⟨gb183, 2, none⟩ = some (.int .i64 a0_2) := (blk_cell BK183.out 2).trans rfl; have hfz24_0 := blk_frozen BK183.out 0; have hfz24_1 := blk_frozen BK183.out 1; have hfz24_2 := blk_frozen BK183.out 2))
    repeat (go_quiet (first | ((with_reducible refine gate_dst (N := 1) rfl ?_); refine box_event ?hg (N := 1) ?hd (cs := #[.string a0_0, .string a0_1, .int .i64 a0_2]) (t := 30) ?hr ?_; (case hd => rfl); (case hg => rfl); (case hr => exact ax8); intro gb183 hg w18 hbox hb; have n0_ := Aside0.mk (below_step ax9 hb); have n1_ := Aside0.mk (hbox); have n2_ := Aside0.mk ((ax10 : w.heap.size ≤ gb183)); have n3_ := Aside0.mk ((ax10 : w.heap.size ≤ gb183)); clear HB; have HB := n0_; have BK183 := n1_; have GW183 := n2_; have GE183 := n3_; clear n0_ n1_ n2_ n3_; clear hb hbox hg; have hcz19_0 : w18.cell? ⟨gb183, 0, none⟩ = some (.string a0_0) := (blk_cell BK183.out 0).trans rfl; have hcz19_1 : w18.cell? ⟨gb183, 1, none⟩ = some (.string a0_1) := (blk_cell BK183.out 1).trans rfl; have hcz19_2 : w18.cell? ⟨gb183, 2, none⟩ = some (.int .i64 a0_2) := (blk_cell BK183.out 2).trans rfl; have hfz19_0 := blk_frozen BK183.out 0; have hfz19_1 := blk_frozen BK183.out 1; have hfz19_2 := blk_frozen BK183.out 2) | (go_at_call 27; (with_reducible refine (spec_l1Split.calls k a0_0 32 t187 _ A7.out).mono ?_); rintro e w20 ⟨v188, rfl, ho0, hb⟩; have n0_ := Aside0.mk (Kd.R_lower (Kd.R_newM (M := fun k_ => (w.heap.size ≤ k_)) ho0 (below_size ax49) (fun k_ h_ => h_)) (below_size ax49)); have n1_ := Aside0.mk (blk_below (g := gb183) (o := .cells #[.string a0_0, .string a0_1, .int .i64 a0_2] 30 (0, 0)) ax50 hb); have n2_ := Aside0.mk (below_step ax49 hb); clear BK183; clear HB; have HO189 := n0_; have BK183 := n1_; have HB := n2_; clear n0_ n1_ n2_; (try clear hb); (try clear hb2); (try clear hk); (try clear hi); (try clear ho0); obtain ⟨Ao21, co21, eo21⟩ := Kd.R_slice HO189.out; subst eo21) | (go_at_call 28; (with_reducible refine (spec_l2Set.calls k _ _ t187 t190 true _ ?side1 ?side2 A8.out).mono ?_); (case side1 => exact ax51); (case side2 => exact ax52); rintro e w22 ⟨v191, rfl, ho0, hb⟩; have n0_ := Aside0.mk (Kd.R_below ax53 hb); have n1_ := Aside0.mk (Kd.V_lower (Kd.V_mono (ok' := fun k_ => (w.heap.size ≤ k_) ∧ some k_ ≠ (.slice Ao21 t187.length co21 : Value).ownBlock ∧ k_ ≠ gb183) ho0 (fun k_ hk_ => ⟨(Nat.le_trans (below_size ax49) hk_), (Kd.fresh' (Kd.R_lt ax53) k_ hk_), (Kd.freshB (g := gb183) (o := .cells #[.string a0_0, .string a0_1, .int .i64 a0_2] 30 (0, 0)) ax50 k_ hk_)⟩)) (below_size ax49)); have n2_ := Aside0.mk (blk_below (g := gb183) (o := .cells #[.string a0_0, .string a0_1, .int .i64 a0_2] 30 (0, 0)) ax50 hb); have n3_ := Aside0.mk (below_step ax49 hb); clear HO189; clear BK183; clear HB; have HO189 := n0_; have HO192 := n1_; have BK183 := n2_; have HB := n3_; clear n0_ n1_ n2_ n3_; (try clear hb); (try clear hb2); (try clear hk); (try clear hi); (try clear ho0)) | (go_at_call 29; (with_reducible refine (spec_l2Has.calls k _ _ t187 (⟨#[]⟩ : ByteArray) false _ ?side1 ?side2 A10.out).mono ?_); (case side1 => exact ax51); (case side2 => exact ax52); rintro e w' ⟨rfl, ⟨nd, rfl⟩⟩; (try first | exact ⟨rfl, _, World.drewN_drewN _ _ _⟩ | exact ⟨rfl, _, Eq.trans (World.drewN_drewN _ _ _) (congrArg (World.drewN _) (Nat.add_assoc _ _ _))⟩); obtain ⟨Ao23, co23, eo23⟩ := Kd.V_slice HO192.out; subst eo23) | (go_at_call 30; (with_reducible refine (spec_l12Joined.calls k _ _ t190 t195 _ ?side1 ?side2 A17.out).mono ?_); (case side1 => exact ax54); (case side2 => exact (Kd.V_reads' HO192.out).2.1); rintro e w' ⟨rfl, ⟨nd, rfl⟩⟩; (try first | exact ⟨rfl, _, World.drewN_drewN _ _ _⟩ | exact ⟨rfl, _, Eq.trans (World.drewN_drewN _ _ _) (congrArg (World.drewN _) (Nat.add_assoc _ _ _))⟩); have hcz24_0 : w22.cell? ⟨gb183, 0, none⟩ = some (.string a0_0) := (blk_cell BK183.out 0).trans rfl; have hcz24_1 : w22.cell? ⟨gb183, 1, none⟩ = some (.string a0_1) := (blk_cell BK183.out 1).trans rfl; have hcz24_2 : w22.cell? ⟨gb183, 2, none⟩ = some (.int .i64 a0_2) := (blk_cell BK183.out 2).trans rfl; have hfz24_0 := blk_frozen BK183.out 0; have hfz24_1 := blk_frozen BK183.out 1; have hfz24_2 := blk_frozen BK183.out 2)); try go_wp2_with (first | ((with_reducible refine gate_dst (N := 1) rfl ?_); refine box_event ?hg (N := 1) ?hd (cs := #[.string a0_0, .string a0_1, .int .i64 a0_2]) (t := 30) ?hr ?_; (case hd => rfl); (case hg => rfl); (case hr => exact ax8); intro gb183 hg w18 hbox hb; have n0_ := Aside0.mk (below_step ax9 hb); have n1_ := Aside0.mk (hbox); have n2_ := Aside0.mk ((ax10 : w.heap.size ≤ gb183)); have n3_ := Aside0.mk ((ax10 : w.heap.size ≤ gb183)); clear HB; have HB := n0_; have BK183 := n1_; have GW183 := n2_; have GE183 := n3_; clear n0_ n1_ n2_ n3_; clear hb hbox hg; have hcz19_0 : w18.cell? ⟨gb183, 0, none⟩ = some (.string a0_0) := (blk_cell BK183.out 0).trans rfl; have hcz19_1 : w18.cell? ⟨gb183, 1, none⟩ = some (.string a0_1) := (blk_cell BK183.out 1).trans rfl; have hcz19_2 : w18.cell? ⟨gb183, 2, none⟩ = some (.int .i64 a0_2) := (blk_cell BK183.out 2).trans rfl; have hfz19_0 := blk_frozen BK183.out 0; have hfz19_1 := blk_frozen BK183.out 1; have hfz19_2 := blk_frozen BK183.out 2) | (go_at_call 27; (with_reducible refine (spec_l1Split.calls k a0_0 32 t187 _ A7.out).mono ?_); rintro e w20 ⟨v188, rfl, ho0, hb⟩; have n0_ := Aside0.mk (Kd.R_lower (Kd.R_newM (M := fun k_ => (w.heap.size ≤ k_)) ho0 (below_size ax49) (fun k_ h_ => h_)) (below_size ax49)); have n1_ := Aside0.mk (blk_below (g := gb183) (o := .cells #[.string a0_0, .string a0_1, .int .i64 a0_2] 30 (0, 0)) ax50 hb); have n2_ := Aside0.mk (below_step ax49 hb); clear BK183; clear HB; have HO189 := n0_; have BK183 := n1_; have HB := n2_; clear n0_ n1_ n2_; (try clear hb); (try clear hb2); (try clear hk); (try clear hi); (try clear ho0); obtain ⟨Ao21, co21, eo21⟩ := Kd.R_slice HO189.out; subst eo21) | (go_at_call 28; (with_reducible refine (spec_l2Set.calls k _ _ t187 t190 true _ ?side1 ?side2 A8.out).mono ?_); (case side1 => exact ax51); (case side2 => exact ax52); rintro e w22 ⟨v191, rfl, ho0, hb⟩; have n0_ := Aside0.mk (Kd.R_below ax53 hb); have n1_ := Aside0.mk (Kd.V_lower (Kd.V_mono (ok' := fun k_ => (w.heap.size ≤ k_) ∧ some k_ ≠ (.slice Ao21 t187.length co21 : Value).ownBlock ∧ k_ ≠ gb183) ho0 (fun k_ hk_ => ⟨(Nat.le_trans (below_size ax49) hk_), (Kd.fresh' (Kd.R_lt ax53) k_ hk_), (Kd.freshB (g := gb183) (o := .cells #[.string a0_0, .string a0_1, .int .i64 a0_2] 30 (0, 0)) ax50 k_ hk_)⟩)) (below_size ax49)); have n2_ := Aside0.mk (blk_below (g := gb183) (o := .cells #[.string a0_0, .string a0_1, .int .i64 a0_2] 30 (0, 0)) ax50 hb); have n3_ := Aside0.mk (below_step ax49 hb); clear HO189; clear BK183; clear HB; have HO189 := n0_; have HO192 := n1_; have BK183 := n2_; have HB := n3_; clear n0_ n1_ n2_ n3_; (try clear hb); (try clear hb2); (try clear hk); (try clear hi); (try clear ho0)) | (go_at_call 29; (with_reducible refine (spec_l2Has.calls k _ _ t187 (⟨#[]⟩ : ByteArray) false _ ?side1 ?side2 A10.out).mono ?_); (case side1 => exact ax51); (case side2 => exact ax52); rintro e w' ⟨rfl, ⟨nd, rfl⟩⟩; (try first | exact ⟨rfl, _, World.drewN_drewN _ _ _⟩ | exact ⟨rfl, _, Eq.trans (World.drewN_drewN _ _ _) (congrArg (World.drewN _) (Nat.add_assoc _ _ _))⟩); obtain ⟨Ao23, co23, eo23⟩ := Kd.V_slice HO192.out; subst eo23) | (go_at_call 30; (with_reducible refine (spec_l12Joined.calls k _ _ t190 t195 _ ?side1 ?side2 A17.out).mono ?_); (case side1 => exact ax54); (case side2 => exact (Kd.V_reads' HO192.out).2.1); rintro e w' ⟨rfl, ⟨nd, rfl⟩⟩; (try first | exact ⟨rfl, _, World.drewN_drewN _ _ _⟩ | exact ⟨rfl, _, Eq.trans (World.drewN_drewN _ _ _) (congrArg (World.drewN _) (Nat.add_assoc _ _ _))⟩); have hcz24_0 : w22.cell? ⟨gb183, 0, none⟩ = some (.string a0_0) := (blk_cell BK183.out 0).trans rfl; have hcz24_1 : w22.cell? ⟨gb183, 1, none⟩ = some (.string a0_1) := (blk_cell BK183.out 1).trans rfl; have hcz24_2 : w22.cell? ⟨gb183, 2, none⟩ = some (.int .i64 a0_2) := (blk_cell BK183.out 2).trans rfl; have hfz24_0 := blk_frozen BK183.out 0; have hfz24_1 := blk_frozen BK183.out 1; have hfz24_2 := blk_frozen BK183.out 2)))
    go_ret2
    exact ⟨_, by first | rfl | (simp [errW_none, errW_some] <;> rfl) | (simp [*, errW_none, errW_some] <;> rfl), by (with_reducible repeat (first | apply Kd.V_alloc | apply Kd.V_drewN | apply Kd.V_drew)); exact Kd.V_mono HO192.out (fun _ hk => hk.1), by repeat (first | (with_reducible first | exact HB.out | apply below_alloc | apply pw_below_drewN | apply below_drew1 | refine below_set ?_ GE183.out) | exact HB.out)⟩
  ·replace c9 := Bool.eq_false_iff.mpr c9
   subst c9
   rw [if_neg (show ¬ (false = true) by decide)] at H
   simp only [Option.some.injEq, Prod.mk.injEq] at H
   obtain ⟨rfl, rfl⟩ := H
   go_enter Tryz.func18, Tryz.ntmps18
   go_wp2_with (first | ((with_reducible refine gate_dst (N := 1) rfl ?_); refine box_event ?hg (N := 1) ?hd (cs := #[.string a0_0, .string a0_1, .int .i64 a0_2]) (t := 30) ?hr ?_; (case hd => rfl); (case hg => rfl); (case hr => exact ax8); intro gb183 hg w25 hbox hb; have n0_ := Aside0.mk (below_step ax9 hb); have n1_ := Aside0.mk (hbox); have n2_ := Aside0.mk ((ax10 : w.heap.size ≤ gb183)); have n3_ := Aside0.mk ((ax10 : w.heap.size ≤ gb183)); clear HB; have HB := n0_; have BK183 := n1_; have GW183 := n2_; have GE183 := n3_; clear n0_ n1_ n2_ n3_; clear hb hbox hg; have hcz26_0 : w25.cell? ⟨gb183, 0, none⟩ = some (.string a0_0) := (blk_cell BK183.out 0).trans rfl; have hcz26_1 : w25.cell? ⟨gb183, 1, none⟩ = some (.string a0_1) := (blk_cell BK183.out 1).trans rfl; have hcz26_2 : w25.cell? ⟨gb183, 2, none⟩ = some (.int .i64 a0_2) := (blk_cell BK183.out 2).trans rfl; have hfz26_0 := blk_frozen BK183.out 0; have hfz26_1 := blk_frozen BK183.out 1; have hfz26_2 := blk_frozen BK183.out 2) | (go_at_call 27; (with_reducible refine (spec_l1Split.calls k a0_0 32 t187 _ A7.out).mono ?_); rintro e w27 ⟨v188, rfl, ho0, hb⟩; have n0_ := Aside0.mk (Kd.R_lower (Kd.R_newM (M := fun k_ => (w.heap.size ≤ k_)) ho0 (below_size ax49) (fun k_ h_ => h_)) (below_size ax49)); have n1_ := Aside0.mk (blk_below (g := gb183) (o := .cells #[.string a0_0, .string a0_1, .int .i64 a0_2] 30 (0, 0)) ax50 hb); have n2_ := Aside0.mk (below_step ax49 hb); clear BK183; clear HB; have HO189 := n0_; have BK183 := n1_; have HB := n2_; clear n0_ n1_ n2_; (try clear hb); (try clear hb2); (try clear hk); (try clear hi); (try clear ho0); obtain ⟨Ao28, co28, eo28⟩ := Kd.R_slice HO189.out; subst eo28) | (go_at_call 28; (with_reducible refine (spec_l2Set.calls k _ _ t187 t190 false _ ?side1 ?side2 A8.out).mono ?_); (case side1 => exact ax51); (case side2 => exact ax52); rintro e w29 ⟨v191, rfl, ho0, hb⟩; have n0_ := Aside0.mk (Kd.R_below ax53 hb); have n1_ := Aside0.mk (Kd.V_lower (Kd.V_mono (ok' := fun k_ => (w.heap.size ≤ k_) ∧ some k_ ≠ (.slice Ao28 t187.length co28 : Value).ownBlock ∧ k_ ≠ gb183) ho0 (fun k_ hk_ => ⟨(Nat.le_trans (below_size ax49) hk_), (Kd.fresh' (Kd.R_lt ax53) k_ hk_), (Kd.freshB (g := gb183) (o := .cells #[.string a0_0, .string a0_1, .int .i64 a0_2] 30 (0, 0)) ax50 k_ hk_)⟩)) (below_size ax49)); have n2_ := Aside0.mk (blk_below (g := gb183) (o := .cells #[.string a0_0, .string a0_1, .int .i64 a0_2] 30 (0, 0)) ax50 hb); have n3_ := Aside0.mk (below_step ax49 hb); clear HO189; clear BK183; clear HB; have HO189 := n0_; have HO192 := n1_; have BK183 := n2_; have HB := n3_; clear n0_ n1_ n2_ n3_; (try clear hb); (try clear hb2); (try clear hk); (try clear hi); (try clear ho0)))
   repeat (go_quiet (first | ((with_reducible refine gate_dst (N := 1) rfl ?_); refine box_event ?hg (N := 1) ?hd (cs := #[.string a0_0, .string a0_1, .int .i64 a0_2]) (t := 30) ?hr ?_; (case hd => rfl); (case hg => rfl); (case hr => exact ax8); intro gb183 hg w25 hbox hb; have n0_ := Aside0.mk (below_step ax9 hb); have n1_ := Aside0.mk (hbox); have n2_ := Aside0.mk ((ax10 : w.heap.size ≤ gb183)); have n3_ := Aside0.mk ((ax10 : w.heap.size ≤ gb183)); clear HB; have HB := n0_; have BK183 := n1_; have GW183 := n2_; have GE183 := n3_; clear n0_ n1_ n2_ n3_; clear hb hbox hg; have hcz26_0 : w25.cell? ⟨gb183, 0, none⟩ = some (.string a0_0) := (blk_cell BK183.out 0).trans rfl; have hcz26_1 : w25.cell? ⟨gb183, 1, none⟩ = some (.string a0_1) := (blk_cell BK183.out 1).trans rfl; have hcz26_2 : w25.cell? ⟨gb183, 2, none⟩ = some (.int .i64 a0_2) := (blk_cell BK183.out 2).trans rfl; have hfz26_0 := blk_frozen BK183.out 0; have hfz26_1 := blk_frozen BK183.out 1; have hfz26_2 := blk_frozen BK183.out 2) | (go_at_call 27; (with_reducible refine (spec_l1Split.calls k a0_0 32 t187 _ A7.out).mono ?_); rintro e w27 ⟨v188, rfl, ho0, hb⟩; have n0_ := Aside0.mk (Kd.R_lower (Kd.R_newM (M := fun k_ => (w.heap.size ≤ k_)) ho0 (below_size ax49) (fun k_ h_ => h_)) (below_size ax49)); have n1_ := Aside0.mk (blk_below (g := gb183) (o := .cells #[.string a0_0, .string a0_1, .int .i64 a0_2] 30 (0, 0)) ax50 hb); have n2_ := Aside0.mk (below_step ax49 hb); clear BK183; clear HB; have HO189 := n0_; have BK183 := n1_; have HB := n2_; clear n0_ n1_ n2_; (try clear hb); (try clear hb2); (try clear hk); (try clear hi); (try clear ho0); obtain ⟨Ao28, co28, eo28⟩ := Kd.R_slice HO189.out; subst eo28) | (go_at_call 28; (with_reducible refine (spec_l2Set.calls k _ _ t187 t190 false _ ?side1 ?side2 A8.out).mono ?_); (case side1 => exact ax51); (case side2 => exact ax52); rintro e w29 ⟨v191, rfl, ho0, hb⟩; have n0_ := Aside0.mk (Kd.R_below ax53 hb); have n1_ := Aside0.mk (Kd.V_lower (Kd.V_mono (ok' := fun k_ => (w.heap.size ≤ k_) ∧ some k_ ≠ (.slice Ao28 t187.length co28 : Value).ownBlock ∧ k_ ≠ gb183) ho0 (fun k_ hk_ => ⟨(Nat.le_trans (below_size ax49) hk_), (Kd.fresh' (Kd.R_lt ax53) k_ hk_), (Kd.freshB (g := gb183) (o := .cells #[.string a0_0, .string a0_1, .int .i64 a0_2] 30 (0, 0)) ax50 k_ hk_)⟩)) (below_size ax49)); have n2_ := Aside0.mk (blk_below (g := gb183) (o := .cells #[.string a0_0, .string a0_1, .int .i64 a0_2] 30 (0, 0)) ax50 hb); have n3_ := Aside0.mk (below_step ax49 hb); clear HO189; clear BK183; clear HB; have HO189 := n0_; have HO192 := n1_; have BK183 := n2_; have HB := n3_; clear n0_ n1_ n2_ n3_; (try clear hb); (try clear hb2); (try clear hk); (try clear hi); (try clear ho0))); try go_wp2_with (first | ((with_reducible refine gate_dst (N := 1) rfl ?_); refine box_event ?hg (N := 1) ?hd (cs := #[.string a0_0, .string a0_1, .int .i64 a0_2]) (t := 30) ?hr ?_; (case hd => rfl); (case hg => rfl); (case hr => exact ax8); intro gb183 hg w25 hbox hb; have n0_ := Aside0.mk (below_step ax9 hb); have n1_ := Aside0.mk (hbox); have n2_ := Aside0.mk ((ax10 : w.heap.size ≤ gb183)); have n3_ := Aside0.mk ((ax10 : w.heap.size ≤ gb183)); clear HB; have HB := n0_; have BK183 := n1_; have GW183 := n2_; have GE183 := n3_; clear n0_ n1_ n2_ n3_; clear hb hbox hg; have hcz26_0 : w25.cell? ⟨gb183, 0, none⟩ = some (.string a0_0) := (blk_cell BK183.out 0).trans rfl; have hcz26_1 : w25.cell? ⟨gb183, 1, none⟩ = some (.string a0_1) := (blk_cell BK183.out 1).trans rfl; have hcz26_2 : w25.cell? ⟨gb183, 2, none⟩ = some (.int .i64 a0_2) := (blk_cell BK183.out 2).trans rfl; have hfz26_0 := blk_frozen BK183.out 0; have hfz26_1 := blk_frozen BK183.out 1; have hfz26_2 := blk_frozen BK183.out 2) | (go_at_call 27; (with_reducible refine (spec_l1Split.calls k a0_0 32 t187 _ A7.out).mono ?_); rintro e w27 ⟨v188, rfl, ho0, hb⟩; have n0_ := Aside0.mk (Kd.R_lower (Kd.R_newM (M := fun k_ => (w.heap.size ≤ k_)) ho0 (below_size ax49) (fun k_ h_ => h_)) (below_size ax49)); have n1_ := Aside0.mk (blk_below (g := gb183) (o := .cells #[.string a0_0, .string a0_1, .int .i64 a0_2] 30 (0, 0)) ax50 hb); have n2_ := Aside0.mk (below_step ax49 hb); clear BK183; clear HB; have HO189 := n0_; have BK183 := n1_; have HB := n2_; clear n0_ n1_ n2_; (try clear hb); (try clear hb2); (try clear hk); (try clear hi); (try clear ho0); obtain ⟨Ao28, co28, eo28⟩ := Kd.R_slice HO189.out; subst eo28) | (go_at_call 28; (with_reducible refine (spec_l2Set.calls k _ _ t187 t190 false _ ?side1 ?side2 A8.out).mono ?_); (case side1 => exact ax51); (case side2 => exact ax52); rintro e w29 ⟨v191, rfl, ho0, hb⟩; have n0_ := Aside0.mk (Kd.R_below ax53 hb); have n1_ := Aside0.mk (Kd.V_lower (Kd.V_mono (ok' := fun k_ => (w.heap.size ≤ k_) ∧ some k_ ≠ (.slice Ao28 t187.length co28 : Value).ownBlock ∧ k_ ≠ gb183) ho0 (fun k_ hk_ => ⟨(Nat.le_trans (below_size ax49) hk_), (Kd.fresh' (Kd.R_lt ax53) k_ hk_), (Kd.freshB (g := gb183) (o := .cells #[.string a0_0, .string a0_1, .int .i64 a0_2] 30 (0, 0)) ax50 k_ hk_)⟩)) (below_size ax49)); have n2_ := Aside0.mk (blk_below (g := gb183) (o := .cells #[.string a0_0, .string a0_1, .int .i64 a0_2] 30 (0, 0)) ax50 hb); have n3_ := Aside0.mk (below_step ax49 hb); clear HO189; clear BK183; clear HB; have HO189 := n0_; have HO192 := n1_; have BK183 := n2_; have HB := n3_; clear n0_ n1_ n2_ n3_; (try clear hb); (try clear hb2); (try clear hk); (try clear hi); (try clear ho0))))
   go_ret2
   exact ⟨_, by first | rfl | (simp [errW_none, errW_some] <;> rfl) | (simp [*, errW_none, errW_some] <;> rfl), by (with_reducible repeat (first | apply Kd.V_alloc | apply Kd.V_drewN | apply Kd.V_drew)); exact Kd.V_mono HO192.out (fun _ hk => hk.1), by repeat (first | (with_reducible first | exact HB.out | apply below_alloc | apply pw_below_drewN | apply below_drew1 | refine below_set ?_ GE183.out) | exact HB.out)⟩

/-! ### spec_l2Kid: function 31 -/
def spec_l2Kid.l0 : Nat → Int → Int → Int → List (S68) → Option (Int)
 | 0, _, _, _, _ => none
 | k + 1, x1, x2, x7, x197000 => if x7 < (x197000.length : Int) then (if 0 ≤ x7 then (if ((rd_T68 x197000 x7).f1) = x1 then (if ((rd_T68 x197000 x7).f0) = x2 then (some x7) else (spec_l2Kid.l0 k x1 x2 (wrap64 (x7 + 1)) x197000)) else (spec_l2Kid.l0 k x1 x2 (wrap64 (x7 + 1)) x197000)) else (none)) else (some (-1))
def spec_l2Kid.f (k : Nat) (l0_0 : List (S68)) (a1 : Int) (a2 : Int) : Option (Int) := spec_l2Kid.l0 k a1 a2 (wrap64 (a1 + 1)) l0_0
theorem spec_l2Kid.mono_l : ∀ k, (∀ y0 y1 y2 y3, LeO (spec_l2Kid.l0 k y0 y1 y2 y3) (spec_l2Kid.l0 (k + 1) y0 y1 y2 y3))
 | 0 => fun _ _ _ _ r h => by simp [spec_l2Kid.l0] at h
 | k + 1 => by
  have ih0 := spec_l2Kid.mono_l k
  ·intro y0 y1 y2 y3
   unfold spec_l2Kid.l0
   repeat' first | (with_reducible first | exact ih0 .. | exact LeO.refl _ | exact LeO.none _ | refine LeO.ite ?_ ?_ | refine LeO.bind ?_ (fun _ => ?_)) | exact ih0 .. | exact LeO.none _ | refine LeO.ite ?_ ?_ | refine LeO.bind ?_ (fun _ => ?_)
theorem spec_l2Kid.mono : ∀ a0 a1 a2 k, LeO (spec_l2Kid.f k a0 a1 a2) (spec_l2Kid.f (k + 1) a0 a1 a2) := by
 intro a0 a1 a2 k
 have ih0 := spec_l2Kid.mono_l k
 unfold spec_l2Kid.f
 repeat' first | (with_reducible first | exact ih0 .. | exact LeO.refl _ | exact LeO.none _ | refine LeO.ite ?_ ?_ | refine LeO.bind ?_ (fun _ => ?_)) | exact ih0 .. | exact LeO.none _ | refine LeO.ite ?_ ?_ | refine LeO.bind ?_ (fun _ => ?_)
set_option maxHeartbeats 8000000 in
set_option maxRecDepth 100000 in
theorem spec_l2Kid.calls (k : Nat) (A0_0 : Option Addr) (c0_0 : Nat) (l0_0 : List (S68)) (a1 : Int) (a2 : Int) (r : Int) (w : World) (hr0_0 : Kd.C k68 w A0_0 l0_0.length l0_0) (hc0_0 : l0_0.length ≤ c0_0) (h : spec_l2Kid.f k l0_0 a1 a2 = some r) :
  Calls Tryz.prog 31 #[.agg #[.slice A0_0 l0_0.length c0_0], .int .i64 a1, .int .i64 a2] w fun e w' => e = .returned (.int .i64 r) ∧ Below w.heap.size w w' := by
 have hu51 := Tryz.underlying51; have HR0_0 := Aside0.mk hr0_0; have HC0_0 := Aside0.mk hc0_0; clear hr0_0 hc0_0; have HB := Aside0.mk (Below.refl w.heap.size w)
 have H : (spec_l2Kid.l0 k a1 a2 (wrap64 (a1 + 1)) l0_0) = some r := h
 clear h
 have H' := Aside0.mk H
 clear H
 go_enter Tryz.func31, Tryz.ntmps31
 go_wp2_with (first | ((with_reducible refine gate_dst (N := 3) rfl ?_); refine box_event ?hg (N := 3) ?hd (cs := #[.slice A0_0 l0_0.length c0_0]) (t := 51) ?hr ?_; (case hd => rfl); (case hg => rfl); (case hr => exact ax8); intro gb196 hg w4 hbox hb; have n0_ := Aside0.mk (below_step ax9 hb); have n1_ := Aside0.mk (hbox); have n2_ := Aside0.mk ((ax10 : w.heap.size ≤ gb196)); have n3_ := Aside0.mk ((ax10 : w.heap.size ≤ gb196)); clear HB; have HB := n0_; have BK196 := n1_; have GW196 := n2_; have GE196 := n3_; clear n0_ n1_ n2_ n3_; clear hb hbox hg))
 go_loopg [7] k (fun kq v7 w' => ∃ (x7_1 : Int), v7 = .int .i64 x7_1 ∧ Aside0 (spec_l2Kid.l0 kq a1 a2 x7_1 l0_0 = some r) ∧ Aside0 (kq ≤ k) ∧ Aside0 (w'.heap[gb196]? = some (.cells #[(.slice A0_0 l0_0.length c0_0)] 51 (0, 0))) ∧ Aside0 (Below w.heap.size w w'))
 case atStart => exact ⟨(wrap64 (a1 + 1)), ax15, H', ⟨Nat.le_refl _⟩, ⟨ax55⟩, ⟨ax56⟩⟩
 case round =>
  clear H'
  try clear p2
  try clear c3
  obtain ⟨x7_1, rfl, HA, HK1, BK196, HB⟩ := hrel
  cases gk with
  | zero => exact absurd HA.out (by simp [spec_l2Kid.l0])
  | succ k1 =>
   have H := HA.out; clear HA
   simp only [spec_l2Kid.l0] at H
   by_cases c5 : x7_1 < (l0_0.length : Int)
   ·rw [if_pos c5] at H
    have c5b0 : decide (x7_1 < (l0_0.length : Int)) = true := decide_eq_true c5
    clear c5
    by_cases c6 : 0 ≤ x7_1
    ·rw [if_pos c6] at H
     have c6b0 : decide (0 ≤ x7_1) = true := decide_eq_true c6
     clear c6
     by_cases c7 : ((rd_T68 l0_0 x7_1).f1) = a1
     ·rw [if_pos c7] at H
      have c7b0 : (((rd_T68 l0_0 x7_1).f1) == a1) = true := beq_iff_eq.mpr c7
      have c7b1 : (((rd_T68 l0_0 x7_1).f1) != a1) = false := bne_eq_false_iff_eq.mpr c7
      clear c7
      by_cases c8 : ((rd_T68 l0_0 x7_1).f0) = a2
      ·rw [if_pos c8] at H
       have c8b0 : (((rd_T68 l0_0 x7_1).f0) == a2) = true := beq_iff_eq.mpr c8
       have c8b1 : (((rd_T68 l0_0 x7_1).f0) != a2) = false := bne_eq_false_iff_eq.mpr c8
       clear c8
       obtain rfl := Option.some.inj H
       have hcz9_0 : wr.cell? ⟨gb196, 0, none⟩ = some (.slice A0_0 l0_0.length c0_0) := (blk_cell BK196.out 0).trans rfl
       have hfz9_0 := blk_frozen BK196.out 0
       have p197 : 0 ≤ (x7_1 : Int) := of_decide_eq_true ax17
       have q197 : x7_1 < (l0_0.length : Int) := of_decide_eq_true ax17
       obtain ⟨ad197, e197, hx197_0, hx197_1, hx197_2⟩ := at_T68 HR0_0.out x7_1 p197 q197
       cases e197; replace hx197_0 := (HB.out.cell (World.block_lt_of_cell? w _ hx197_0)).trans hx197_0; replace hx197_1 := (HB.out.cell (World.block_lt_of_cell? w _ hx197_1)).trans hx197_1; replace hx197_2 := (HB.out.cell (World.block_lt_of_cell? w _ hx197_2)).trans hx197_2; replace p197 := eq_true p197; replace q197 := eq_true q197
       have p198 : 0 ≤ (x7_1 : Int) := of_decide_eq_true ax17
       have q198 : x7_1 < (l0_0.length : Int) := of_decide_eq_true ax17
       obtain ⟨ad198, e198, hx198_0, hx198_1, hx198_2⟩ := at_T68 HR0_0.out x7_1 p198 q198
       obtain rfl : ad197 = ad198 := (by injection e198)
       replace hx198_0 := (HB.out.cell (World.block_lt_of_cell? w _ hx198_0)).trans hx198_0; replace hx198_1 := (HB.out.cell (World.block_lt_of_cell? w _ hx198_1)).trans hx198_1; replace hx198_2 := (HB.out.cell (World.block_lt_of_cell? w _ hx198_2)).trans hx198_2; replace p198 := eq_true p198; replace q198 := eq_true q198
       go_wp2
       go_ret
       exact ⟨ax11, by repeat (first | (with_reducible first | exact HB.out | apply below_alloc | apply pw_below_drewN | apply below_drew1 | refine below_set ?_ GE196.out) | exact HB.out)⟩
      ·rw [if_neg c8] at H
       have c8b0 : (((rd_T68 l0_0 x7_1).f0) == a2) = false := beq_eq_false_iff_ne.mpr c8
       have c8b1 : (((rd_T68 l0_0 x7_1).f0) != a2) = true := bne_iff_ne.mpr c8
       have H' := Aside0.mk H
       clear H
       have hcz10_0 : wr.cell? ⟨gb196, 0, none⟩ = some (.slice A0_0 l0_0.length c0_0) := (blk_cell BK196.out 0).trans rfl
       have hfz10_0 := blk_frozen BK196.out 0
       have p197 : 0 ≤ (x7_1 : Int) := of_decide_eq_true ax17
       have q197 : x7_1 < (l0_0.length : Int) := of_decide_eq_true ax17
       obtain ⟨ad197, e197, hx197_0, hx197_1, hx197_2⟩ := at_T68 HR0_0.out x7_1 p197 q197
       cases e197; replace hx197_0 := (HB.out.cell (World.block_lt_of_cell? w _ hx197_0)).trans hx197_0; replace hx197_1 := (HB.out.cell (World.block_lt_of_cell? w _ hx197_1)).trans hx197_1; replace hx197_2 := (HB.out.cell (World.block_lt_of_cell? w _ hx197_2)).trans hx197_2; replace p197 := eq_true p197; replace q197 := eq_true q197
       have p198 : 0 ≤ (x7_1 : Int) := of_decide_eq_true ax17
       have q198 : x7_1 < (l0_0.length : Int) := of_decide_eq_true ax17
       obtain ⟨ad198, e198, hx198_0, hx198_1, hx198_2⟩ := at_T68 HR0_0.out x7_1 p198 q198
       obtain rfl : ad197 = ad198 := (by injection e198)
       replace hx198_0 := (HB.out.cell (World.block_lt_of_cell? w _ hx198_0)).trans hx198_0; replace hx198_1 := (HB.out.cell (World.block_lt_of_cell? w _ hx198_1)).trans hx198_1; replace hx198_2 := (HB.out.cell (World.block_lt_of_cell? w _ hx198_2)).trans hx198_2; replace p198 := eq_true p198; replace q198 := eq_true q198
       go_wp2
       go_roundg k1
       case measure => have := HK1.out; omega
       case rel => exact ⟨(wrap64 (x7_1 + 1)), ax15, H', ⟨by have := HK1.out; omega⟩, ⟨ax55⟩, ⟨ax56⟩⟩
     ·rw [if_neg c7] at H
      have c7b0 : (((rd_T68 l0_0 x7_1).f1) == a1) = false := beq_eq_false_iff_ne.mpr c7
      have c7b1 : (((rd_T68 l0_0 x7_1).f1) != a1) = true := bne_iff_ne.mpr c7
      have H' := Aside0.mk H
      clear H
      have hcz11_0 : wr.cell? ⟨gb196, 0, none⟩ = some (.slice A0_0 l0_0.length c0_0) := (blk_cell BK196.out 0).trans rfl
      have hfz11_0 := blk_frozen BK196.out 0
      have p197 : 0 ≤ (x7_1 : Int) := of_decide_eq_true ax17
      have q197 : x7_1 < (l0_0.length : Int) := of_decide_eq_true ax17
      obtain ⟨ad197, e197, hx197_0, hx197_1, hx197_2⟩ := at_T68 HR0_0.out x7_1 p197 q197
      cases e197; replace hx197_0 := (HB.out.cell (World.block_lt_of_cell? w _ hx197_0)).trans hx197_0; replace hx197_1 := (HB.out.cell (World.block_lt_of_cell? w _ hx197_1)).trans hx197_1; replace hx197_2 := (HB.out.cell (World.block_lt_of_cell? w _ hx197_2)).trans hx197_2; replace p197 := eq_true p197; replace q197 := eq_true q197
      go_wp2
      go_roundg k1
      case measure => have := HK1.out; omega
      case rel => exact ⟨(wrap64 (x7_1 + 1)), ax15, H', ⟨by have := HK1.out; omega⟩, ⟨ax55⟩, ⟨ax56⟩⟩
    ·exact ax1
   ·rw [if_neg c5] at H
    have c5b0 : decide (x7_1 < (l0_0.length : Int)) = false := decide_eq_false c5
    clear c5
    obtain rfl := Option.some.inj H
    have hcz12_0 : wr.cell? ⟨gb196, 0, none⟩ = some (.slice A0_0 l0_0.length c0_0) := (blk_cell BK196.out 0).trans rfl
    have hfz12_0 := blk_frozen BK196.out 0
    go_wp2
    go_ret
    exact ⟨ax11, by repeat (first | (with_reducible first | exact HB.out | apply below_alloc | apply pw_below_drewN | apply below_drew1 | refine below_set ?_ GE196.out) | exact HB.out)⟩

end Go.Proofs.YtnjjchbhbicmoaaGreatDoor.X

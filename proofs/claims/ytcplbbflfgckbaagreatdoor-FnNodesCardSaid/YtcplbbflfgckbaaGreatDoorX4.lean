-- By gen.py (the session's own program over the kit's printer): functions of the program, each with its contract. Lean checks it.
import Derived.Test.YtcplbbflfgckbaaGreatDoorX0
import Derived.Test.YtcplbbflfgckbaaGreatDoorX2
import Derived.Test.YtcplbbflfgckbaaGreatDoorX3
namespace Go.Proofs.YtcplbbflfgckbaaGreatDoor.X
open Go.RowKit Go.Proofs.YtcplbbflfgckbaaGreatDoorW.PrintWords Go.Proofs.YtcplbbflfgckbaaGreatDoorW.PrintLast Go.Proofs.YtcplbbflfgckbaaGreatDoorW.PrintMore
attribute [local go_sem] max2_int min2_int max_two min_two max_three min_three max_four min_four   -- for this text's walks alone
set_option linter.unusedVariables false
set_option linter.unusedSimpArgs false

/-! ### spec_l2Place: function 153 -/
def spec_l2Place.l0 : Nat → List ByteArray → ByteArray → Int → Option (Int)
 | 0, _, _, _ => none
 | k + 1, x0, x1, x5 => if x5 < (x0.length : Int) then (if 0 ≤ x5 then (if (rdOf ByteArray.empty x0 x5).toList = x1.toList then (some x5) else (spec_l2Place.l0 k x0 x1 (wrap64 (x5 + 1)))) else (none)) else (some (-1))
def spec_l2Place.f (k : Nat) (l0 : List ByteArray) (a1 : ByteArray) : Option (Int) := spec_l2Place.l0 k l0 a1 0
set_option maxHeartbeats 8000000 in
set_option maxRecDepth 100000 in
theorem spec_l2Place.calls (k : Nat) (A0 : Option Addr) (c0 : Nat) (l0 : List ByteArray) (a1 : ByteArray) (r : Int) (w : World) (hr0 : Kd.C Kd.string w A0 l0.length l0) (hc0 : l0.length ≤ c0) (h : spec_l2Place.f k l0 a1 = some r) :
  Calls Tryz.prog 153 #[.slice A0 l0.length c0, .string a1] w fun e w' => e = .returned (.int .i64 r) ∧ Drawn0 w w' := by
 have HR0 := am hr0; have HC0 := am hc0; clear hr0 hc0
 unfold spec_l2Place.f at h
 have H := h; clear h; have H' := am H; clear H
 go_enter Tryz.func153, Tryz.ntmps153
 go_wp2
 go_loopg [5] k (fun kq v5 w' => ∃ (x5_1 : Int), v5 = .int .i64 x5_1 ∧ Aside0 (spec_l2Place.l0 kq l0 a1 x5_1 = some r) ∧ Aside0 (kq ≤ k) ∧ Drawn0 w w')
 case atStart => exact ⟨(0), ax31, H', ⟨Nat.le_refl _⟩, by repeat (first | exact Drawn0.refl _ | apply Drawn0.step)⟩
 case round =>
  clear H'; obtain ⟨x5_1, rfl, HA, HK1, ⟨m1, rfl⟩⟩ := hrel
  cases gk with
  | zero => exact absurd HA.out (by simp [spec_l2Place.l0])
  | succ k1 =>
   have H := HA.out; clear HA; simp only [spec_l2Place.l0] at H
   by_cases c3 : x5_1 < (l0.length : Int)
   ·rw [if_pos c3] at H
    have c3b0 := decide_eq_true c3; clear c3
    by_cases c4 : 0 ≤ x5_1
    ·rw [if_pos c4] at H
     have c4b0 := decide_eq_true c4; clear c4
     by_cases c5 : (rdOf ByteArray.empty l0 x5_1).toList = a1.toList
     ·rw [if_pos c5] at H
      have c5b0 := beq_iff_eq.mpr c5; have c5b1 := bne_eq_false_iff_eq.mpr c5; clear c5; obtain rfl := Option.some.inj H; have p165 : 0 ≤ (x5_1 : Int) := of_decide_eq_true ax26; have q165 : x5_1 < (l0.length : Int) := of_decide_eq_true ax26; obtain ⟨ad165, e165, hx165_0⟩ := Kd.at_string HR0.out x5_1 p165 q165
      cases e165
      replace p165 := eq_true p165; replace q165 := eq_true q165
      go_wp2
      go_ret
      exact ⟨ax31, ax32⟩
     ·rw [if_neg c5] at H
      have c5b0 := beq_eq_false_iff_ne.mpr c5; have c5b1 := bne_iff_ne.mpr c5; have H' := am H; clear H; have p165 : 0 ≤ (x5_1 : Int) := of_decide_eq_true ax26; have q165 : x5_1 < (l0.length : Int) := of_decide_eq_true ax26; obtain ⟨ad165, e165, hx165_0⟩ := Kd.at_string HR0.out x5_1 p165 q165
      cases e165
      replace p165 := eq_true p165; replace q165 := eq_true q165
      go_wp2
      go_roundg k1
      case measure => have := HK1.out; omega
      case rel => exact ⟨(wrap64 (x5_1 + 1)), ax31, H', ⟨by have := HK1.out; omega⟩, ax32⟩
    ·exact ax1
   ·exact ax2
/-! ### spec_l2Of: function 123 -/
mutual
def spec_l2Of.l0 : Nat → List ByteArray → List ByteArray → Int → Option ((List (S74)))
 | 0, _, _, _ => none
 | k + 1, x0, x3, x4 => if x4 < (x0.length : Int) then (spec_l2Of.l1 k x0 x3 x4 1) else (spec_l2Of.l2 k x0 x3 0 (([] : List (S74))))
def spec_l2Of.l1 : Nat → List ByteArray → List ByteArray → Int → Int → Option ((List (S74)))
 | 0, _, _, _, _ => none
 | k + 1, x0, x3, x4, x5 => if 0 ≤ x4 then (if x4 < (x0.length : Int) then (if x5 ≤ ((rdOf ByteArray.empty x0 x4).size : Int) then (if 0 ≤ x5 then ((spec_l2Put.f k x3 ((rdOf ByteArray.empty x0 x4).extract 0 (x5 : Int).toNat)).bind fun t172 => (spec_l2Of.l1 k x0 t172 x4 (wrap64 (x5 + 1)))) else (none)) else (spec_l2Of.l0 k x0 x3 (wrap64 (x4 + 1)))) else (none)) else (none)
def spec_l2Of.l2 : Nat → List ByteArray → List ByteArray → Int → List (S74) → Option ((List (S74)))
 | 0, _, _, _, _ => none
 | k + 1, x0, x3, x7, x179000 => if x7 < (x3.length : Int) then (if 0 ≤ x7 then ((spec_l2Has.f k x0 (rdOf ByteArray.empty x3 x7)).bind fun t180 => (if x7 > 0 then (if 0 ≤ (wrap64 (((rdOf ByteArray.empty x3 x7).size : Int) - 1)) then (if (wrap64 (((rdOf ByteArray.empty x3 x7).size : Int) - 1)) < ((rdOf ByteArray.empty x3 x7).size : Int) then (if (wrap64 (((rdOf ByteArray.empty x3 x7).size : Int) - 1)) ≤ ((rdOf ByteArray.empty x3 x7).size : Int) then ((spec_l2Place.f k x3 ((rdOf ByteArray.empty x3 x7).extract 0 ((wrap64 (((rdOf ByteArray.empty x3 x7).size : Int) - 1)) : Int).toNat)).bind fun t182 => (if x179000.length < 5864062014805 then (spec_l2Of.l2 k x0 x3 (wrap64 (x7 + 1)) (x179000 ++ [(⟨((bt (rdOf ByteArray.empty x3 x7) (wrap64 (((rdOf ByteArray.empty x3 x7).size : Int) - 1))) - 97) % 256, t182, t180⟩ : S74)])) else (none))) else (none)) else (none)) else (none)) else (if x179000.length < 5864062014805 then (spec_l2Of.l2 k x0 x3 (wrap64 (x7 + 1)) (x179000 ++ [(⟨(-1), (-1), t180⟩ : S74)])) else (none)))) else (none)) else (some x179000)
end
def spec_l2Of.f (k : Nat) (l0 : List ByteArray) : Option ((List (S74))) := spec_l2Of.l0 k l0 (([(⟨#[]⟩ : ByteArray)] : List ByteArray)) 0
set_option maxHeartbeats 8000000 in
set_option maxRecDepth 100000 in
theorem spec_l2Of.calls (k : Nat) (A0 : Option Addr) (c0 : Nat) (l0 : List ByteArray) (r : List (S74)) (w : World) (hr0 : Kd.C Kd.string w A0 l0.length l0) (hc0 : l0.length ≤ c0) (h : spec_l2Of.f k l0 = some r) :
  Calls Tryz.prog 123 #[.slice A0 l0.length c0] w fun e w' => ∃ v0_ : Value, e = .returned (.agg #[v0_]) ∧ Kd.R k74 74 w' w.heap.size (fun _ => True) v0_ r ∧ Below w.heap.size w w' := by
 have hu26 := Tryz.underlying26; have hu74 := Tryz.underlying74; have HR0 := am hr0; have HC0 := am hc0; clear hr0 hc0; have HB := am (Below.refl w.heap.size w)
 unfold spec_l2Of.f at h
 have H := h; clear h; obtain ⟨y167, hy167⟩ : ∃ y_ : List ByteArray, y_ = (([(⟨#[]⟩ : ByteArray)] : List ByteArray)) := ⟨_, rfl⟩
 replace H : (spec_l2Of.l0 k l0 y167 0) = some r := by first | (rw [hy167]; with_reducible exact H) | (have H2_ := (Option.bind_some _ _).symm.trans H; rw [hy167]; with_reducible exact H2_) | (have H2_ := (Option.bind_some _ _).symm.trans H; with_reducible exact H2_) | with_reducible exact H | (rw [hy167]; exact H) | exact H
 have Ny167 := am hy167; clear hy167; have H' := am H; clear H
 go_enter Tryz.func123, Tryz.ntmps123
 go_wp2_with (first | ((with_reducible refine gate_dst (N := 2) rfl ?_); refine bx 2 #[.slice none 0 0] 26 ?_; intro gb166 hg w2 hbox hb; have BK166 := am (hbox); have GW166 := uG hg HB; have GE166 := uG hg HB; replace HB := uB HB hb; clear hb hbox hg) | ((with_reducible refine gate_dst (N := 10) rfl ?_); refine Kd.R_lit Kd.string _ 9 ?hg (N := 10) ?hd (xs := ([(⟨#[]⟩ : ByteArray)] : List ByteArray)) (inner := [.string (⟨#[]⟩ : ByteArray)]) (ok := fun _ => True) (okp := fun _ => True) ?hr ?hp (fun _ hk => hk) trivial (Below.refl _ _) (Nat.le_refl _) (by simp) ?_; (case hd => rfl); (case hg => rfl); (case hr => exact ax33); (case hp => exact ax64); intro v168 w3 ho4 hb hg_ hnew_; clear hg_ hnew_; (first | rw [← Ny167.out] at ho4 | (simp only [Int.reduceToNat] at ho4; rw [← Ny167.out] at ho4)); have HO169 := am (Kd.R_lower ho4 (below_size ax65)); replace BK166 := ub BK166 hb; replace HB := am (below_step ax65 hb); clear hb ho4))
 go_loopg [3, 4] k (fun kq v3 v4 w' => ∃ (x3_1 : List ByteArray) (x4_1 : Int), v4 = .int .i64 x4_1 ∧ Aside0 (spec_l2Of.l0 kq l0 x3_1 x4_1 = some r) ∧ Aside0 (kq ≤ k) ∧ Aside0 (Kd.V Kd.string 9 w' w.heap.size (fun k_ => k_ ≠ gb166) v3 x3_1) ∧ Aside0 (w'.heap[gb166]? = some (.cells #[(.slice none 0 0)] 26 (0, 0))) ∧ Aside0 (Below w.heap.size w w'))
 case atStart => exact ⟨(y167), (0), ax31, H', ⟨Nat.le_refl _⟩, ⟨Kd.R_V (by (with_reducible repeat (first | apply Kd.R_alloc | apply Kd.R_drewN | apply Kd.R_drew)); exact Kd.R_mono (Kd.R_types HO169.out BK166.out (by decide)) (fun _ hk => hk.2))⟩, ⟨ax66⟩, ⟨ax65⟩⟩
 case round =>
  clear H'; obtain ⟨x3_1, x4_1, rfl, HA, HK1, HO_3, BK166, HB⟩ := hrel
  cases gk with
  | zero => exact absurd HA.out (by simp [spec_l2Of.l0])
  | succ k1 =>
   have H := HA.out; clear HA; simp only [spec_l2Of.l0] at H
   by_cases c5 : x4_1 < (l0.length : Int)
   ·rw [if_pos c5] at H
    have c5b0 := decide_eq_true c5; clear c5; have H' := am H; clear H
    go_wp2
    go_loopg [3, 5] k1 (fun kq v3 v5 w' => ∃ (x3_2 : List ByteArray) (x5_2 : Int), v5 = .int .i64 x5_2 ∧ Aside0 (spec_l2Of.l1 kq l0 x3_2 x4_1 x5_2 = some r) ∧ Aside0 (kq ≤ k1) ∧ Aside0 (Kd.V Kd.string 9 w' w.heap.size (fun k_ => k_ ≠ gb166) v3 x3_2) ∧ Aside0 (w'.heap[gb166]? = some (.cells #[(.slice none 0 0)] 26 (0, 0))) ∧ Aside0 (Below w.heap.size w w'))
    case atStart => exact ⟨(x3_1), (1), ax31, H', ⟨Nat.le_refl _⟩, ⟨ax67⟩, ⟨ax66⟩, ⟨ax65⟩⟩
    case round =>
     clear H'; (try clear c5);(try clear c5b0); obtain ⟨x3_2, x5_2, rfl, HA, HK2, HO_3, BK166, HB⟩ := hrel
     cases gk with
     | zero => exact absurd HA.out (by simp [spec_l2Of.l1])
     | succ k2 =>
      have H := HA.out; clear HA; simp only [spec_l2Of.l1] at H
      by_cases c6 : 0 ≤ x4_1
      ·rw [if_pos c6] at H
       have c6b0 := decide_eq_true c6; clear c6
       by_cases c7 : x4_1 < (l0.length : Int)
       ·rw [if_pos c7] at H
        have c7b0 := decide_eq_true c7; clear c7
        by_cases c8 : x5_2 ≤ ((rdOf ByteArray.empty l0 x4_1).size : Int)
        ·rw [if_pos c8] at H
         have c8b0 := decide_eq_true c8; clear c8
         by_cases c9 : 0 ≤ x5_2
         ·rw [if_pos c9] at H
          have c9b0 := eq_true c9; have c9b1 := decide_eq_true c9; clear c9; have c10b0 := eq_true (of_decide_eq_true ax26 : x5_2 ≤ ((rdOf ByteArray.empty l0 x4_1).size : Int)); obtain ⟨js11, hjs11⟩ : ∃ j_ : ByteArray, ((rdOf ByteArray.empty l0 x4_1).extract 0 (x5_2 : Int).toNat) = j_ := ⟨_, rfl⟩; (first | rw [hjs11] at H | simp only [hjs11] at H); obtain ⟨t172, A12, H⟩ := bs H; have H' := am H; clear H; have p170 : 0 ≤ (x4_1 : Int) := of_decide_eq_true ax26; have q170 : x4_1 < (l0.length : Int) := of_decide_eq_true ax26; obtain ⟨ad170, e170, hx170_0⟩ := Kd.at_string HR0.out x4_1 p170 q170
          cases e170
          replace hx170_0 := (HB.out.cell (World.block_lt_of_cell? w _ hx170_0)).trans hx170_0; replace p170 := eq_true p170; replace q170 := eq_true q170; have p171 : 0 ≤ (x4_1 : Int) := of_decide_eq_true ax26; have q171 : x4_1 < (l0.length : Int) := of_decide_eq_true ax26; obtain ⟨ad171, e171, hx171_0⟩ := Kd.at_string HR0.out x4_1 p171 q171; obtain rfl : ad170 = ad171 := (by injection e171); replace hx171_0 := (HB.out.cell (World.block_lt_of_cell? w _ hx171_0)).trans hx171_0; replace p171 := eq_true p171; replace q171 := eq_true q171; obtain ⟨Ao13, co13, eo13⟩ := Kd.V_slice HO_3.out; subst eo13
          go_wp2_with (first | ((with_reducible refine gd 33 149 ?_); refine gc 33 Tryz.func149 #[.slice Ao13 x3_2.length co13, .string js11] (spec_l2Put.calls k2 (fun k_ => k_ ≠ gb166) _ _ x3_2 js11 t172 _ (HO_3.out) A12.out) ?_; rintro e w14 ⟨v173, rfl, ho0, hb⟩; refine ⟨_, rfl, ?_⟩; replace HO_3 := am (Kd.V_below ax67 hb); have HO174 := am (Kd.V_lower (Kd.V_mono (ok' := fun k_ => k_ ≠ gb166) ho0 (fun k_ hk_ => Or.elim hk_ (fun hs_ => hs_) (fun hn_ => (Kd.freshB (g := gb166) (o := .cells #[.slice none 0 0] 26 (0, 0)) ax66 k_ hn_)))) (below_size ax65)); replace BK166 := ub BK166 hb; replace HB := am (below_step ax65 hb); (try clear hb ho0)))
          go_roundg k2
          case measure => have := HK1.out; have := HK2.out; omega
          case rel => exact ⟨(t172), (wrap64 (x5_2 + 1)), ax31, H', ⟨ax68⟩, ⟨(by (with_reducible repeat (first | apply Kd.V_alloc | apply Kd.V_drewN | apply Kd.V_drew)); exact HO174.out)⟩, ⟨ax66⟩, ⟨ax65⟩⟩
         ·exact ax3
        ·rw [if_neg c8] at H
         have c8b0 := decide_eq_false c8; clear c8; have H' := am H; clear H; have p170 : 0 ≤ (x4_1 : Int) := of_decide_eq_true ax26; have q170 : x4_1 < (l0.length : Int) := of_decide_eq_true ax26; obtain ⟨ad170, e170, hx170_0⟩ := Kd.at_string HR0.out x4_1 p170 q170
         cases e170
         replace hx170_0 := (HB.out.cell (World.block_lt_of_cell? w _ hx170_0)).trans hx170_0; replace p170 := eq_true p170; replace q170 := eq_true q170
         go_wp2
         go_roundg k2
         case measure => have := HK1.out; have := HK2.out; omega
         case rel => exact ⟨(x3_2), (wrap64 (x4_1 + 1)), ax31, H', ⟨ax68⟩, ⟨ax67⟩, ⟨ax66⟩, ⟨ax65⟩⟩
       ·exact ax4
      ·exact ax5
   ·rw [if_neg c5] at H
    have c5b0 := decide_eq_false c5; clear c5; obtain ⟨y175, hy175⟩ : ∃ y_ : List (S74), y_ = (([] : List (S74))) := ⟨_, rfl⟩
    replace H : (spec_l2Of.l2 k1 l0 x3_1 0 y175) = some r := by first | (rw [hy175]; with_reducible exact H) | (have H2_ := (Option.bind_some _ _).symm.trans H; rw [hy175]; with_reducible exact H2_) | (have H2_ := (Option.bind_some _ _).symm.trans H; with_reducible exact H2_) | with_reducible exact H | (rw [hy175]; exact H) | exact H
    have Ny175 := am hy175; clear hy175; have H' := am H; clear H
    go_wp2_with (first | ((with_reducible refine gate_dst (N := 34) rfl ?_); refine Kd.R_lit k74 _ 74 ?hg (N := 34) ?hd (xs := ([] : List (S74))) (inner := []) (ok := fun _ => True) (okp := fun _ => True) ?hr ?hp (fun _ hk => hk) trivial (Below.refl _ _) (Nat.le_refl _) (by simp) ?_; (case hd => rfl); (case hg => rfl); (case hr => exact ax33); (case hp => exact ax34); intro v176 w15 ho16 hb hg_ hnew_; clear hg_ hnew_; (first | rw [← Ny175.out] at ho16 | (simp only [Int.reduceToNat] at ho16; rw [← Ny175.out] at ho16)); replace HO_3 := am (Kd.V_elder' ax67 (Kd.R_base ho16) hb); have HO177 := am (Kd.R_lower ho16 (below_size ax65)); replace BK166 := ub BK166 hb; replace HB := am (below_step ax65 hb); clear hb ho16; obtain ⟨Ao17, co17, eo17⟩ := Kd.R_slice HO177.out; subst eo17) | ((with_reducible refine gate_dst (N := 6) rfl ?_); refine bx 6 #[.slice none 0 0] 26 ?_; intro gb178 hg w18 hbox hb; replace HO_3 := am (Kd.V_below (Kd.V_elderB ax67 gb178 (Nat.le_of_eq hg.symm)) hb); replace HO177 := uR HO177 hb; have BK178 := am (hbox); have GW178 := am ((ax69 : w.heap.size ≤ gb178)); have GE178 := am ((ax69 : w.heap.size ≤ gb178)); replace HB := am (below_step ax65 hb); have NB166_178 := uN hg BK166; have NB178_166 := uM hg BK166; replace BK166 := ub BK166 hb; clear hb hbox hg; have hnb19 := NB178_166.out; have hnc19 := NB166_178.out; have hcz20_0 := bc (.slice none 0 0) BK178 0; have hfz20_0 := blk_frozen BK178.out 0))
    go_loopg [7] k1 (fun kq v7 w' => ∃ (x7_2 : Int) (x179000_2 : List (S74)) (u179000 : Value), v7 = .int .i64 x7_2 ∧ Aside0 (spec_l2Of.l2 kq l0 x3_1 x7_2 x179000_2 = some r) ∧ Aside0 (kq ≤ k1) ∧ Aside0 (Kd.V Kd.string 9 w' w.heap.size (fun k_ => some k_ ≠ (u179000 : Value).ownBlock ∧ k_ ≠ gb166 ∧ k_ ≠ gb178) u3 x3_1) ∧ Aside0 (Kd.R k74 74 w' w.heap.size (fun _ => True) u179000 x179000_2) ∧ Aside0 (w'.heap[gb166]? = some (.cells #[(.slice none 0 0)] 26 (0, 0))) ∧ Aside0 (w'.heap[gb178]? = some (.cells #[u179000] 26 (0, 0))) ∧ Aside0 (Below w.heap.size w w'))
    case atStart => exact ⟨(0), (y175), (.slice Ao17 y175.length co17), ax31, H', ⟨Nat.le_refl _⟩, ⟨(by (with_reducible repeat (first | apply Kd.V_alloc | apply Kd.V_drewN | apply Kd.V_drew)); exact Kd.V_mono (Kd.V_far (p := ⟨gb178, 0, none⟩) (Kd.V_mono HO_3.out (fun k_ hk => (⟨hk, hk.2⟩ : _ ∧ k_ ≠ gb178))) (fun _ hk => hk.2) (.slice Ao17 y175.length co17)) (fun _ hk => ⟨hk.1.1.2, ⟨hk.1.1.1, hk.1.2⟩⟩))⟩, ⟨(by (with_reducible repeat (first | apply Kd.R_alloc | apply Kd.R_drewN | apply Kd.R_drew)); exact Kd.R_mono (Kd.R_far (p := ⟨gb178, 0, none⟩) (Kd.R_types HO177.out BK178.out (by decide)) (fun _ hk => hk.2) (.slice Ao17 y175.length co17)) (fun _ hk => trivial))⟩, ⟨ax70⟩, ⟨(by (with_reducible repeat (first | refine blk_drewN ?_ _ | refine blk_drew ?_ | refine blk_alloc ?_ _)); refine blk_put (cs := #[.slice none 0 0]) ?_ 0 _ rfl; (with_reducible repeat (first | refine blk_drewN ?_ _ | refine blk_drew ?_ | refine blk_alloc ?_ _)); exact BK178.out)⟩, ⟨ax71⟩⟩
    case round =>
     clear H'; (try clear hcz20_0);(try clear hfz20_0);(try clear c5);(try clear c5b0); obtain ⟨x7_2, x179000_2, u179000, rfl, HA, HK2, HO_3, HO_179000, BK166, BK178, HB⟩ := hrel
     cases gk with
     | zero => exact absurd HA.out (by simp [spec_l2Of.l2])
     | succ k2 =>
      have H := HA.out; clear HA; simp only [spec_l2Of.l2] at H
      by_cases c21 : x7_2 < (x3_1.length : Int)
      ·rw [if_pos c21] at H
       have c21b0 := decide_eq_true c21; clear c21
       by_cases c22 : 0 ≤ x7_2
       ·rw [if_pos c22] at H
        have c22b0 := decide_eq_true c22; clear c22; obtain ⟨t180, A23, H⟩ := bs H
        by_cases c24 : x7_2 > 0
        ·rw [if_pos c24] at H
         have c24b0 := decide_eq_true c24; clear c24; obtain ⟨ji25, hji25⟩ : ∃ j_ : Int, (wrap64 (((rdOf ByteArray.empty x3_1 x7_2).size : Int) - 1)) = j_ := ⟨_, rfl⟩; (first | rw [hji25] at H | simp only [hji25] at H); (try rw [hji25] at A23); have hji25w : (IntKind.i64.wrap (((rdOf ByteArray.empty x3_1 x7_2).size : Int) - 1)) = ji25 := (i64_w _).trans hji25
         by_cases c26 : 0 ≤ (ji25)
         ·rw [if_pos c26] at H
          have c26b0 := decide_eq_true c26; clear c26
          by_cases c27 : (ji25) < ((rdOf ByteArray.empty x3_1 x7_2).size : Int)
          ·rw [if_pos c27] at H
           have c27b0 := decide_eq_true c27; clear c27; have c29b0 := eq_true (of_decide_eq_true ax26 : 0 ≤ (ji25))
           by_cases c30 : (ji25) ≤ ((rdOf ByteArray.empty x3_1 x7_2).size : Int)
           ·rw [if_pos c30] at H
            have c30b0 := eq_true c30; have c30b1 := decide_eq_true c30; clear c30; obtain ⟨js31, hjs31⟩ : ∃ j_ : ByteArray, ((rdOf ByteArray.empty x3_1 x7_2).extract 0 ((ji25) : Int).toNat) = j_ := ⟨_, rfl⟩; (first | rw [hjs31] at H | simp only [hjs31] at H); obtain ⟨t182, A32, H⟩ := bs H
            by_cases c33 : x179000_2.length < 5864062014805
            ·rw [if_pos c33] at H
             have LMc33 := am c33; clear c33; obtain ⟨y183, hy183⟩ : ∃ y_ : List (S74), y_ = (x179000_2 ++ [(⟨((bt (rdOf ByteArray.empty x3_1 x7_2) (ji25)) - 97) % 256, t182, t180⟩ : S74)]) := ⟨_, rfl⟩
             replace H : (spec_l2Of.l2 k2 l0 x3_1 (wrap64 (x7_2 + 1)) y183) = some r := by first | (rw [hy183]; with_reducible exact H) | (have H2_ := (Option.bind_some _ _).symm.trans H; rw [hy183]; with_reducible exact H2_) | (have H2_ := (Option.bind_some _ _).symm.trans H; with_reducible exact H2_) | with_reducible exact H | (rw [hy183]; exact H) | exact H
             have Ny183 := am hy183; clear hy183; have H' := am H; clear H; obtain ⟨Ao34, co34, eo34⟩ := Kd.V_slice HO_3.out; subst eo34; have p179 : 0 ≤ (x7_2 : Int) := of_decide_eq_true ax26; have q179 : x7_2 < (x3_1.length : Int) := of_decide_eq_true ax26; obtain ⟨ad179, e179, hx179_0⟩ := Kd.at_string (Kd.V_reads' HO_3.out).2.2 x7_2 p179 q179
             cases e179
             replace p179 := eq_true p179; replace q179 := eq_true q179
             go_wp2_with (first | ((with_reducible refine gd 48 114 ?_); refine gc 48 Tryz.func114 #[.slice A0 l0.length c0, .string (rdOf ByteArray.empty x3_1 x7_2)] (spec_l2Has.calls k2 _ _ l0 (rdOf ByteArray.empty x3_1 x7_2) t180 _ ax35 (HC0.out) A23.out) ?_; rintro e w' ⟨rfl, ⟨nd, rfl⟩⟩; refine ⟨_, rfl, ?_⟩; (try (rw [drewN_self wr]; generalize hq_ : World.drewN wr _ = wr; have n0_ : Aside0 (Kd.R k74 74 wr w.heap.size (fun _ => True) u179000 x179000_2) := ⟨ax72⟩; have n1_ : Aside0 (Kd.V Kd.string 9 wr w.heap.size (fun k_ => some k_ ≠ (u179000 : Value).ownBlock ∧ k_ ≠ gb166 ∧ k_ ≠ gb178) (.slice (some ad179) x3_1.length co34) x3_1) := ⟨ax73⟩; have n2_ : Aside0 (wr.heap[gb166]? = some (.cells #[.slice none 0 0] 26 (0, 0))) := ⟨ax74⟩; have n3_ : Aside0 (wr.heap[gb178]? = some (.cells #[u179000] 26 (0, 0))) := ⟨ax75⟩; have n4_ : Aside0 (Below w.heap.size w wr) := ⟨ax76⟩; clear HO_179000 HO_3 BK166 BK178 HB hq_; have HO_179000 := n0_; have HO_3 := n1_; have BK166 := n2_; have BK178 := n3_; have HB := n4_; clear n0_ n1_ n2_ n3_ n4_))) | ((with_reducible refine gate_dst (N := 9) rfl ?_); refine bx 9 #[.int .i64 0, .int .i64 0, .bool false] 74 ?_; intro gb181 hg w35 hbox hb; replace HO_3 := am (Kd.V_below (Kd.V_elderB ax67 gb181 (Nat.le_of_eq hg.symm)) hb); replace HO_179000 := am (Kd.R_below (Kd.R_elderB ax77 gb181 (Nat.le_of_eq hg.symm)) hb); have BK181 := am (hbox); have GW181 := am ((ax78 : w.heap.size ≤ gb181)); have GE181 := am ((ax78 : w.heap.size ≤ gb181)); replace HB := am (below_step ax71 hb); have NB166_181 := uN hg BK166; have NB181_166 := uM hg BK166; replace BK166 := ub BK166 hb; have NB178_181 := uN hg BK178; have NB181_178 := uM hg BK178; replace BK178 := ub BK178 hb; clear hb hbox hg; have hnb36 := NB181_166.out; have hnc36 := NB166_181.out; have hnb37 := NB181_178.out; have hnc37 := NB178_181.out; have hcz38_0 := bc (.int .i64 0) BK181 0; have hcz38_1 := bc (.int .i64 0) BK181 1; have hcz38_2 := bc (.bool false) BK181 2; have hfz38_0 := blk_frozen BK181.out 0; have hfz38_1 := blk_frozen BK181.out 1; have hfz38_2 := blk_frozen BK181.out 2) | ((with_reducible refine gate_store (t := 74) (p := 9) rfl ?_); refine store_event (t := 74) (p := 9) (v := ?vo_w39) (w1 := (((w35.setCell ⟨gb181, 0, none⟩ (.int .i64 (-1))).setCell ⟨gb181, 1, none⟩ (.int .i64 (-1))).setCell ⟨gb181, 2, none⟩ (.bool t180))) ?hg ?ho ?hn ?hr ?_; (case ho => rfl); (case hg => rfl); (case hn => rfl); (case hr => exact ax33); intro w39 hw; have n0_ : Aside0 (Kd.V Kd.string 9 w39 w.heap.size (fun k_ => some k_ ≠ (u179000 : Value).ownBlock ∧ k_ ≠ gb166 ∧ k_ ≠ gb178 ∧ k_ ≠ gb181) (.slice (some ad179) x3_1.length co34) x3_1) := ⟨(by rw [hw]; exact (by (with_reducible repeat (first | apply Kd.V_alloc | apply Kd.V_drewN | apply Kd.V_drew)); exact Kd.V_mono (Kd.V_far (p := ⟨gb181, 2, none⟩) (Kd.V_far (p := ⟨gb181, 1, none⟩) (Kd.V_far (p := ⟨gb181, 0, none⟩) (Kd.V_mono HO_3.out (fun k_ hk => (⟨hk, hk.2⟩ : _ ∧ k_ ≠ gb181))) (fun _ hk => hk.2) (.int .i64 (-1))) (fun _ hk => hk.2) (.int .i64 (-1))) (fun _ hk => hk.2) (.bool t180)) (fun _ hk => ⟨hk.1.1.1, ⟨hk.1.1.2.1, ⟨hk.1.1.2.2, hk.1.2⟩⟩⟩)))⟩; have n1_ : Aside0 (Kd.R k74 74 w39 w.heap.size (fun k_ => k_ ≠ gb181) u179000 x179000_2) := ⟨(by rw [hw]; exact ax79)⟩; have n2_ : Aside0 (w39.heap[gb166]? = some (.cells #[.slice none 0 0] 26 (0, 0))) := ⟨(by rw [hw]; exact ax80)⟩; have n3_ : Aside0 (w39.heap[gb178]? = some (.cells #[u179000] 26 (0, 0))) := ⟨(by rw [hw]; exact ax81)⟩; have n4_ : Aside0 (w39.heap[gb181]? = some (.cells #[.int .i64 (-1), .int .i64 (-1), .bool t180] 74 (0, 0))) := ⟨(by rw [hw]; exact ax82)⟩; have n5_ : Aside0 (Below w.heap.size w w39) := ⟨ax83⟩; clear hw; clear HO_3; clear HO_179000; clear BK166; clear BK178; clear BK181; clear HB; have HO_3 := n0_; have HO_179000 := n1_; have BK166 := n2_; have BK178 := n3_; have BK181 := n4_; have HB := n5_; clear n0_ n1_ n2_ n3_ n4_ n5_; have p28 : 0 ≤ ((ji25) : Int) := of_decide_eq_true ax26; have q28 : (ji25) < ((rdOf ByteArray.empty x3_1 x7_2).size : Int) := of_decide_eq_true ax26; have hx28 := bt_at (rdOf ByteArray.empty x3_1 x7_2) (ji25); replace p28 := eq_true p28; replace q28 := eq_true q28; have hcz40_0 := bc (.int .i64 (-1)) BK181 0; have hcz40_1 := bc (.int .i64 (-1)) BK181 1; have hcz40_2 := bc (.bool t180) BK181 2; have hfz40_0 := blk_frozen BK181.out 0; have hfz40_1 := blk_frozen BK181.out 1; have hfz40_2 := blk_frozen BK181.out 2) | ((with_reducible refine gate_store (t := 3) (p := 59) rfl ?_); refine store_event (t := 3) (p := 59) (v := ?vo_w41) (w1 := (w39.setCell ⟨gb181, 0, none⟩ (.int .i64 (((bt (rdOf ByteArray.empty x3_1 x7_2) (ji25)) - 97) % 256)))) ?hg ?ho ?hn ?hr ?_; (case ho => rfl); (case hg => rfl); (case hn => rfl); (case hr => exact ax33); intro w41 hw; have n0_ : Aside0 (Kd.V Kd.string 9 w41 w.heap.size (fun k_ => some k_ ≠ (u179000 : Value).ownBlock ∧ k_ ≠ gb166 ∧ k_ ≠ gb178 ∧ k_ ≠ gb181) (.slice (some ad179) x3_1.length co34) x3_1) := ⟨(by rw [hw]; exact (by (with_reducible repeat (first | apply Kd.V_alloc | apply Kd.V_drewN | apply Kd.V_drew)); exact Kd.V_mono (Kd.V_far (p := ⟨gb181, 0, none⟩) (Kd.V_mono HO_3.out (fun k_ hk => (⟨hk, hk.2.2.2⟩ : _ ∧ k_ ≠ gb181))) (fun _ hk => hk.2) (.int .i64 (((bt (rdOf ByteArray.empty x3_1 x7_2) (ji25)) - 97) % 256))) (fun _ hk => ⟨hk.1.1, ⟨hk.1.2.1, ⟨hk.1.2.2.1, hk.1.2.2.2⟩⟩⟩)))⟩; have n1_ : Aside0 (Kd.R k74 74 w41 w.heap.size (fun k_ => k_ ≠ gb181) u179000 x179000_2) := ⟨(by rw [hw]; exact (by (with_reducible repeat (first | apply Kd.R_alloc | apply Kd.R_drewN | apply Kd.R_drew)); exact Kd.R_mono (Kd.R_far (p := ⟨gb181, 0, none⟩) (Kd.R_mono HO_179000.out (fun k_ hk => (⟨hk, hk⟩ : _ ∧ k_ ≠ gb181))) (fun _ hk => hk.2) (.int .i64 (((bt (rdOf ByteArray.empty x3_1 x7_2) (ji25)) - 97) % 256))) (fun _ hk => hk.1)))⟩; have n2_ : Aside0 (w41.heap[gb166]? = some (.cells #[.slice none 0 0] 26 (0, 0))) := ⟨(by rw [hw]; exact ax84)⟩; have n3_ : Aside0 (w41.heap[gb178]? = some (.cells #[u179000] 26 (0, 0))) := ⟨(by rw [hw]; exact ax85)⟩; have n4_ : Aside0 (w41.heap[gb181]? = some (.cells #[.int .i64 (((bt (rdOf ByteArray.empty x3_1 x7_2) (ji25)) - 97) % 256), .int .i64 (-1), .bool t180] 74 (0, 0))) := ⟨(by rw [hw]; exact (by (with_reducible repeat (first | refine blk_drewN ?_ _ | refine blk_drew ?_ | refine blk_alloc ?_ _)); refine blk_put (cs := #[.int .i64 (-1), .int .i64 (-1), .bool t180]) ?_ 0 _ rfl; (with_reducible repeat (first | refine blk_drewN ?_ _ | refine blk_drew ?_ | refine blk_alloc ?_ _)); exact BK181.out))⟩; have n5_ : Aside0 (Below w.heap.size w w41) := ⟨ax83⟩; clear hw; clear HO_3; clear HO_179000; clear BK166; clear BK178; clear BK181; clear HB; have HO_3 := n0_; have HO_179000 := n1_; have BK166 := n2_; have BK178 := n3_; have BK181 := n4_; have HB := n5_; clear n0_ n1_ n2_ n3_ n4_ n5_) | ((with_reducible refine gd 66 153 ?_); refine gc 66 Tryz.func153 #[.slice (some ad179) x3_1.length co34, .string js31] (spec_l2Place.calls k2 _ _ x3_1 js31 t182 _ ax86 ((Kd.V_reads' HO_3.out).2.1) A32.out) ?_; rintro e w' ⟨rfl, ⟨nd, rfl⟩⟩; refine ⟨_, rfl, ?_⟩; (try (rw [drewN_self w41]; generalize hq_ : World.drewN w41 _ = w41; have n0_ : Aside0 (Kd.R k74 74 w41 w.heap.size (fun k_ => k_ ≠ gb181) u179000 x179000_2) := ⟨ax72⟩; have n1_ : Aside0 (Kd.V Kd.string 9 w41 w.heap.size (fun k_ => some k_ ≠ (u179000 : Value).ownBlock ∧ k_ ≠ gb166 ∧ k_ ≠ gb178 ∧ k_ ≠ gb181) (.slice (some ad179) x3_1.length co34) x3_1) := ⟨ax73⟩; have n2_ : Aside0 (w41.heap[gb166]? = some (.cells #[.slice none 0 0] 26 (0, 0))) := ⟨ax74⟩; have n3_ : Aside0 (w41.heap[gb178]? = some (.cells #[u179000] 26 (0, 0))) := ⟨ax75⟩; have n4_ : Aside0 (w41.heap[gb181]? = some (.cells #[.int .i64 (((bt (rdOf ByteArray.empty x3_1 x7_2) (ji25)) - 97) % 256), .int .i64 (-1), .bool t180] 74 (0, 0))) := ⟨(by rw [← hq_]; exact (by (with_reducible repeat (first | refine blk_drewN ?_ _ | refine blk_drew ?_ | refine blk_alloc ?_ _)); exact BK181.out))⟩; have n5_ : Aside0 (Below w.heap.size w w41) := ⟨(by rw [← hq_]; exact ax87)⟩; clear HO_179000 HO_3 BK166 BK178 BK181 HB hq_; have HO_179000 := n0_; have HO_3 := n1_; have BK166 := n2_; have BK178 := n3_; have BK181 := n4_; have HB := n5_; clear n0_ n1_ n2_ n3_ n4_ n5_)); have hcz42_0 := bc (.int .i64 (((bt (rdOf ByteArray.empty x3_1 x7_2) (ji25)) - 97) % 256)) BK181 0; have hcz42_1 := bc (.int .i64 (-1)) BK181 1; have hcz42_2 := bc (.bool t180) BK181 2; have hfz42_0 := blk_frozen BK181.out 0; have hfz42_1 := blk_frozen BK181.out 1; have hfz42_2 := blk_frozen BK181.out 2; have hnb43 := NB178_166.out; have hnc43 := NB166_178.out; have hcz44_0 := bc (u179000) BK178 0; have hfz44_0 := blk_frozen BK178.out 0) | ((with_reducible refine gate_builtin (b := .append) (xs := #[.tmp 69, .tmp 71]) rfl ?_); at_builtin; refine Kd.R_append k74 (w0 := w) w.heap.size rfl (.tmp 69) (.tmp 71) 24 74 (.agg #[(.int .i64 0), (.int .i64 0), (.bool false)]) 24 rfl Tryz.underlying24 info74 rfl (by decide) (by omega) u179000 x179000_2 (⟨((bt (rdOf ByteArray.empty x3_1 x7_2) (ji25)) - 97) % 256, t182, t180⟩ : S74) [.int .i64 (((bt (rdOf ByteArray.empty x3_1 x7_2) (ji25)) - 97) % 256), .int .i64 t182, .bool t180] (fun k_ => k_ ≠ gb181) (fun _ => False) rfl ax33 ?aP (fun _ hk => hk.elim) ?aF ?aO ?aB ?aS ?aL ?_; (case aP => exact k74_mkM _ _ _ (⟨((bt (rdOf ByteArray.empty x3_1 x7_2) (ji25)) - 97) % 256, t182, t180⟩ : S74)); (case aB => exact ax88); (case aF => exact (fun k_ hk => Kd.freshB (g := gb181) (o := .cells #[.int .i64 (((bt (rdOf ByteArray.empty x3_1 x7_2) (ji25)) - 97) % 256), .int .i64 t182, .bool t180] 74 (0, 0)) ax89 k_ hk)); (case aO => exact (by (with_reducible repeat (first | apply Kd.R_alloc | apply Kd.R_drewN | apply Kd.R_drew)); exact Kd.R_mono (Kd.R_far (p := ⟨gb181, 1, none⟩) (Kd.R_mono HO_179000.out (fun k_ hk => (⟨hk, hk⟩ : _ ∧ k_ ≠ gb181))) (fun _ hk => hk.2) (.int .i64 t182)) (fun _ hk => hk.1))); (case aS => exact ax90); (case aL => have := LMc33.out; omega); intro v184 w45 ho hb hg hat; rw [← Ny183.out] at ho; have n0_ := am (Kd.V_afterv (ok := (fun k_ => k_ ≠ gb166 ∧ k_ ≠ gb178 ∧ k_ ≠ gb181)) (by (with_reducible repeat (first | apply Kd.V_alloc | apply Kd.V_drewN | apply Kd.V_drew)); exact Kd.V_mono (Kd.V_far (p := ⟨gb181, 1, none⟩) (Kd.V_mono HO_3.out (fun k_ hk => (⟨hk, hk.2.2.2⟩ : _ ∧ k_ ≠ gb181))) (fun _ hk => hk.2) (.int .i64 t182)) (fun _ hk => ⟨⟨hk.1.2.1, ⟨hk.1.2.2.1, hk.1.2.2.2⟩⟩, hk.1.1⟩)) hg hat); have n1_ := am (blk_grown (g := gb166) (o := .cells #[.slice none 0 0] 26 (0, 0)) ax84 hg (Kd.R_ne HO_179000.out BK166.out (by decide))); have n2_ := am (blk_grown (g := gb178) (o := .cells #[u179000] 26 (0, 0)) ax85 hg (Kd.R_ne HO_179000.out BK178.out (by decide))); have n3_ := am (blk_grown (g := gb181) (o := .cells #[.int .i64 (((bt (rdOf ByteArray.empty x3_1 x7_2) (ji25)) - 97) % 256), .int .i64 t182, .bool t180] 74 (0, 0)) ax89 hg (Kd.R_away HO_179000.out (fun _ hk => hk))); have n4_ := am (hb); have n5_ := am (ho); clear HO_3; clear BK166; clear BK178; clear BK181; clear HB; clear HO_179000; have HO_3 := n0_; have BK166 := n1_; have BK178 := n2_; have BK181 := n3_; have HB := n4_; have HO185 := n5_; clear n0_ n1_ n2_ n3_ n4_ n5_; clear ho hb hg hat; obtain ⟨Ao46, co46, eo46⟩ := Kd.R_slice HO185.out; subst eo46; have hcz47_0 := bc (u179000) BK178 0; have hfz47_0 := blk_frozen BK178.out 0))
             go_roundg k2
             case measure => have := HK1.out; have := HK2.out; omega
             case rel => exact ⟨(wrap64 (x7_2 + 1)), (y183), (.slice Ao46 y183.length co46), ax31, H', ⟨ax68⟩, ⟨(by (with_reducible repeat (first | apply Kd.V_alloc | apply Kd.V_drewN | apply Kd.V_drew)); exact Kd.V_mono (Kd.V_far (p := ⟨gb178, 0, none⟩) (Kd.V_mono HO_3.out (fun k_ hk => (⟨hk, hk.1.2.1⟩ : _ ∧ k_ ≠ gb178))) (fun _ hk => hk.2) (.slice Ao46 y183.length co46)) (fun _ hk => ⟨hk.1.2, ⟨hk.1.1.1, hk.1.1.2.1⟩⟩))⟩, ⟨(by (with_reducible repeat (first | apply Kd.R_alloc | apply Kd.R_drewN | apply Kd.R_drew)); exact Kd.R_mono (Kd.R_far (p := ⟨gb178, 0, none⟩) (Kd.R_types HO185.out BK178.out (by decide)) (fun _ hk => hk.2) (.slice Ao46 y183.length co46)) (fun _ hk => trivial))⟩, ⟨ax70⟩, ⟨ax91⟩, ⟨ax87⟩⟩
            ·exact ax11
           ·rw [if_neg c30] at H
            exact absurd H (by simp)
          ·rw [if_neg c27] at H
           exact absurd H (by simp)
         ·exact ax10
        ·rw [if_neg c24] at H
         have c24b0 := decide_eq_false c24; clear c24
         by_cases c48 : x179000_2.length < 5864062014805
         ·rw [if_pos c48] at H
          have LMc48 := am c48; clear c48; obtain ⟨y186, hy186⟩ : ∃ y_ : List (S74), y_ = (x179000_2 ++ [(⟨(-1), (-1), t180⟩ : S74)]) := ⟨_, rfl⟩
          replace H : (spec_l2Of.l2 k2 l0 x3_1 (wrap64 (x7_2 + 1)) y186) = some r := by first | (rw [hy186]; with_reducible exact H) | (have H2_ := (Option.bind_some _ _).symm.trans H; rw [hy186]; with_reducible exact H2_) | (have H2_ := (Option.bind_some _ _).symm.trans H; with_reducible exact H2_) | with_reducible exact H | (rw [hy186]; exact H) | exact H
          have Ny186 := am hy186; clear hy186; have H' := am H; clear H; obtain ⟨Ao49, co49, eo49⟩ := Kd.V_slice HO_3.out; subst eo49; have p179 : 0 ≤ (x7_2 : Int) := of_decide_eq_true ax26; have q179 : x7_2 < (x3_1.length : Int) := of_decide_eq_true ax26; obtain ⟨ad179, e179, hx179_0⟩ := Kd.at_string (Kd.V_reads' HO_3.out).2.2 x7_2 p179 q179
          cases e179
          replace p179 := eq_true p179; replace q179 := eq_true q179
          go_wp2_with (first | ((with_reducible refine gd 48 114 ?_); refine gc 48 Tryz.func114 #[.slice A0 l0.length c0, .string (rdOf ByteArray.empty x3_1 x7_2)] (spec_l2Has.calls k2 _ _ l0 (rdOf ByteArray.empty x3_1 x7_2) t180 _ ax35 (HC0.out) A23.out) ?_; rintro e w' ⟨rfl, ⟨nd, rfl⟩⟩; refine ⟨_, rfl, ?_⟩; (try (rw [drewN_self wr]; generalize hq_ : World.drewN wr _ = wr; have n0_ : Aside0 (Kd.R k74 74 wr w.heap.size (fun _ => True) u179000 x179000_2) := ⟨ax72⟩; have n1_ : Aside0 (Kd.V Kd.string 9 wr w.heap.size (fun k_ => some k_ ≠ (u179000 : Value).ownBlock ∧ k_ ≠ gb166 ∧ k_ ≠ gb178) (.slice (some ad179) x3_1.length co49) x3_1) := ⟨ax73⟩; have n2_ : Aside0 (wr.heap[gb166]? = some (.cells #[.slice none 0 0] 26 (0, 0))) := ⟨ax74⟩; have n3_ : Aside0 (wr.heap[gb178]? = some (.cells #[u179000] 26 (0, 0))) := ⟨ax75⟩; have n4_ : Aside0 (Below w.heap.size w wr) := ⟨ax76⟩; clear HO_179000 HO_3 BK166 BK178 HB hq_; have HO_179000 := n0_; have HO_3 := n1_; have BK166 := n2_; have BK178 := n3_; have HB := n4_; clear n0_ n1_ n2_ n3_ n4_))) | ((with_reducible refine gate_dst (N := 9) rfl ?_); refine bx 9 #[.int .i64 0, .int .i64 0, .bool false] 74 ?_; intro gb181 hg w50 hbox hb; replace HO_3 := am (Kd.V_below (Kd.V_elderB ax67 gb181 (Nat.le_of_eq hg.symm)) hb); replace HO_179000 := am (Kd.R_below (Kd.R_elderB ax77 gb181 (Nat.le_of_eq hg.symm)) hb); have BK181 := am (hbox); have GW181 := am ((ax78 : w.heap.size ≤ gb181)); have GE181 := am ((ax78 : w.heap.size ≤ gb181)); replace HB := am (below_step ax71 hb); have NB166_181 := uN hg BK166; have NB181_166 := uM hg BK166; replace BK166 := ub BK166 hb; have NB178_181 := uN hg BK178; have NB181_178 := uM hg BK178; replace BK178 := ub BK178 hb; clear hb hbox hg; have hnb51 := NB181_166.out; have hnc51 := NB166_181.out; have hnb52 := NB181_178.out; have hnc52 := NB178_181.out; have hcz53_0 := bc (.int .i64 0) BK181 0; have hcz53_1 := bc (.int .i64 0) BK181 1; have hcz53_2 := bc (.bool false) BK181 2; have hfz53_0 := blk_frozen BK181.out 0; have hfz53_1 := blk_frozen BK181.out 1; have hfz53_2 := blk_frozen BK181.out 2; have hnb54 := NB178_166.out; have hnc54 := NB166_178.out; have hcz55_0 := bc (u179000) BK178 0; have hfz55_0 := blk_frozen BK178.out 0) | ((with_reducible refine gate_builtin (b := .append) (xs := #[.tmp 69, .tmp 71]) rfl ?_); at_builtin; refine Kd.R_append k74 (w0 := w) w.heap.size rfl (.tmp 69) (.tmp 71) 24 74 (.agg #[(.int .i64 0), (.int .i64 0), (.bool false)]) 24 rfl Tryz.underlying24 info74 rfl (by decide) (by omega) u179000 x179000_2 (⟨(-1), (-1), t180⟩ : S74) [.int .i64 (-1), .int .i64 (-1), .bool t180] (fun k_ => k_ ≠ gb181) (fun _ => False) rfl ax33 ?aP (fun _ hk => hk.elim) ?aF ?aO ?aB ?aS ?aL ?_; (case aP => exact k74_mkM _ _ _ (⟨(-1), (-1), t180⟩ : S74)); (case aB => exact ax88); (case aF => exact (fun k_ hk => Kd.freshB (g := gb181) (o := .cells #[.int .i64 (-1), .int .i64 (-1), .bool t180] 74 (0, 0)) ax82 k_ hk)); (case aO => exact ax79); (case aS => exact ax90); (case aL => have := LMc48.out; omega); intro v187 w56 ho hb hg hat; rw [← Ny186.out] at ho; have n0_ := am (Kd.V_afterv (ok := (fun k_ => k_ ≠ gb166 ∧ k_ ≠ gb178 ∧ k_ ≠ gb181)) (by (with_reducible repeat (first | apply Kd.V_alloc | apply Kd.V_drewN | apply Kd.V_drew)); exact Kd.V_mono (Kd.V_far (p := ⟨gb181, 2, none⟩) (Kd.V_far (p := ⟨gb181, 1, none⟩) (Kd.V_far (p := ⟨gb181, 0, none⟩) (Kd.V_mono HO_3.out (fun k_ hk => (⟨hk, hk.2⟩ : _ ∧ k_ ≠ gb181))) (fun _ hk => hk.2) (.int .i64 (-1))) (fun _ hk => hk.2) (.int .i64 (-1))) (fun _ hk => hk.2) (.bool t180)) (fun _ hk => ⟨⟨hk.1.1.2.1, ⟨hk.1.1.2.2, hk.1.2⟩⟩, hk.1.1.1⟩)) hg hat); have n1_ := am (blk_grown (g := gb166) (o := .cells #[.slice none 0 0] 26 (0, 0)) ax80 hg (Kd.R_ne HO_179000.out BK166.out (by decide))); have n2_ := am (blk_grown (g := gb178) (o := .cells #[u179000] 26 (0, 0)) ax81 hg (Kd.R_ne HO_179000.out BK178.out (by decide))); have n3_ := am (blk_grown (g := gb181) (o := .cells #[.int .i64 (-1), .int .i64 (-1), .bool t180] 74 (0, 0)) ax82 hg (Kd.R_away HO_179000.out (fun _ hk => hk.2))); have n4_ := am (hb); have n5_ := am (ho); clear HO_3; clear BK166; clear BK178; clear BK181; clear HB; clear HO_179000; have HO_3 := n0_; have BK166 := n1_; have BK178 := n2_; have BK181 := n3_; have HB := n4_; have HO188 := n5_; clear n0_ n1_ n2_ n3_ n4_ n5_; clear ho hb hg hat; obtain ⟨Ao57, co57, eo57⟩ := Kd.R_slice HO188.out; subst eo57; have hcz58_0 := bc (u179000) BK178 0; have hfz58_0 := blk_frozen BK178.out 0))
          go_roundg k2
          case measure => have := HK1.out; have := HK2.out; omega
          case rel => exact ⟨(wrap64 (x7_2 + 1)), (y186), (.slice Ao57 y186.length co57), ax31, H', ⟨ax68⟩, ⟨(by (with_reducible repeat (first | apply Kd.V_alloc | apply Kd.V_drewN | apply Kd.V_drew)); exact Kd.V_mono (Kd.V_far (p := ⟨gb178, 0, none⟩) (Kd.V_mono HO_3.out (fun k_ hk => (⟨hk, hk.1.2.1⟩ : _ ∧ k_ ≠ gb178))) (fun _ hk => hk.2) (.slice Ao57 y186.length co57)) (fun _ hk => ⟨hk.1.2, ⟨hk.1.1.1, hk.1.1.2.1⟩⟩))⟩, ⟨(by (with_reducible repeat (first | apply Kd.R_alloc | apply Kd.R_drewN | apply Kd.R_drew)); exact Kd.R_mono (Kd.R_far (p := ⟨gb178, 0, none⟩) (Kd.R_types HO188.out BK178.out (by decide)) (fun _ hk => hk.2) (.slice Ao57 y186.length co57)) (fun _ hk => trivial))⟩, ⟨ax70⟩, ⟨ax91⟩, ⟨ax87⟩⟩
         ·rw [if_neg c48] at H
          exact absurd H (by simp)
       ·rw [if_neg c22] at H
        exact absurd H (by simp)
      ·rw [if_neg c21] at H
       have c21b0 := decide_eq_false c21; clear c21; obtain rfl := Option.some.inj H; obtain ⟨Ao59, co59, eo59⟩ := Kd.V_slice HO_3.out; subst eo59; have hnb60 := NB178_166.out; have hnc60 := NB166_178.out; have hcz61_0 := bc (u179000) BK178 0; have hfz61_0 := blk_frozen BK178.out 0; obtain ⟨Ao62, co62, eo62⟩ := Kd.R_slice HO_179000.out; subst eo62; have hcz63_0 := bc (.slice none 0 0) BK166 0; have hfz63_0 := blk_frozen BK166.out 0
       go_wp2
       refine bodyPost_ret (results_cell_row rfl _ _ gb166 26 #[.slice Ao62 x179000_2.length co62] (0, 0) _ rfl (by (with_reducible repeat (first | refine blk_drewN ?_ _ | refine blk_drew ?_ | refine blk_alloc ?_ _)); refine blk_put (cs := #[.slice none 0 0]) ?_ 0 _ rfl; (with_reducible repeat (first | refine blk_drewN ?_ _ | refine blk_drew ?_ | refine blk_alloc ?_ _)); exact BK166.out) Tryz.underlying26 rfl (by kernel_rfl)) rfl ?_
       exact ⟨_, ax27, (by (with_reducible repeat (first | apply Kd.R_alloc | apply Kd.R_drewN | apply Kd.R_drew)); exact Kd.R_mono (Kd.R_far (p := ⟨gb166, 0, none⟩) (Kd.R_types HO_179000.out BK166.out (by decide)) (fun _ hk => hk.2) (.slice Ao62 x179000_2.length co62)) (fun _ hk => trivial)), ax71⟩

/-! ### spec_l1Cur_of: function 121 -/
def spec_l1Cur_of.f (s0_0 : List Int) (s0_1 : Int) (s0_2 : Int) (l1 : List ByteArray) : Option (ByteArray × Int × Int) := (spec_l1Cur_pick.f s0_0 s0_1 s0_2 (l1.length : Int)).bind fun bt189 => (if 0 ≤ bt189.1 then (if bt189.1 < (l1.length : Int) then (some (rdOf ByteArray.empty l1 bt189.1, bt189.2.1, bt189.2.2)) else (none)) else (none))
set_option maxHeartbeats 8000000 in
set_option maxRecDepth 100000 in
theorem spec_l1Cur_of.calls (g : Nat) (s0_0 : List Int) (s0_1 : Int) (s0_2 : Int) (A1 : Option Addr) (c1 : Nat) (l1 : List ByteArray) (r1 : ByteArray) (r2 : Int) (r3 : Int) (w0 w : World) (hI : IsS82 w0 w g s0_0 s0_1 s0_2) (hB : Below w0.heap.size w0 w) (hr1 : Kd.C Kd.string w A1 l1.length l1) (hc1 : l1.length ≤ c1) (hf1 : ∀ ad, A1 = some ad → 0 < l1.length → ad.block ≠ g) (h : spec_l1Cur_of.f s0_0 s0_1 s0_2 l1 = some (r1, r2, r3)) :
  Calls Tryz.prog 121 #[.pointer (some ⟨g, 0, none⟩), .slice A1 l1.length c1] w fun e w' => e = .returned (.string r1) ∧ IsS82 w0 w' g s0_0 r2 r3 ∧ Below w0.heap.size w0 w' ∧ KeepBut w w' g none := by
 have HR1 := am hr1; have HC1 := am hc1; clear hr1 hc1; have HI0 := am hI; have HK := am (KeepBut.refl w g none); have HL := am hB.size; clear hI; have HW0 := am hB.size; have HB := am hB; clear hB
 unfold spec_l1Cur_of.f at h
 have H := h; clear h; obtain ⟨⟨t189, t190, t191⟩, A3, H⟩ := bs H
 by_cases c4 : 0 ≤ t189
 ·rw [if_pos c4] at H
  have c4b0 := decide_eq_true c4; clear c4
  by_cases c5 : t189 < (l1.length : Int)
  ·rw [if_pos c5] at H
   have c5b0 := decide_eq_true c5; clear c5; simp only [Option.some.injEq, Prod.mk.injEq] at H; obtain ⟨rfl, rfl, rfl⟩ := H
   go_enter Tryz.func121, Tryz.ntmps121
   go_wp2_with (first | ((with_reducible refine gd 9 127 ?_); refine gc 9 Tryz.func127 #[.pointer (some ⟨g, 0, none⟩), .int .i64 (l1.length : Int)] (spec_l1Cur_pick.calls g s0_0 s0_1 s0_2 (l1.length : Int) t189 t190 t191 w0 _ ax28 ax29 A3.out) ?_; rintro e w6 ⟨rfl, hi, hb, hk⟩; refine ⟨_, rfl, ?_⟩; replace HK := am (KeepBut.trans ax30 hk (.inl rfl)); replace HB := am (hb); replace HI0 := am (hi); (try clear hb hk hi); have p192 : 0 ≤ (t189 : Int) := of_decide_eq_true ax26; have q192 : t189 < (l1.length : Int) := of_decide_eq_true ax26; obtain ⟨ad192, e192, hx192_0⟩ := Kd.at_string HR1.out t189 p192 q192; cases e192; replace hx192_0 := keep_cell HK.out hx192_0 (by first | (rw [add_block]; exact hf1 _ rfl (by omega)) | exact hf1 _ rfl (by omega) | exact hf1 ad192 rfl (by omega)); replace p192 := eq_true p192; replace q192 := eq_true q192))
   go_ret
   exact ⟨ax27, ax28, ax29, ax30⟩
  ·exact ax12
 ·exact ax1
/-! ### spec_l1Cur_among: function 186 -/
def spec_l1Cur_among.f (s0_0 : List Int) (s0_1 : Int) (s0_2 : Int) (l1 : List Int) : Option (Int × Int × Int) := (spec_l1Cur_pick.f s0_0 s0_1 s0_2 (l1.length : Int)).bind fun bt193 => (if 0 ≤ bt193.1 then (if bt193.1 < (l1.length : Int) then (some (rd l1 bt193.1, bt193.2.1, bt193.2.2)) else (none)) else (none))
set_option maxHeartbeats 8000000 in
set_option maxRecDepth 100000 in
theorem spec_l1Cur_among.calls (g : Nat) (s0_0 : List Int) (s0_1 : Int) (s0_2 : Int) (A1 : Option Addr) (c1 : Nat) (l1 : List Int) (r1 : Int) (r2 : Int) (r3 : Int) (w0 w : World) (hI : IsS82 w0 w g s0_0 s0_1 s0_2) (hB : Below w0.heap.size w0 w) (hr1 : Kd.C (Kd.int .i64) w A1 l1.length l1) (hc1 : l1.length ≤ c1) (hf1 : ∀ ad, A1 = some ad → 0 < l1.length → ad.block ≠ g) (h : spec_l1Cur_among.f s0_0 s0_1 s0_2 l1 = some (r1, r2, r3)) :
  Calls Tryz.prog 186 #[.pointer (some ⟨g, 0, none⟩), .slice A1 l1.length c1] w fun e w' => e = .returned (.int .i64 r1) ∧ IsS82 w0 w' g s0_0 r2 r3 ∧ Below w0.heap.size w0 w' ∧ KeepBut w w' g none := by
 have HR1 := am hr1; have HC1 := am hc1; clear hr1 hc1; have HI0 := am hI; have HK := am (KeepBut.refl w g none); have HL := am hB.size; clear hI; have HW0 := am hB.size; have HB := am hB; clear hB
 unfold spec_l1Cur_among.f at h
 have H := h; clear h; obtain ⟨⟨t193, t194, t195⟩, A3, H⟩ := bs H
 by_cases c4 : 0 ≤ t193
 ·rw [if_pos c4] at H
  have c4b0 := decide_eq_true c4; clear c4
  by_cases c5 : t193 < (l1.length : Int)
  ·rw [if_pos c5] at H
   have c5b0 := decide_eq_true c5; clear c5; simp only [Option.some.injEq, Prod.mk.injEq] at H; obtain ⟨rfl, rfl, rfl⟩ := H
   go_enter Tryz.func186, Tryz.ntmps186
   go_wp2_with (first | ((with_reducible refine gd 9 127 ?_); refine gc 9 Tryz.func127 #[.pointer (some ⟨g, 0, none⟩), .int .i64 (l1.length : Int)] (spec_l1Cur_pick.calls g s0_0 s0_1 s0_2 (l1.length : Int) t193 t194 t195 w0 _ ax28 ax29 A3.out) ?_; rintro e w6 ⟨rfl, hi, hb, hk⟩; refine ⟨_, rfl, ?_⟩; replace HK := am (KeepBut.trans ax30 hk (.inl rfl)); replace HB := am (hb); replace HI0 := am (hi); (try clear hb hk hi); have p196 : 0 ≤ (t193 : Int) := of_decide_eq_true ax26; have q196 : t193 < (l1.length : Int) := of_decide_eq_true ax26; obtain ⟨ad196, e196, hx196_0⟩ := Kd.at_int HR1.out t193 p196 q196; cases e196; replace hx196_0 := keep_cell HK.out hx196_0 (by first | (rw [add_block]; exact hf1 _ rfl (by omega)) | exact hf1 _ rfl (by omega) | exact hf1 ad196 rfl (by omega)); replace p196 := eq_true p196; replace q196 := eq_true q196))
   go_ret
   exact ⟨ax27, ax28, ax29, ax30⟩
  ·exact ax12
 ·exact ax1
end Go.Proofs.YtcplbbflfgckbaaGreatDoor.X


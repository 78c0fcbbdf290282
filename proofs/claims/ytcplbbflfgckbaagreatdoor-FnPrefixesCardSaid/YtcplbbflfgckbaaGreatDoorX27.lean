-- By gen.py (the session's own program over the kit's printer): functions of the program, each with its contract. Lean checks it.
import Derived.Test.YtcplbbflfgckbaaGreatDoorX0
import Derived.Test.YtcplbbflfgckbaaGreatDoorX2
import Derived.Test.YtcplbbflfgckbaaGreatDoorX6
import Derived.Test.YtcplbbflfgckbaaGreatDoorX8
import Derived.Test.YtcplbbflfgckbaaGreatDoorX9
import Derived.Test.YtcplbbflfgckbaaGreatDoorX15
import Derived.Test.YtcplbbflfgckbaaGreatDoorX16
namespace Go.Proofs.YtcplbbflfgckbaaGreatDoor.X
open Go.RowKit Go.Proofs.YtcplbbflfgckbaaGreatDoorW.PrintWords Go.Proofs.YtcplbbflfgckbaaGreatDoorW.PrintLast Go.Proofs.YtcplbbflfgckbaaGreatDoorW.PrintMore
attribute [local go_sem] max2_int min2_int max_two min_two max_three min_three max_four min_four   -- for this text's walks alone
set_option linter.unusedVariables false
set_option linter.unusedSimpArgs false

/-! ### spec_l3Under: function 118 -/
def spec_l3Under.l0 : Nat → List ByteArray → ByteArray → List ByteArray → Int → Option (List ByteArray)
 | 0, _, _, _, _ => none
 | k + 1, x0, x1, x5, x6 => if x6 < (x0.length : Int) then (if 0 ≤ x6 then ((spec_l2Begins.f (rdOf ByteArray.empty x0 x6) x1).bind fun t511 => (if t511 = true then (if x5.length < 8796093022208 then (spec_l3Under.l0 k x0 x1 (x5 ++ [rdOf ByteArray.empty x0 x6]) (wrap64 (x6 + 1))) else (none)) else (spec_l3Under.l0 k x0 x1 x5 (wrap64 (x6 + 1))))) else (none)) else (some x5)
def spec_l3Under.f (k : Nat) (l0 : List ByteArray) (a1 : ByteArray) : Option (List ByteArray) := spec_l3Under.l0 k l0 a1 (([] : List ByteArray)) 0
theorem spec_l3Under.mono_l : ∀ k, (∀ y0 y1 y2 y3, LeO (spec_l3Under.l0 k y0 y1 y2 y3) (spec_l3Under.l0 (k + 1) y0 y1 y2 y3))
 | 0 => fun _ _ _ _ r h => by simp [spec_l3Under.l0] at h
 | k + 1 => by
  have ih0 := spec_l3Under.mono_l k
  ·intro y0 y1 y2 y3
   unfold spec_l3Under.l0
   repeat' first | (with_reducible first | exact ih0 .. | exact LeO.refl _ | exact LeO.none _ | refine LeO.ite ?_ ?_ | refine LeO.bind ?_ (fun _ => ?_)) | exact ih0 .. | exact LeO.none _ | refine LeO.ite ?_ ?_ | refine LeO.bind ?_ (fun _ => ?_)
theorem spec_l3Under.mono : ∀ a0 a1 k, LeO (spec_l3Under.f k a0 a1) (spec_l3Under.f (k + 1) a0 a1) := by
 intro a0 a1 k
 have ih0 := spec_l3Under.mono_l k
 unfold spec_l3Under.f
 repeat' first | (with_reducible first | exact ih0 .. | exact LeO.refl _ | exact LeO.none _ | refine LeO.ite ?_ ?_ | refine LeO.bind ?_ (fun _ => ?_)) | exact ih0 .. | exact LeO.none _ | refine LeO.ite ?_ ?_ | refine LeO.bind ?_ (fun _ => ?_)
set_option maxHeartbeats 8000000 in
set_option maxRecDepth 100000 in
theorem spec_l3Under.calls (k : Nat) (A0 : Option Addr) (c0 : Nat) (l0 : List ByteArray) (a1 : ByteArray) (r : List ByteArray) (w : World) (hr0 : Kd.C Kd.string w A0 l0.length l0) (hc0 : l0.length ≤ c0) (h : spec_l3Under.f k l0 a1 = some r) :
  Calls Tryz.prog 118 #[.slice A0 l0.length c0, .string a1] w fun e w' => ∃ v0_ : Value, e = .returned (v0_) ∧ Kd.R Kd.string 9 w' w.heap.size (fun _ => True) v0_ r ∧ Below w.heap.size w w' := by
 have HR0 := Aside0.mk hr0; have HC0 := Aside0.mk hc0; clear hr0 hc0; have HB := Aside0.mk (Below.refl w.heap.size w)
 have H : (spec_l3Under.l0 k l0 a1 (([] : List ByteArray)) 0) = some r := h
 clear h
 obtain ⟨y507, hy507⟩ : ∃ y_ : List ByteArray, y_ = (([] : List ByteArray)) := ⟨_, rfl⟩
 replace H : (spec_l3Under.l0 k l0 a1 y507 0) = some r := by first | (rw [hy507]; with_reducible exact H) | (have H2_ := (Option.bind_some _ _).symm.trans H; rw [hy507]; with_reducible exact H2_) | (have H2_ := (Option.bind_some _ _).symm.trans H; with_reducible exact H2_) | with_reducible exact H | (rw [hy507]; exact H) | exact H
 have Ny507 := Aside0.mk hy507; clear hy507
 have H' := Aside0.mk H
 clear H
 go_enter Tryz.func118, Tryz.ntmps118
 go_wp2_with (first | ((with_reducible refine gate_dst (N := 7) rfl ?_); refine Kd.R_lit Kd.string _ 9 ?hg (N := 7) ?hd (xs := ([] : List ByteArray)) (inner := []) (ok := fun _ => True) (okp := fun _ => True) ?hr ?hp (fun _ hk => hk) trivial (Below.refl _ _) (Nat.le_refl _) (by simp) ?_; (case hd => rfl); (case hg => rfl); (case hr => exact ax31); (case hp => exact ax32); intro v508 w3 ho4 hb hg_ hnew_; clear hg_ hnew_; (first | rw [← Ny507.out] at ho4 | (simp only [Int.reduceToNat] at ho4; rw [← Ny507.out] at ho4)); have HO509 := uL ho4 HB; replace HB := uB HB hb; clear hb ho4))
 go_loopg [5, 6] k (fun kq v5 v6 w' => ∃ (x5_1 : List ByteArray) (x6_1 : Int), v6 = .int .i64 x6_1 ∧ Aside0 (spec_l3Under.l0 kq l0 a1 x5_1 x6_1 = some r) ∧ Aside0 (kq ≤ k) ∧ Aside0 (Kd.R Kd.string 9 w' w.heap.size (fun _ => True) v5 x5_1) ∧ Aside0 (Below w.heap.size w w'))
 case atStart => exact ⟨(y507), (0), ax30, H', ⟨Nat.le_refl _⟩, ⟨(by (with_reducible repeat (first | apply Kd.R_alloc | apply Kd.R_drewN | apply Kd.R_drew)); exact HO509.out)⟩, ⟨ax38⟩⟩
 case round =>
  clear H'
  obtain ⟨x5_1, x6_1, rfl, HA, HK1, HO_5, HB⟩ := hrel
  cases gk with
  | zero => exact absurd HA.out (by simp [spec_l3Under.l0])
  | succ k1 =>
   have H := HA.out; clear HA
   simp only [spec_l3Under.l0] at H
   by_cases c5 : x6_1 < (l0.length : Int)
   ·rw [if_pos c5] at H
    have c5b0 : decide (x6_1 < (l0.length : Int)) = true := decide_eq_true c5
    clear c5
    by_cases c6 : 0 ≤ x6_1
    ·rw [if_pos c6] at H
     have c6b0 : decide (0 ≤ x6_1) = true := decide_eq_true c6
     clear c6
     obtain ⟨t511, A7, H⟩ := bs H
     by_cases c8 : t511 = true
     ·subst c8
      rw [if_pos rfl] at H
      by_cases c9 : x5_1.length < 8796093022208
      ·rw [if_pos c9] at H
       have LMc9 := Aside0.mk c9; clear c9
       obtain ⟨y513, hy513⟩ : ∃ y_ : List ByteArray, y_ = (x5_1 ++ [rdOf ByteArray.empty l0 x6_1]) := ⟨_, rfl⟩
       replace H : (spec_l3Under.l0 k1 l0 a1 y513 (wrap64 (x6_1 + 1))) = some r := by first | (rw [hy513]; with_reducible exact H) | (have H2_ := (Option.bind_some _ _).symm.trans H; rw [hy513]; with_reducible exact H2_) | (have H2_ := (Option.bind_some _ _).symm.trans H; with_reducible exact H2_) | with_reducible exact H | (rw [hy513]; exact H) | exact H
       have Ny513 := Aside0.mk hy513; clear hy513
       have H' := Aside0.mk H
       clear H
       have p510 : 0 ≤ (x6_1 : Int) := of_decide_eq_true ax25
       have q510 : x6_1 < (l0.length : Int) := of_decide_eq_true ax25
       obtain ⟨ad510, e510, hx510_0⟩ := Kd.at_string HR0.out x6_1 p510 q510
       cases e510; replace hx510_0 := (HB.out.cell (World.block_lt_of_cell? w _ hx510_0)).trans hx510_0; replace p510 := eq_true p510; replace q510 := eq_true q510
       go_wp2_with (first | ((with_reducible refine gd 19 194 ?_); refine gc 19 Tryz.func194 #[.string (rdOf ByteArray.empty l0 x6_1), .string a1] (spec_l2Begins.calls (rdOf ByteArray.empty l0 x6_1) a1 true _ A7.out) ?_; rintro e w' ⟨rfl, ⟨nd, rfl⟩⟩; refine ⟨_, rfl, ?_⟩; have p512 : 0 ≤ (x6_1 : Int) := of_decide_eq_true ax25; have q512 : x6_1 < (l0.length : Int) := of_decide_eq_true ax25; obtain ⟨ad512, e512, hx512_0⟩ := Kd.at_string HR0.out x6_1 p512 q512; obtain rfl : ad510 = ad512 := (by injection e512); replace hx512_0 := (HB.out.cell (World.block_lt_of_cell? w _ hx512_0)).trans hx512_0; replace p512 := eq_true p512; replace q512 := eq_true q512) | ((with_reducible refine gate_builtin (b := .append) (xs := #[.tmp 20, .tmp 25]) rfl ?_); at_builtin; refine Kd.R_append Kd.string (w0 := w) w.heap.size rfl (.tmp 20) (.tmp 25) 31 9 (.string ⟨#[]⟩) 16 rfl Tryz.underlying31 info9 rfl (by decide) (by omega) u5 x5_1 (rdOf ByteArray.empty l0 x6_1) [.string (rdOf ByteArray.empty l0 x6_1)] (fun _ => True) (fun _ => False) rfl rfl ?aP (fun _ hk => hk.elim) ?aF ?aO ?aB ?aS ?aL ?_; (case aP => exact rfl); (case aB => exact ax34); (case aF => exact ax35); (case aO => exact ax237); (case aS => exact ax36); (case aL => have := LMc9.out; omega); intro v514 w10 ho hb hg hat; rw [← Ny513.out] at ho; have n0_ := Aside0.mk (hb); have n1_ := Aside0.mk (ho); clear HB; clear HO_5; have HB := n0_; have HO515 := n1_; clear n0_ n1_; clear ho hb hg hat))
       go_roundg k1
       case measure => have := HK1.out; omega
       case rel => exact ⟨(y513), (wrap64 (x6_1 + 1)), ax30, H', ⟨by have := HK1.out; omega⟩, ⟨(by (with_reducible repeat (first | apply Kd.R_alloc | apply Kd.R_drewN | apply Kd.R_drew)); exact HO515.out)⟩, ⟨ax38⟩⟩
      ·exact ax2
     ·replace c8 := Bool.eq_false_iff.mpr c8
      subst c8
      rw [if_neg (show ¬ (false = true) by decide)] at H
      have H' := Aside0.mk H
      clear H
      have p510 : 0 ≤ (x6_1 : Int) := of_decide_eq_true ax25
      have q510 : x6_1 < (l0.length : Int) := of_decide_eq_true ax25
      obtain ⟨ad510, e510, hx510_0⟩ := Kd.at_string HR0.out x6_1 p510 q510
      cases e510; replace hx510_0 := (HB.out.cell (World.block_lt_of_cell? w _ hx510_0)).trans hx510_0; replace p510 := eq_true p510; replace q510 := eq_true q510
      go_wp2_with (first | ((with_reducible refine gd 19 194 ?_); refine gc 19 Tryz.func194 #[.string (rdOf ByteArray.empty l0 x6_1), .string a1] (spec_l2Begins.calls (rdOf ByteArray.empty l0 x6_1) a1 false _ A7.out) ?_; rintro e w' ⟨rfl, ⟨nd, rfl⟩⟩; refine ⟨_, rfl, ?_⟩))
      go_roundg k1
      case measure => have := HK1.out; omega
      case rel => exact ⟨(x5_1), (wrap64 (x6_1 + 1)), ax30, H', ⟨by have := HK1.out; omega⟩, ⟨ax238⟩, ⟨ax38⟩⟩
    ·exact ax4
   ·rw [if_neg c5] at H
    have c5b0 : decide (x6_1 < (l0.length : Int)) = false := decide_eq_false c5
    clear c5
    obtain rfl := Option.some.inj H
    go_wp2
    go_ret
    exact ⟨_, by first | rfl | (simp [errW_none, errW_some] <;> rfl) | (simp [*, errW_none, errW_some] <;> rfl), by (with_reducible repeat (first | apply Kd.R_alloc | apply Kd.R_drewN | apply Kd.R_drew)); exact HO_5.out, by repeat (first | (with_reducible first | exact HB.out | apply below_alloc | apply pw_below_drewN | apply below_drew1) | exact HB.out)⟩

/-! ### spec_l3Unique: function 116 -/
def spec_l3Unique.l0 : Nat → List ByteArray → ByteArray → Int → Option (ByteArray)
 | 0, _, _, _ => none
 | k + 1, x0, x1, x5 => if x5 < (x1.size : Int) then (if 0 ≤ x5 then (if x5 ≤ (x1.size : Int) then ((spec_l3Under.f k x0 (x1.extract 0 (x5 : Int).toNat)).bind fun t516 => (if (t516.length : Int) = 1 then (some (x1.extract 0 (x5 : Int).toNat)) else (spec_l3Unique.l0 k x0 x1 (wrap64 (x5 + 1))))) else (none)) else (none)) else (some x1)
def spec_l3Unique.f (k : Nat) (l0 : List ByteArray) (a1 : ByteArray) : Option (ByteArray) := spec_l3Unique.l0 k l0 a1 0
theorem spec_l3Unique.mono_l : ∀ k, (∀ y0 y1 y2, LeO (spec_l3Unique.l0 k y0 y1 y2) (spec_l3Unique.l0 (k + 1) y0 y1 y2))
 | 0 => fun _ _ _ r h => by simp [spec_l3Unique.l0] at h
 | k + 1 => by
  have ih0 := spec_l3Unique.mono_l k
  ·intro y0 y1 y2
   unfold spec_l3Unique.l0
   repeat' first | (with_reducible first | exact ih0 .. | exact spec_l3Under.mono .. | exact LeO.refl _ | exact LeO.none _ | refine LeO.ite ?_ ?_ | refine LeO.bind ?_ (fun _ => ?_)) | exact ih0 .. | exact spec_l3Under.mono .. | exact LeO.none _ | refine LeO.ite ?_ ?_ | refine LeO.bind ?_ (fun _ => ?_)
theorem spec_l3Unique.mono : ∀ a0 a1 k, LeO (spec_l3Unique.f k a0 a1) (spec_l3Unique.f (k + 1) a0 a1) := by
 intro a0 a1 k
 have ih0 := spec_l3Unique.mono_l k
 unfold spec_l3Unique.f
 repeat' first | (with_reducible first | exact ih0 .. | exact spec_l3Under.mono .. | exact LeO.refl _ | exact LeO.none _ | refine LeO.ite ?_ ?_ | refine LeO.bind ?_ (fun _ => ?_)) | exact ih0 .. | exact spec_l3Under.mono .. | exact LeO.none _ | refine LeO.ite ?_ ?_ | refine LeO.bind ?_ (fun _ => ?_)
set_option maxHeartbeats 8000000 in
set_option maxRecDepth 100000 in
theorem spec_l3Unique.calls (k : Nat) (A0 : Option Addr) (c0 : Nat) (l0 : List ByteArray) (a1 : ByteArray) (r : ByteArray) (w : World) (hr0 : Kd.C Kd.string w A0 l0.length l0) (hc0 : l0.length ≤ c0) (h : spec_l3Unique.f k l0 a1 = some r) :
  Calls Tryz.prog 116 #[.slice A0 l0.length c0, .string a1] w fun e w' => e = .returned (.string r) ∧ Below w.heap.size w w' := by
 have HR0 := Aside0.mk hr0; have HC0 := Aside0.mk hc0; clear hr0 hc0; have HB := Aside0.mk (Below.refl w.heap.size w)
 have H : (spec_l3Unique.l0 k l0 a1 0) = some r := h
 clear h
 have H' := Aside0.mk H
 clear H
 go_enter Tryz.func116, Tryz.ntmps116
 go_wp2
 go_loopg [5] k (fun kq v5 w' => ∃ (x5_1 : Int), v5 = .int .i64 x5_1 ∧ Aside0 (spec_l3Unique.l0 kq l0 a1 x5_1 = some r) ∧ Aside0 (kq ≤ k) ∧ Aside0 (Below w.heap.size w w'))
 case atStart => exact ⟨(0), ax30, H', ⟨Nat.le_refl _⟩, ⟨ax38⟩⟩
 case round =>
  clear H'
  obtain ⟨x5_1, rfl, HA, HK1, HB⟩ := hrel
  cases gk with
  | zero => exact absurd HA.out (by simp [spec_l3Unique.l0])
  | succ k1 =>
   have H := HA.out; clear HA
   simp only [spec_l3Unique.l0] at H
   by_cases c3 : x5_1 < (a1.size : Int)
   ·rw [if_pos c3] at H
    have c3b0 : decide (x5_1 < (a1.size : Int)) = true := decide_eq_true c3
    clear c3
    by_cases c4 : 0 ≤ x5_1
    ·rw [if_pos c4] at H
     have c4b0 := eq_true c4
     have c4b1 : decide (0 ≤ x5_1) = true := decide_eq_true c4
     clear c4
     by_cases c5 : x5_1 ≤ (a1.size : Int)
     ·rw [if_pos c5] at H
      have c5b0 := eq_true c5
      have c5b1 : decide (x5_1 ≤ (a1.size : Int)) = true := decide_eq_true c5
      clear c5
      obtain ⟨js6, hjs6⟩ : ∃ j_ : ByteArray, (a1.extract 0 (x5_1 : Int).toNat) = j_ := ⟨_, rfl⟩
      replace H : ((spec_l3Under.f k1 l0 js6).bind fun t516 => (if (t516.length : Int) = 1 then (some js6) else (spec_l3Unique.l0 k1 l0 a1 (wrap64 (x5_1 + 1))))) = some r := by first | (rw [hjs6] at H; exact H) | (simp only [hjs6] at H ⊢; exact H)
      obtain ⟨t516, A7, H⟩ := bs H
      by_cases c8 : (t516.length : Int) = 1
      ·rw [if_pos c8] at H
       have c8b0 : ((t516.length : Int) == 1) = true := beq_iff_eq.mpr c8
       have c8b1 : ((t516.length : Int) != 1) = false := bne_eq_false_iff_eq.mpr c8
       clear c8; have c9b0 := eq_true (of_decide_eq_true ax25 : 0 ≤ x5_1); have c10b0 := eq_true (of_decide_eq_true ax25 : x5_1 ≤ (a1.size : Int))
       obtain rfl := Option.some.inj H
       go_wp2_with (first | ((with_reducible refine gd 16 118 ?_); refine gc 16 Tryz.func118 #[.slice A0 l0.length c0, .string js6] (spec_l3Under.calls k1 _ _ l0 js6 t516 _ ax33 (HC0.out) A7.out) ?_; rintro e w11 ⟨v517, rfl, ho0, hb⟩; refine ⟨_, rfl, ?_⟩; have HO518 := uL ho0 HB; replace HB := uB HB hb; (try clear hb); (try clear hb2); (try clear hk); (try clear hi); (try clear ho0); obtain ⟨Ao12, co12, eo12⟩ := Kd.R_slice HO518.out; subst eo12))
       go_ret
       exact ⟨(by first | rfl | (simp [errW_none, errW_some] <;> rfl) | (simp only [← hjs6]; first | rfl | (simp [errW_none, errW_some] <;> rfl)) | (simp [*, errW_none, errW_some] <;> rfl)), by repeat (first | (with_reducible first | exact HB.out | apply below_alloc | apply pw_below_drewN | apply below_drew1) | exact HB.out)⟩
      ·rw [if_neg c8] at H
       have c8b0 : ((t516.length : Int) == 1) = false := beq_eq_false_iff_ne.mpr c8
       have c8b1 : ((t516.length : Int) != 1) = true := bne_iff_ne.mpr c8
       have H' := Aside0.mk H
       clear H
       go_wp2_with (first | ((with_reducible refine gd 16 118 ?_); refine gc 16 Tryz.func118 #[.slice A0 l0.length c0, .string js6] (spec_l3Under.calls k1 _ _ l0 js6 t516 _ ax33 (HC0.out) A7.out) ?_; rintro e w13 ⟨v517, rfl, ho0, hb⟩; refine ⟨_, rfl, ?_⟩; have HO518 := uL ho0 HB; replace HB := uB HB hb; (try clear hb); (try clear hb2); (try clear hk); (try clear hi); (try clear ho0); obtain ⟨Ao14, co14, eo14⟩ := Kd.R_slice HO518.out; subst eo14))
       go_roundg k1
       case measure => have := HK1.out; omega
       case rel => exact ⟨(wrap64 (x5_1 + 1)), ax30, H', ⟨by have := HK1.out; omega⟩, ⟨ax38⟩⟩
     ·exact ax11
    ·exact ax1
   ·rw [if_neg c3] at H
    have c3b0 : decide (x5_1 < (a1.size : Int)) = false := decide_eq_false c3
    clear c3
    obtain rfl := Option.some.inj H
    go_wp2
    go_ret
    exact ⟨ax26, by repeat (first | (with_reducible first | exact HB.out | apply below_alloc | apply pw_below_drewN | apply below_drew1) | exact HB.out)⟩

/-! ### spec_UniquePrefix: function 12 -/
def spec_UniquePrefix.j0 : Nat → ByteArray → Bool → List (S74) → Option (ByteArray × Bool)
 | 0, _, _, _ => none
 | k + 1, x1, x15, x520000 => if x15 = true then (some ((⟨#[]⟩ : ByteArray), false)) else ((spec_l2Words.f k x520000).bind fun t525 => ((spec_l3Unique.f k t525 x1).bind fun t528 => (some (t528, true))))
def spec_UniquePrefix.f (k : Nat) (l0_0 : List (S74)) (a1 : ByteArray) : Option (ByteArray × Bool) := (spec_l2Trie.f k l0_0).bind fun t520 => (if t520 = true then ((spec_l2Words.f k l0_0).bind fun t521 => ((spec_l2Has.f k t521 a1).bind fun t524 => (spec_UniquePrefix.j0 k a1 (!t524) l0_0))) else (spec_UniquePrefix.j0 k a1 true l0_0))
theorem spec_UniquePrefix.mono_l : ∀ k, (∀ y0 y1 y2, LeO (spec_UniquePrefix.j0 k y0 y1 y2) (spec_UniquePrefix.j0 (k + 1) y0 y1 y2))
 | 0 => fun _ _ _ r h => by simp [spec_UniquePrefix.j0] at h
 | k + 1 => by
  have ih0 := spec_UniquePrefix.mono_l k
  ·intro y0 y1 y2
   unfold spec_UniquePrefix.j0
   repeat' first | (with_reducible first | exact ih0 .. | exact spec_l2Has.mono .. | exact spec_l2Trie.mono .. | exact spec_l2Words.mono .. | exact spec_l3Unique.mono .. | exact LeO.refl _ | exact LeO.none _ | refine LeO.ite ?_ ?_ | refine LeO.bind ?_ (fun _ => ?_)) | exact ih0 .. | exact spec_l2Has.mono .. | exact spec_l2Trie.mono .. | exact spec_l2Words.mono .. | exact spec_l3Unique.mono .. | exact LeO.none _ | refine LeO.ite ?_ ?_ | refine LeO.bind ?_ (fun _ => ?_)
theorem spec_UniquePrefix.mono : ∀ a0 a1 k, LeO (spec_UniquePrefix.f k a0 a1) (spec_UniquePrefix.f (k + 1) a0 a1) := by
 intro a0 a1 k
 have ih0 := spec_UniquePrefix.mono_l k
 unfold spec_UniquePrefix.f
 repeat' first | (with_reducible first | exact ih0 .. | exact spec_l2Has.mono .. | exact spec_l2Trie.mono .. | exact spec_l2Words.mono .. | exact spec_l3Unique.mono .. | exact LeO.refl _ | exact LeO.none _ | refine LeO.ite ?_ ?_ | refine LeO.bind ?_ (fun _ => ?_)) | exact ih0 .. | exact spec_l2Has.mono .. | exact spec_l2Trie.mono .. | exact spec_l2Words.mono .. | exact spec_l3Unique.mono .. | exact LeO.none _ | refine LeO.ite ?_ ?_ | refine LeO.bind ?_ (fun _ => ?_)
set_option maxHeartbeats 8000000 in
set_option maxRecDepth 100000 in
theorem spec_UniquePrefix.calls (k : Nat) (A0_0 : Option Addr) (c0_0 : Nat) (l0_0 : List (S74)) (a1 : ByteArray) (r1 : ByteArray) (r2 : Bool) (w : World) (hr0_0 : Kd.C k74 w A0_0 l0_0.length l0_0) (hc0_0 : l0_0.length ≤ c0_0) (h : spec_UniquePrefix.f k l0_0 a1 = some (r1, r2)) :
  Calls Tryz.prog 12 #[.agg #[.slice A0_0 l0_0.length c0_0], .string a1] w fun e w' => e = .returned (.tuple #[.string r1, .bool r2]) ∧ Below w.heap.size w w' := by
 have hu26 := Tryz.underlying26; have HR0_0 := Aside0.mk hr0_0; have HC0_0 := Aside0.mk hc0_0; clear hr0_0 hc0_0; have HB := Aside0.mk (Below.refl w.heap.size w)
 have H : ((spec_l2Trie.f k l0_0).bind fun t520 => (if t520 = true then ((spec_l2Words.f k l0_0).bind fun t521 => ((spec_l2Has.f k t521 a1).bind fun t524 => (spec_UniquePrefix.j0 k a1 (!t524) l0_0))) else (spec_UniquePrefix.j0 k a1 true l0_0))) = some (r1, r2) := h
 clear h; have HC3 := Aside0.mk H; clear H
 go_enter Tryz.func12, Tryz.ntmps12
 go_upto_region 1 with (first | ((with_reducible refine gate_dst (N := 2) rfl ?_); refine box_event ?hg (N := 2) ?hd (cs := #[.slice A0_0 l0_0.length c0_0]) (t := 26) ?hr ?_; (case hd => rfl); (case hg => rfl); (case hr => exact ax31); intro gb519 hg w4 hbox hb; have BK519 := Aside0.mk (hbox); have GW519 := uG hg HB; have GE519 := uG hg HB; replace HB := uB HB hb; clear hb hbox hg))
 (try simp only [Act.put, List.setIfInBounds_toArray, List.set_cons_zero, List.set_cons_succ])
 go_cut [15] (fun v15 wc => ∃ (kq : Nat) (x15_2 : Bool), v15 = .bool x15_2 ∧ Aside0 (spec_UniquePrefix.j0 kq a1 x15_2 l0_0 = some (r1, r2)) ∧ Aside0 (kq ≤ k) ∧ Aside0 (wc.heap[gb519]? = some (.cells #[(.slice A0_0 l0_0.length c0_0)] 26 (0, 0))) ∧ Aside0 (Below w.heap.size w wc))
 case first =>
  have H := HC3.out; clear HC3
  obtain ⟨t520, A5, H⟩ := bs H
  by_cases c6 : t520 = true
  ·subst c6
   rw [if_pos rfl] at H
   obtain ⟨t521, A7, H⟩ := bs H
   obtain ⟨t524, A8, H⟩ := bs H
   have H' := Aside0.mk H
   clear H; have hcz9_0 := bc (.slice A0_0 l0_0.length c0_0) BK519 0; have hfz9_0 := blk_frozen BK519.out 0
   go_wp2_with (first | ((with_reducible refine gd 7 113 ?_); refine gc 7 Tryz.func113 #[.agg #[.slice A0_0 l0_0.length c0_0]] (spec_l2Trie.calls k _ _ l0_0 true _ ax142 (HC0_0.out) A5.out) ?_; rintro e w10 ⟨rfl, hb⟩; refine ⟨_, rfl, ?_⟩; replace BK519 := ub BK519 hb; replace HB := Aside0.mk (below_step ax345 hb); (try clear hb); (try clear hb2); (try clear hk); (try clear hi); have hcz11_0 := bc (.slice A0_0 l0_0.length c0_0) BK519 0; have hfz11_0 := blk_frozen BK519.out 0) | (go_at_call 115; (with_reducible refine (spec_l2Words.calls k _ _ l0_0 t521 _ ?side1 ?side2 A7.out).mono ?_); (case side1 => exact ax142); (case side2 => exact ax157); rintro e w12 ⟨v522, rfl, ho0, hb⟩; have HO523 := Aside0.mk (Kd.R_lower ho0 (below_size ax345)); replace BK519 := ub BK519 hb; replace HB := Aside0.mk (below_step ax345 hb); (try clear hb); (try clear hb2); (try clear hk); (try clear hi); (try clear ho0); obtain ⟨Ao13, co13, eo13⟩ := Kd.R_slice HO523.out; subst eo13) | (go_at_call 114; (with_reducible refine (spec_l2Has.calls k _ _ t521 a1 t524 _ ?side1 ?side2 A8.out).mono ?_); (case side1 => repeat (first | exact (Kd.R_reads' HO523.out).2.2 | (with_reducible refine Kd.C_alloc ?_ _) | (with_reducible refine Kd.C_drewN ?_ _) | (with_reducible refine Kd.C_drew ?_))); (case side2 => exact (Kd.R_reads' HO523.out).2.1); rintro e w' ⟨rfl, ⟨nd, rfl⟩⟩))
   go_meet
   case rel => exact ⟨_, (!t524), ax30, H', ⟨by first | omega | exact Nat.le_refl _⟩, ⟨ax346⟩, ⟨ax345⟩⟩
  ·replace c6 := Bool.eq_false_iff.mpr c6
   subst c6
   rw [if_neg (show ¬ (false = true) by decide)] at H
   have H' := Aside0.mk H
   clear H; have hcz14_0 := bc (.slice A0_0 l0_0.length c0_0) BK519 0; have hfz14_0 := blk_frozen BK519.out 0
   go_wp2_with (first | ((with_reducible refine gd 7 113 ?_); refine gc 7 Tryz.func113 #[.agg #[.slice A0_0 l0_0.length c0_0]] (spec_l2Trie.calls k _ _ l0_0 false _ ax142 (HC0_0.out) A5.out) ?_; rintro e w15 ⟨rfl, hb⟩; refine ⟨_, rfl, ?_⟩; replace BK519 := ub BK519 hb; replace HB := Aside0.mk (below_step ax345 hb); (try clear hb); (try clear hb2); (try clear hk); (try clear hi)))
   go_meet
   case rel => exact ⟨_, (true), ax30, H', ⟨by first | omega | exact Nat.le_refl _⟩, ⟨ax346⟩, ⟨ax345⟩⟩
 case rest =>
  clear HC3
  obtain ⟨kq, x15_2, rfl, HA, HJ2, BK519, HB⟩ := hcut
  cases kq with
  | zero => exact absurd HA.out (by simp [spec_UniquePrefix.j0])
  | succ kj2 =>
   have H := HA.out; clear HA
   simp only [spec_UniquePrefix.j0] at H
   by_cases c16 : x15_2 = true
   ·subst c16
    rw [if_pos rfl] at H
    simp only [Option.some.injEq, Prod.mk.injEq] at H
    obtain ⟨rfl, rfl⟩ := H
    go_wp2
    go_ret2
    exact ⟨ax26, by repeat (first | (with_reducible first | exact HB.out | apply below_alloc | apply pw_below_drewN | apply below_drew1 | refine below_set ?_ GE519.out) | exact HB.out)⟩
   ·replace c16 := Bool.eq_false_iff.mpr c16
    subst c16
    rw [if_neg (show ¬ (false = true) by decide)] at H
    obtain ⟨t525, A17, H⟩ := bs H
    obtain ⟨t528, A18, H⟩ := bs H
    simp only [Option.some.injEq, Prod.mk.injEq] at H
    obtain ⟨rfl, rfl⟩ := H
    have hcz19_0 := bc (.slice A0_0 l0_0.length c0_0) BK519 0; have hfz19_0 := blk_frozen BK519.out 0
    go_wp2_with (first | ((with_reducible refine gd 17 115 ?_); refine gc 17 Tryz.func115 #[.agg #[.slice A0_0 l0_0.length c0_0]] (spec_l2Words.calls kj2 _ _ l0_0 t525 _ ax142 (HC0_0.out) A17.out) ?_; rintro e w20 ⟨v526, rfl, ho0, hb⟩; refine ⟨_, rfl, ?_⟩; have HO527 := Aside0.mk (Kd.R_lower ho0 (below_size ax345)); replace BK519 := ub BK519 hb; replace HB := Aside0.mk (below_step ax345 hb); (try clear hb); (try clear hb2); (try clear hk); (try clear hi); (try clear ho0); obtain ⟨Ao21, co21, eo21⟩ := Kd.R_slice HO527.out; subst eo21) | ((with_reducible refine gd 19 116 ?_); refine gc 19 Tryz.func116 #[.slice Ao21 t525.length co21, .string a1] (spec_l3Unique.calls kj2 _ _ t525 a1 t528 _ (by repeat (first | exact (Kd.R_reads' HO527.out).2.2 | (with_reducible refine Kd.C_alloc ?_ _) | (with_reducible refine Kd.C_drewN ?_ _) | (with_reducible refine Kd.C_drew ?_))) ((Kd.R_reads' HO527.out).2.1) A18.out) ?_; rintro e w22 ⟨rfl, hb⟩; refine ⟨_, rfl, ?_⟩; replace HO527 := uR HO527 hb; replace BK519 := ub BK519 hb; replace HB := Aside0.mk (below_step ax345 hb); (try clear hb); (try clear hb2); (try clear hk); (try clear hi)))
    go_ret2
    exact ⟨ax26, by repeat (first | (with_reducible first | exact HB.out | apply below_alloc | apply pw_below_drewN | apply below_drew1 | refine below_set ?_ GE519.out) | exact HB.out)⟩

/-! ### impl_WordsUnder: function 13 -/
def impl_WordsUnder.f (k : Nat) (l0_0 : List (S74)) (a1 : ByteArray) : Option (List ByteArray × Bool) := (impl_areKept.f k l0_0 a1).bind fun t530 => (if t530 = true then ((impl_Trie_under.f k l0_0 a1).bind fun t531 => (some (t531, true))) else (some (([] : List ByteArray), false)))
theorem impl_WordsUnder.mono : ∀ a0 a1 k, LeO (impl_WordsUnder.f k a0 a1) (impl_WordsUnder.f (k + 1) a0 a1) := by
 intro a0 a1 k
 unfold impl_WordsUnder.f
 repeat' first | (with_reducible first | exact impl_Trie_under.mono .. | exact impl_areKept.mono .. | exact LeO.refl _ | exact LeO.none _ | refine LeO.ite ?_ ?_ | refine LeO.bind ?_ (fun _ => ?_)) | exact impl_Trie_under.mono .. | exact impl_areKept.mono .. | exact LeO.none _ | refine LeO.ite ?_ ?_ | refine LeO.bind ?_ (fun _ => ?_)
set_option maxHeartbeats 8000000 in
set_option maxRecDepth 100000 in
theorem impl_WordsUnder.calls (k : Nat) (A0_0 : Option Addr) (c0_0 : Nat) (l0_0 : List (S74)) (a1 : ByteArray) (r1 : List ByteArray) (r2 : Bool) (w : World) (hr0_0 : Kd.C k74 w A0_0 l0_0.length l0_0) (hc0_0 : l0_0.length ≤ c0_0) (h : impl_WordsUnder.f k l0_0 a1 = some (r1, r2)) :
  Calls Tryz.prog 13 #[.agg #[.slice A0_0 l0_0.length c0_0], .string a1] w fun e w' => ∃ v0_ : Value, e = .returned (.tuple #[v0_, .bool r2]) ∧ Kd.R Kd.string 9 w' w.heap.size (fun _ => True) v0_ r1 ∧ Below w.heap.size w w' := by
 have hu26 := Tryz.underlying26; have HR0_0 := Aside0.mk hr0_0; have HC0_0 := Aside0.mk hc0_0; clear hr0_0 hc0_0; have HB := Aside0.mk (Below.refl w.heap.size w)
 have H : ((impl_areKept.f k l0_0 a1).bind fun t530 => (if t530 = true then ((impl_Trie_under.f k l0_0 a1).bind fun t531 => (some (t531, true))) else (some (([] : List ByteArray), false)))) = some (r1, r2) := h
 clear h
 obtain ⟨t530, A3, H⟩ := bs H
 by_cases c4 : t530 = true
 ·subst c4
  rw [if_pos rfl] at H
  obtain ⟨t531, A5, H⟩ := bs H
  simp only [Option.some.injEq, Prod.mk.injEq] at H
  obtain ⟨rfl, rfl⟩ := H
  go_enter Tryz.func13, Tryz.ntmps13
  go_wp2_with (first | ((with_reducible refine gate_dst (N := 2) rfl ?_); refine box_event ?hg (N := 2) ?hd (cs := #[.slice A0_0 l0_0.length c0_0]) (t := 26) ?hr ?_; (case hd => rfl); (case hg => rfl); (case hr => exact ax31); intro gb529 hg w6 hbox hb; have BK529 := Aside0.mk (hbox); have GW529 := uG hg HB; have GE529 := uG hg HB; replace HB := uB HB hb; clear hb hbox hg; have hcz7_0 := bc (.slice A0_0 l0_0.length c0_0) BK529 0; have hfz7_0 := blk_frozen BK529.out 0) | ((with_reducible refine gd 8 110 ?_); refine gc 8 Tryz.func110 #[.agg #[.slice A0_0 l0_0.length c0_0], .string a1] (impl_areKept.calls k _ _ l0_0 a1 true _ ax142 (HC0_0.out) A3.out) ?_; rintro e w8 ⟨rfl, hb⟩; refine ⟨_, rfl, ?_⟩; replace BK529 := ub BK529 hb; replace HB := Aside0.mk (below_step ax347 hb); (try clear hb); (try clear hb2); (try clear hk); (try clear hi); have hcz9_0 := bc (.slice A0_0 l0_0.length c0_0) BK529 0; have hfz9_0 := blk_frozen BK529.out 0) | ((with_reducible refine gd 12 112 ?_); refine gc 12 Tryz.func112 #[.agg #[.slice A0_0 l0_0.length c0_0], .string a1] (impl_Trie_under.calls k _ _ l0_0 a1 t531 _ ax142 (HC0_0.out) A5.out) ?_; rintro e w10 ⟨v532, rfl, ho0, hb⟩; refine ⟨_, rfl, ?_⟩; have HO533 := Aside0.mk (Kd.R_lower ho0 (below_size ax347)); replace BK529 := ub BK529 hb; replace HB := Aside0.mk (below_step ax347 hb); (try clear hb); (try clear hb2); (try clear hk); (try clear hi); (try clear ho0)))
  go_ret2
  exact ⟨_, by first | rfl | (simp [errW_none, errW_some] <;> rfl) | (simp [*, errW_none, errW_some] <;> rfl), by (with_reducible repeat (first | apply Kd.R_alloc | apply Kd.R_drewN | apply Kd.R_drew)); exact HO533.out, by repeat (first | (with_reducible first | exact HB.out | apply below_alloc | apply pw_below_drewN | apply below_drew1 | refine below_set ?_ GE529.out) | exact HB.out)⟩
 ·replace c4 := Bool.eq_false_iff.mpr c4
  subst c4
  rw [if_neg (show ¬ (false = true) by decide)] at H
  simp only [Option.some.injEq, Prod.mk.injEq] at H
  obtain ⟨rfl, rfl⟩ := H
  go_enter Tryz.func13, Tryz.ntmps13
  go_wp2_with (first | ((with_reducible refine gate_dst (N := 2) rfl ?_); refine box_event ?hg (N := 2) ?hd (cs := #[.slice A0_0 l0_0.length c0_0]) (t := 26) ?hr ?_; (case hd => rfl); (case hg => rfl); (case hr => exact ax31); intro gb529 hg w11 hbox hb; have BK529 := Aside0.mk (hbox); have GW529 := uG hg HB; have GE529 := uG hg HB; replace HB := uB HB hb; clear hb hbox hg; have hcz12_0 := bc (.slice A0_0 l0_0.length c0_0) BK529 0; have hfz12_0 := blk_frozen BK529.out 0) | ((with_reducible refine gd 8 110 ?_); refine gc 8 Tryz.func110 #[.agg #[.slice A0_0 l0_0.length c0_0], .string a1] (impl_areKept.calls k _ _ l0_0 a1 false _ ax142 (HC0_0.out) A3.out) ?_; rintro e w13 ⟨rfl, hb⟩; refine ⟨_, rfl, ?_⟩; replace BK529 := ub BK529 hb; replace HB := Aside0.mk (below_step ax347 hb); (try clear hb); (try clear hb2); (try clear hk); (try clear hi)))
  go_ret2
  exact ⟨_, by first | rfl | (simp [errW_none, errW_some] <;> rfl) | (simp [*, errW_none, errW_some] <;> rfl), by first | exact Kd.R_nil _ _ _ _ _ | exact Kd.N_nil _ _ _ _ _ | exact Kd.V_nil _ _ _ _ _ | exact Kd.Q_nil _ _ _ _ _ | exact Kd.S_nil _ _ _ _ _, by repeat (first | (with_reducible first | exact HB.out | apply below_alloc | apply pw_below_drewN | apply below_drew1 | refine below_set ?_ GE529.out) | exact HB.out)⟩

/-! ### spec_WordsUnder: function 14 -/
def spec_WordsUnder.j0 : Nat → ByteArray → Bool → List (S74) → Option (List ByteArray × Bool)
 | 0, _, _, _ => none
 | k + 1, x1, x13, x535000 => if x13 = true then (some ((([] : List ByteArray)), false)) else ((spec_l2Words.f k x535000).bind fun t540 => ((spec_l3Under.f k t540 x1).bind fun t543 => (some (t543, true))))
def spec_WordsUnder.f (k : Nat) (l0_0 : List (S74)) (a1 : ByteArray) : Option (List ByteArray × Bool) := (spec_l2Trie.f k l0_0).bind fun t535 => (if t535 = true then ((spec_l2Word.f k a1).bind fun t536 => (spec_WordsUnder.j0 k a1 (!t536) l0_0)) else (spec_WordsUnder.j0 k a1 true l0_0))
theorem spec_WordsUnder.mono_l : ∀ k, (∀ y0 y1 y2, LeO (spec_WordsUnder.j0 k y0 y1 y2) (spec_WordsUnder.j0 (k + 1) y0 y1 y2))
 | 0 => fun _ _ _ r h => by simp [spec_WordsUnder.j0] at h
 | k + 1 => by
  have ih0 := spec_WordsUnder.mono_l k
  ·intro y0 y1 y2
   unfold spec_WordsUnder.j0
   repeat' first | (with_reducible first | exact ih0 .. | exact spec_l2Trie.mono .. | exact spec_l2Word.mono .. | exact spec_l2Words.mono .. | exact spec_l3Under.mono .. | exact LeO.refl _ | exact LeO.none _ | refine LeO.ite ?_ ?_ | refine LeO.bind ?_ (fun _ => ?_)) | exact ih0 .. | exact spec_l2Trie.mono .. | exact spec_l2Word.mono .. | exact spec_l2Words.mono .. | exact spec_l3Under.mono .. | exact LeO.none _ | refine LeO.ite ?_ ?_ | refine LeO.bind ?_ (fun _ => ?_)
theorem spec_WordsUnder.mono : ∀ a0 a1 k, LeO (spec_WordsUnder.f k a0 a1) (spec_WordsUnder.f (k + 1) a0 a1) := by
 intro a0 a1 k
 have ih0 := spec_WordsUnder.mono_l k
 unfold spec_WordsUnder.f
 repeat' first | (with_reducible first | exact ih0 .. | exact spec_l2Trie.mono .. | exact spec_l2Word.mono .. | exact spec_l2Words.mono .. | exact spec_l3Under.mono .. | exact LeO.refl _ | exact LeO.none _ | refine LeO.ite ?_ ?_ | refine LeO.bind ?_ (fun _ => ?_)) | exact ih0 .. | exact spec_l2Trie.mono .. | exact spec_l2Word.mono .. | exact spec_l2Words.mono .. | exact spec_l3Under.mono .. | exact LeO.none _ | refine LeO.ite ?_ ?_ | refine LeO.bind ?_ (fun _ => ?_)
set_option maxHeartbeats 8000000 in
set_option maxRecDepth 100000 in
theorem spec_WordsUnder.calls (k : Nat) (A0_0 : Option Addr) (c0_0 : Nat) (l0_0 : List (S74)) (a1 : ByteArray) (r1 : List ByteArray) (r2 : Bool) (w : World) (hr0_0 : Kd.C k74 w A0_0 l0_0.length l0_0) (hc0_0 : l0_0.length ≤ c0_0) (h : spec_WordsUnder.f k l0_0 a1 = some (r1, r2)) :
  Calls Tryz.prog 14 #[.agg #[.slice A0_0 l0_0.length c0_0], .string a1] w fun e w' => ∃ v0_ : Value, e = .returned (.tuple #[v0_, .bool r2]) ∧ Kd.R Kd.string 9 w' w.heap.size (fun _ => True) v0_ r1 ∧ Below w.heap.size w w' := by
 have hu26 := Tryz.underlying26; have HR0_0 := Aside0.mk hr0_0; have HC0_0 := Aside0.mk hc0_0; clear hr0_0 hc0_0; have HB := Aside0.mk (Below.refl w.heap.size w)
 have H : ((spec_l2Trie.f k l0_0).bind fun t535 => (if t535 = true then ((spec_l2Word.f k a1).bind fun t536 => (spec_WordsUnder.j0 k a1 (!t536) l0_0)) else (spec_WordsUnder.j0 k a1 true l0_0))) = some (r1, r2) := h
 clear h; have HC3 := Aside0.mk H; clear H
 go_enter Tryz.func14, Tryz.ntmps14
 go_upto_region 1 with (first | ((with_reducible refine gate_dst (N := 2) rfl ?_); refine box_event ?hg (N := 2) ?hd (cs := #[.slice A0_0 l0_0.length c0_0]) (t := 26) ?hr ?_; (case hd => rfl); (case hg => rfl); (case hr => exact ax31); intro gb534 hg w4 hbox hb; have BK534 := Aside0.mk (hbox); have GW534 := uG hg HB; have GE534 := uG hg HB; replace HB := uB HB hb; clear hb hbox hg))
 (try simp only [Act.put, List.setIfInBounds_toArray, List.set_cons_zero, List.set_cons_succ])
 go_cut [13] (fun v13 wc => ∃ (kq : Nat) (x13_2 : Bool), v13 = .bool x13_2 ∧ Aside0 (spec_WordsUnder.j0 kq a1 x13_2 l0_0 = some (r1, r2)) ∧ Aside0 (kq ≤ k) ∧ Aside0 (wc.heap[gb534]? = some (.cells #[(.slice A0_0 l0_0.length c0_0)] 26 (0, 0))) ∧ Aside0 (Below w.heap.size w wc))
 case first =>
  have H := HC3.out; clear HC3
  obtain ⟨t535, A5, H⟩ := bs H
  by_cases c6 : t535 = true
  ·subst c6
   rw [if_pos rfl] at H
   obtain ⟨t536, A7, H⟩ := bs H
   have H' := Aside0.mk H
   clear H; have hcz8_0 := bc (.slice A0_0 l0_0.length c0_0) BK534 0; have hfz8_0 := blk_frozen BK534.out 0
   go_wp2_with (first | ((with_reducible refine gd 7 113 ?_); refine gc 7 Tryz.func113 #[.agg #[.slice A0_0 l0_0.length c0_0]] (spec_l2Trie.calls k _ _ l0_0 true _ ax142 (HC0_0.out) A5.out) ?_; rintro e w9 ⟨rfl, hb⟩; refine ⟨_, rfl, ?_⟩; replace BK534 := ub BK534 hb; replace HB := Aside0.mk (below_step ax348 hb); (try clear hb); (try clear hb2); (try clear hk); (try clear hi)) | (go_at_call 117; (with_reducible refine (spec_l2Word.calls k a1 t536 _ A7.out).mono ?_); rintro e w' ⟨rfl, ⟨nd, rfl⟩⟩))
   go_meet
   case rel => exact ⟨_, (!t536), ax30, H', ⟨by first | omega | exact Nat.le_refl _⟩, ⟨ax349⟩, ⟨ax348⟩⟩
  ·replace c6 := Bool.eq_false_iff.mpr c6
   subst c6
   rw [if_neg (show ¬ (false = true) by decide)] at H
   have H' := Aside0.mk H
   clear H; have hcz10_0 := bc (.slice A0_0 l0_0.length c0_0) BK534 0; have hfz10_0 := blk_frozen BK534.out 0
   go_wp2_with (first | ((with_reducible refine gd 7 113 ?_); refine gc 7 Tryz.func113 #[.agg #[.slice A0_0 l0_0.length c0_0]] (spec_l2Trie.calls k _ _ l0_0 false _ ax142 (HC0_0.out) A5.out) ?_; rintro e w11 ⟨rfl, hb⟩; refine ⟨_, rfl, ?_⟩; replace BK534 := ub BK534 hb; replace HB := Aside0.mk (below_step ax348 hb); (try clear hb); (try clear hb2); (try clear hk); (try clear hi)))
   go_meet
   case rel => exact ⟨_, (true), ax30, H', ⟨by first | omega | exact Nat.le_refl _⟩, ⟨ax349⟩, ⟨ax348⟩⟩
 case rest =>
  clear HC3
  obtain ⟨kq, x13_2, rfl, HA, HJ2, BK534, HB⟩ := hcut
  cases kq with
  | zero => exact absurd HA.out (by simp [spec_WordsUnder.j0])
  | succ kj2 =>
   have H := HA.out; clear HA
   simp only [spec_WordsUnder.j0] at H
   by_cases c12 : x13_2 = true
   ·subst c12
    rw [if_pos rfl] at H
    obtain ⟨y537, hy537⟩ : ∃ y_ : List ByteArray, y_ = (([] : List ByteArray)) := ⟨_, rfl⟩
    replace H : (some (y537, false)) = some (r1, r2) := by first | (rw [hy537]; with_reducible exact H) | (have H2_ := (Option.bind_some _ _).symm.trans H; rw [hy537]; with_reducible exact H2_) | (have H2_ := (Option.bind_some _ _).symm.trans H; with_reducible exact H2_) | with_reducible exact H | (rw [hy537]; exact H) | exact H
    have Ny537 := Aside0.mk hy537; clear hy537
    simp only [Option.some.injEq, Prod.mk.injEq] at H
    obtain ⟨rfl, rfl⟩ := H
    go_wp2_with (first | ((with_reducible refine gate_dst (N := 14) rfl ?_); refine Kd.R_lit Kd.string _ 9 ?hg (N := 14) ?hd (xs := ([] : List ByteArray)) (inner := []) (ok := fun _ => True) (okp := fun _ => True) ?hr ?hp (fun _ hk => hk) trivial (Below.refl _ _) (Nat.le_refl _) (by simp) ?_; (case hd => rfl); (case hg => rfl); (case hr => exact ax31); (case hp => exact ax32); intro v538 w13 ho14 hb hg_ hnew_; clear hg_ hnew_; (first | rw [← Ny537.out] at ho14 | (simp only [Int.reduceToNat] at ho14; rw [← Ny537.out] at ho14)); have HO539 := Aside0.mk (Kd.R_lower ho14 (below_size ax348)); replace BK534 := ub BK534 hb; replace HB := Aside0.mk (below_step ax348 hb); clear hb ho14))
    go_ret2
    exact ⟨_, by first | rfl | (simp [errW_none, errW_some] <;> rfl) | (simp [*, errW_none, errW_some] <;> rfl), by (with_reducible repeat (first | apply Kd.R_alloc | apply Kd.R_drewN | apply Kd.R_drew)); exact HO539.out, by repeat (first | (with_reducible first | exact HB.out | apply below_alloc | apply pw_below_drewN | apply below_drew1 | refine below_set ?_ GE534.out) | exact HB.out)⟩
   ·replace c12 := Bool.eq_false_iff.mpr c12
    subst c12
    rw [if_neg (show ¬ (false = true) by decide)] at H
    obtain ⟨t540, A15, H⟩ := bs H
    obtain ⟨t543, A16, H⟩ := bs H
    simp only [Option.some.injEq, Prod.mk.injEq] at H
    obtain ⟨rfl, rfl⟩ := H
    have hcz17_0 := bc (.slice A0_0 l0_0.length c0_0) BK534 0; have hfz17_0 := blk_frozen BK534.out 0
    go_wp2_with (first | ((with_reducible refine gd 16 115 ?_); refine gc 16 Tryz.func115 #[.agg #[.slice A0_0 l0_0.length c0_0]] (spec_l2Words.calls kj2 _ _ l0_0 t540 _ ax142 (HC0_0.out) A15.out) ?_; rintro e w18 ⟨v541, rfl, ho0, hb⟩; refine ⟨_, rfl, ?_⟩; have HO542 := Aside0.mk (Kd.R_lower ho0 (below_size ax348)); replace BK534 := ub BK534 hb; replace HB := Aside0.mk (below_step ax348 hb); (try clear hb); (try clear hb2); (try clear hk); (try clear hi); (try clear ho0); obtain ⟨Ao19, co19, eo19⟩ := Kd.R_slice HO542.out; subst eo19) | ((with_reducible refine gd 18 118 ?_); refine gc 18 Tryz.func118 #[.slice Ao19 t540.length co19, .string a1] (spec_l3Under.calls kj2 _ _ t540 a1 t543 _ (by repeat (first | exact (Kd.R_reads' HO542.out).2.2 | (with_reducible refine Kd.C_alloc ?_ _) | (with_reducible refine Kd.C_drewN ?_ _) | (with_reducible refine Kd.C_drew ?_))) ((Kd.R_reads' HO542.out).2.1) A16.out) ?_; rintro e w20 ⟨v544, rfl, ho0, hb⟩; refine ⟨_, rfl, ?_⟩; have HO545 := Aside0.mk (Kd.R_lower (Kd.R_new' ho0 (Kd.R_lt ax350)) (below_size ax348)); replace HO542 := Aside0.mk (Kd.R_elder' ax350 (Kd.R_base ho0) hb); replace BK534 := ub BK534 hb; replace HB := Aside0.mk (below_step ax348 hb); (try clear hb); (try clear hb2); (try clear hk); (try clear hi); (try clear ho0)))
    go_ret2
    exact ⟨_, by first | rfl | (simp [errW_none, errW_some] <;> rfl) | (simp [*, errW_none, errW_some] <;> rfl), by (with_reducible repeat (first | apply Kd.R_alloc | apply Kd.R_drewN | apply Kd.R_drew)); exact Kd.R_mono HO545.out (fun _ hk => trivial), by repeat (first | (with_reducible first | exact HB.out | apply below_alloc | apply pw_below_drewN | apply below_drew1 | refine below_set ?_ GE534.out) | exact HB.out)⟩

end Go.Proofs.YtcplbbflfgckbaaGreatDoor.X


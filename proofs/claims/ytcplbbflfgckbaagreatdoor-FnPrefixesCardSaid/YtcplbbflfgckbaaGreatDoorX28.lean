-- By gen.py (the session's own program over the kit's printer): functions of the program, each with its contract. Lean checks it.
import Derived.Test.YtcplbbflfgckbaaGreatDoorX0
import Derived.Test.YtcplbbflfgckbaaGreatDoorX6
import Derived.Test.YtcplbbflfgckbaaGreatDoorX8
import Derived.Test.YtcplbbflfgckbaaGreatDoorX9
import Derived.Test.YtcplbbflfgckbaaGreatDoorX15
import Derived.Test.YtcplbbflfgckbaaGreatDoorX16
import Derived.Test.YtcplbbflfgckbaaGreatDoorX27
namespace Go.Proofs.YtcplbbflfgckbaaGreatDoor.X
open Go.RowKit Go.Proofs.YtcplbbflfgckbaaGreatDoorW.PrintWords Go.Proofs.YtcplbbflfgckbaaGreatDoorW.PrintLast Go.Proofs.YtcplbbflfgckbaaGreatDoorW.PrintMore
attribute [local go_sem] max2_int min2_int max_two min_two max_three min_three max_four min_four   -- for this text's walks alone
set_option linter.unusedVariables false
set_option linter.unusedSimpArgs false

/-! ### impl_shared: function 119 -/
def impl_shared.l0 : Nat → ByteArray → ByteArray → Int → Option (ByteArray)
 | 0, _, _, _ => none
 | k + 1, x3, x4, x5 => if x5 < (mn (x3.size : Int) (x4.size : Int)) then (if 0 ≤ x5 then (if x5 < (x3.size : Int) then (if x5 < (x4.size : Int) then (if (bt x3 x5) = (bt x4 x5) then (impl_shared.l0 k x3 x4 (wrap64 (x5 + 1))) else (if x5 ≤ (x3.size : Int) then (some (x3.extract 0 (x5 : Int).toNat)) else (none))) else (none)) else (none)) else (none)) else (if 0 ≤ x5 then (if x5 ≤ (x3.size : Int) then (some (x3.extract 0 (x5 : Int).toNat)) else (none)) else (none))
def impl_shared.f (k : Nat) (l0 : List ByteArray) : Option (ByteArray) := if 0 < (l0.length : Int) then (if 0 ≤ (wrap64 ((l0.length : Int) - 1)) then (if (wrap64 ((l0.length : Int) - 1)) < (l0.length : Int) then (impl_shared.l0 k (rdOf ByteArray.empty l0 0) (rdOf ByteArray.empty l0 (wrap64 ((l0.length : Int) - 1))) 0) else (none)) else (none)) else (none)
theorem impl_shared.mono_l : ∀ k, (∀ y0 y1 y2, LeO (impl_shared.l0 k y0 y1 y2) (impl_shared.l0 (k + 1) y0 y1 y2))
 | 0 => fun _ _ _ r h => by simp [impl_shared.l0] at h
 | k + 1 => by
  have ih0 := impl_shared.mono_l k
  ·intro y0 y1 y2
   unfold impl_shared.l0
   repeat' first | (with_reducible first | exact ih0 .. | exact LeO.refl _ | exact LeO.none _ | refine LeO.ite ?_ ?_ | refine LeO.bind ?_ (fun _ => ?_)) | exact ih0 .. | exact LeO.none _ | refine LeO.ite ?_ ?_ | refine LeO.bind ?_ (fun _ => ?_)
theorem impl_shared.mono : ∀ a0 k, LeO (impl_shared.f k a0) (impl_shared.f (k + 1) a0) := by
 intro a0 k
 have ih0 := impl_shared.mono_l k
 unfold impl_shared.f
 repeat' first | (with_reducible first | exact ih0 .. | exact LeO.refl _ | exact LeO.none _ | refine LeO.ite ?_ ?_ | refine LeO.bind ?_ (fun _ => ?_)) | exact ih0 .. | exact LeO.none _ | refine LeO.ite ?_ ?_ | refine LeO.bind ?_ (fun _ => ?_)
set_option maxHeartbeats 8000000 in
set_option maxRecDepth 100000 in
theorem impl_shared.calls (k : Nat) (A0 : Option Addr) (c0 : Nat) (l0 : List ByteArray) (r : ByteArray) (w : World) (hr0 : Kd.C Kd.string w A0 l0.length l0) (hc0 : l0.length ≤ c0) (h : impl_shared.f k l0 = some r) :
  Calls Tryz.prog 119 #[.slice A0 l0.length c0] w fun e w' => e = .returned (.string r) ∧ Below w.heap.size w w' := by
 have HR0 := Aside0.mk hr0; have HC0 := Aside0.mk hc0; clear hr0 hc0; have HB := Aside0.mk (Below.refl w.heap.size w)
 have H : (if 0 < (l0.length : Int) then (if 0 ≤ (wrap64 ((l0.length : Int) - 1)) then (if (wrap64 ((l0.length : Int) - 1)) < (l0.length : Int) then (impl_shared.l0 k (rdOf ByteArray.empty l0 0) (rdOf ByteArray.empty l0 (wrap64 ((l0.length : Int) - 1))) 0) else (none)) else (none)) else (none)) = some r := h
 clear h
 by_cases c2 : 0 < (l0.length : Int)
 ·rw [if_pos c2] at H
  have c2b0 : decide (0 < (l0.length : Int)) = true := decide_eq_true c2
  have c2b1 : decide (0 < l0.length) = true := decide_eq_true (by omega)
  clear c2
  obtain ⟨ji3, hji3⟩ : ∃ j_ : Int, (wrap64 ((l0.length : Int) - 1)) = j_ := ⟨_, rfl⟩
  replace H : (if 0 ≤ (ji3) then (if (ji3) < (l0.length : Int) then (impl_shared.l0 k (rdOf ByteArray.empty l0 0) (rdOf ByteArray.empty l0 (ji3)) 0) else (none)) else (none)) = some r := by first | (rw [hji3] at H; exact H) | (simp only [hji3] at H ⊢; exact H)
  have hji3w : (IntKind.i64.wrap ((l0.length : Int) - 1)) = ji3 := (i64_w _).trans hji3
  by_cases c4 : 0 ≤ (ji3)
  ·rw [if_pos c4] at H
   have c4b0 : decide (0 ≤ (ji3)) = true := decide_eq_true c4
   clear c4
   by_cases c5 : (ji3) < (l0.length : Int)
   ·rw [if_pos c5] at H
    have c5b0 : decide ((ji3) < (l0.length : Int)) = true := decide_eq_true c5
    clear c5
    have H' := Aside0.mk H
    clear H
    have p546 : 0 ≤ (0 : Int) := (by omega)
    have q546 : 0 < (l0.length : Int) := of_decide_eq_true ax25
    obtain ⟨ad546, e546, hx546_0⟩ := Kd.at_string HR0.out 0 p546 q546
    cases e546
    have qi546 : (0 < l0.length) = True := eq_true (by omega)
    (try rw [show ((0 : Int)).toNat = 0 from rfl] at hx546_0)
    (try rw [Addr.add_zero'] at hx546_0)
    replace p546 := eq_true p546; replace q546 := eq_true q546
    have p547 : 0 ≤ ((ji3) : Int) := of_decide_eq_true ax25
    have q547 : (ji3) < (l0.length : Int) := of_decide_eq_true ax25
    obtain ⟨ad547, e547, hx547_0⟩ := Kd.at_string HR0.out (ji3) p547 q547
    obtain rfl : ad546 = ad547 := (by injection e547)
    replace p547 := eq_true p547; replace q547 := eq_true q547
    go_enter Tryz.func119, Tryz.ntmps119
    go_wp2
    repeat (go_quiet (fail); try go_wp2)
    go_loopg [5] k (fun kq v5 w' => ∃ (x5_1 : Int), v5 = .int .i64 x5_1 ∧ Aside0 (impl_shared.l0 kq (rdOf ByteArray.empty l0 0) (rdOf ByteArray.empty l0 (ji3)) x5_1 = some r) ∧ Aside0 (kq ≤ k) ∧ Aside0 (Below w.heap.size w w'))
    case atStart => exact ⟨(0), ax30, H', ⟨Nat.le_refl _⟩, ⟨ax38⟩⟩
    case round =>
     clear H'
     (try clear q547);(try clear p547);(try clear hx547_0);(try clear q546);(try clear p546);(try clear hx546_0);(try clear qi546);(try clear c5);(try clear c5b0);(try clear c4);(try clear c4b0);(try clear c2);(try clear c2b1);(try clear c2b0)
     obtain ⟨x5_1, rfl, HA, HK1, HB⟩ := hrel
     cases gk with
     | zero => exact absurd HA.out (by simp [impl_shared.l0])
     | succ k1 =>
      have H := HA.out; clear HA
      simp only [impl_shared.l0] at H
      obtain ⟨ji6, hji6⟩ : ∃ j_ : Int, (mn ((rdOf ByteArray.empty l0 0).size : Int) ((rdOf ByteArray.empty l0 (ji3)).size : Int)) = j_ := ⟨_, rfl⟩
      replace H : (if x5_1 < (ji6) then (if 0 ≤ x5_1 then (if x5_1 < ((rdOf ByteArray.empty l0 0).size : Int) then (if x5_1 < ((rdOf ByteArray.empty l0 (ji3)).size : Int) then (if (bt (rdOf ByteArray.empty l0 0) x5_1) = (bt (rdOf ByteArray.empty l0 (ji3)) x5_1) then (impl_shared.l0 k1 (rdOf ByteArray.empty l0 0) (rdOf ByteArray.empty l0 (ji3)) (wrap64 (x5_1 + 1))) else (if x5_1 ≤ ((rdOf ByteArray.empty l0 0).size : Int) then (some ((rdOf ByteArray.empty l0 0).extract 0 (x5_1 : Int).toNat)) else (none))) else (none)) else (none)) else (none)) else (if 0 ≤ x5_1 then (if x5_1 ≤ ((rdOf ByteArray.empty l0 0).size : Int) then (some ((rdOf ByteArray.empty l0 0).extract 0 (x5_1 : Int).toNat)) else (none)) else (none))) = some r := by first | (rw [hji6] at H; exact H) | (simp only [hji6] at H ⊢; exact H)
      have hji6_ : (if ((rdOf ByteArray.empty l0 (ji3)).size : Int) < ((rdOf ByteArray.empty l0 0).size : Int) then ((rdOf ByteArray.empty l0 (ji3)).size : Int) else ((rdOf ByteArray.empty l0 0).size : Int)) = ji6 := hji6
      (try have hji6_n := hji6_)
      (try simp only [Int.ofNat_lt] at hji6_n)
      by_cases c7 : x5_1 < (ji6)
      ·rw [if_pos c7] at H
       have c7b0 : decide (x5_1 < (ji6)) = true := decide_eq_true c7
       clear c7
       by_cases c8 : 0 ≤ x5_1
       ·rw [if_pos c8] at H
        have c8b0 : decide (0 ≤ x5_1) = true := decide_eq_true c8
        clear c8
        by_cases c9 : x5_1 < ((rdOf ByteArray.empty l0 0).size : Int)
        ·rw [if_pos c9] at H
         have c9b0 : decide (x5_1 < ((rdOf ByteArray.empty l0 0).size : Int)) = true := decide_eq_true c9
         clear c9
         by_cases c11 : x5_1 < ((rdOf ByteArray.empty l0 (ji3)).size : Int)
         ·rw [if_pos c11] at H
          have c11b0 : decide (x5_1 < ((rdOf ByteArray.empty l0 (ji3)).size : Int)) = true := decide_eq_true c11
          clear c11
          by_cases c13 : (bt (rdOf ByteArray.empty l0 0) x5_1) = (bt (rdOf ByteArray.empty l0 (ji3)) x5_1)
          ·rw [if_pos c13] at H
           have c13b0 : ((bt (rdOf ByteArray.empty l0 0) x5_1) == (bt (rdOf ByteArray.empty l0 (ji3)) x5_1)) = true := beq_iff_eq.mpr c13
           have c13b1 : ((bt (rdOf ByteArray.empty l0 0) x5_1) != (bt (rdOf ByteArray.empty l0 (ji3)) x5_1)) = false := bne_eq_false_iff_eq.mpr c13
           clear c13
           have H' := Aside0.mk H
           clear H
           have p10 : 0 ≤ (x5_1 : Int) := of_decide_eq_true ax25
           have q10 : x5_1 < ((rdOf ByteArray.empty l0 0).size : Int) := of_decide_eq_true ax25
           have hx10 := bt_at (rdOf ByteArray.empty l0 0) x5_1; replace p10 := eq_true p10; replace q10 := eq_true q10
           have p12 : 0 ≤ (x5_1 : Int) := of_decide_eq_true ax25
           have q12 : x5_1 < ((rdOf ByteArray.empty l0 (ji3)).size : Int) := of_decide_eq_true ax25
           have hx12 := bt_at (rdOf ByteArray.empty l0 (ji3)) x5_1; replace p12 := eq_true p12; replace q12 := eq_true q12
           go_wp2
           repeat (go_quiet (fail); try go_wp2)
           go_roundg k1
           case measure => have := HK1.out; omega
           case rel => exact ⟨(wrap64 (x5_1 + 1)), ax30, H', ⟨by have := HK1.out; omega⟩, ⟨ax38⟩⟩
          ·rw [if_neg c13] at H
           have c13b0 : ((bt (rdOf ByteArray.empty l0 0) x5_1) == (bt (rdOf ByteArray.empty l0 (ji3)) x5_1)) = false := beq_eq_false_iff_ne.mpr c13
           have c13b1 : ((bt (rdOf ByteArray.empty l0 0) x5_1) != (bt (rdOf ByteArray.empty l0 (ji3)) x5_1)) = true := bne_iff_ne.mpr c13
           have c14b0 := eq_true (of_decide_eq_true ax25 : 0 ≤ x5_1)
           by_cases c15 : x5_1 ≤ ((rdOf ByteArray.empty l0 0).size : Int)
           ·rw [if_pos c15] at H
            have c15b0 := eq_true c15
            have c15b1 : decide (x5_1 ≤ ((rdOf ByteArray.empty l0 0).size : Int)) = true := decide_eq_true c15
            clear c15
            obtain ⟨js16, hjs16⟩ : ∃ j_ : ByteArray, ((rdOf ByteArray.empty l0 0).extract 0 (x5_1 : Int).toNat) = j_ := ⟨_, rfl⟩
            replace H : (some js16) = some r := by first | (rw [hjs16] at H; exact H) | (simp only [hjs16] at H ⊢; exact H)
            obtain rfl := Option.some.inj H
            have p10 : 0 ≤ (x5_1 : Int) := of_decide_eq_true ax25
            have q10 : x5_1 < ((rdOf ByteArray.empty l0 0).size : Int) := of_decide_eq_true ax25
            have hx10 := bt_at (rdOf ByteArray.empty l0 0) x5_1; replace p10 := eq_true p10; replace q10 := eq_true q10
            have p12 : 0 ≤ (x5_1 : Int) := of_decide_eq_true ax25
            have q12 : x5_1 < ((rdOf ByteArray.empty l0 (ji3)).size : Int) := of_decide_eq_true ax25
            have hx12 := bt_at (rdOf ByteArray.empty l0 (ji3)) x5_1; replace p12 := eq_true p12; replace q12 := eq_true q12
            go_wp2
            repeat (go_quiet (fail); try go_wp2)
            go_ret
            exact ⟨(by first | rfl | (simp [errW_none, errW_some] <;> rfl) | (simp only [← hji3, ← hji6, ← hjs16]; first | rfl | (simp [errW_none, errW_some] <;> rfl)) | (simp [*, errW_none, errW_some] <;> rfl)), by repeat (first | (with_reducible first | exact HB.out | apply below_alloc | apply pw_below_drewN | apply below_drew1) | exact HB.out)⟩
           ·exact ax17
         ·exact ax7
        ·exact ax2
       ·exact ax16
      ·rw [if_neg c7] at H
       have c7b0 : decide (x5_1 < (ji6)) = false := decide_eq_false c7
       clear c7
       by_cases c17 : 0 ≤ x5_1
       ·rw [if_pos c17] at H
        have c17b0 := eq_true c17
        have c17b1 : decide (0 ≤ x5_1) = true := decide_eq_true c17
        clear c17
        by_cases c18 : x5_1 ≤ ((rdOf ByteArray.empty l0 0).size : Int)
        ·rw [if_pos c18] at H
         have c18b0 := eq_true c18
         have c18b1 : decide (x5_1 ≤ ((rdOf ByteArray.empty l0 0).size : Int)) = true := decide_eq_true c18
         clear c18
         obtain ⟨js19, hjs19⟩ : ∃ j_ : ByteArray, ((rdOf ByteArray.empty l0 0).extract 0 (x5_1 : Int).toNat) = j_ := ⟨_, rfl⟩
         replace H : (some js19) = some r := by first | (rw [hjs19] at H; exact H) | (simp only [hjs19] at H ⊢; exact H)
         obtain rfl := Option.some.inj H
         go_wp2
         repeat (go_quiet (fail); try go_wp2)
         go_ret
         exact ⟨(by first | rfl | (simp [errW_none, errW_some] <;> rfl) | (simp only [← hji3, ← hji6, ← hjs19]; first | rfl | (simp [errW_none, errW_some] <;> rfl)) | (simp [*, errW_none, errW_some] <;> rfl)), by repeat (first | (with_reducible first | exact HB.out | apply below_alloc | apply pw_below_drewN | apply below_drew1) | exact HB.out)⟩
        ·exact ax12
       ·exact ax20
   ·exact ax11
  ·exact ax1
 ·rw [if_neg c2] at H
  exact absurd H (by simp)

/-! ### impl_CompleteTo: function 15 -/
def impl_CompleteTo.j0 : Nat → ByteArray → Bool → List (S74) → Option (ByteArray × Bool)
 | 0, _, _, _ => none
 | k + 1, x1, x16, x549000 => if x16 = true then (some ((⟨#[]⟩ : ByteArray), false)) else ((impl_Trie_under.f k x549000 x1).bind fun t553 => ((impl_shared.f k t553).bind fun t556 => (some (t556, true))))
def impl_CompleteTo.f (k : Nat) (l0_0 : List (S74)) (a1 : ByteArray) : Option (ByteArray × Bool) := (impl_areKept.f k l0_0 a1).bind fun t549 => (if t549 = true then ((impl_Trie_under.f k l0_0 a1).bind fun t550 => (impl_CompleteTo.j0 k a1 ((t550.length : Int) == 0) l0_0)) else (impl_CompleteTo.j0 k a1 true l0_0))
theorem impl_CompleteTo.mono_l : ∀ k, (∀ y0 y1 y2, LeO (impl_CompleteTo.j0 k y0 y1 y2) (impl_CompleteTo.j0 (k + 1) y0 y1 y2))
 | 0 => fun _ _ _ r h => by simp [impl_CompleteTo.j0] at h
 | k + 1 => by
  have ih0 := impl_CompleteTo.mono_l k
  ·intro y0 y1 y2
   unfold impl_CompleteTo.j0
   repeat' first | (with_reducible first | exact ih0 .. | exact impl_Trie_under.mono .. | exact impl_areKept.mono .. | exact impl_shared.mono .. | exact LeO.refl _ | exact LeO.none _ | refine LeO.ite ?_ ?_ | refine LeO.bind ?_ (fun _ => ?_)) | exact ih0 .. | exact impl_Trie_under.mono .. | exact impl_areKept.mono .. | exact impl_shared.mono .. | exact LeO.none _ | refine LeO.ite ?_ ?_ | refine LeO.bind ?_ (fun _ => ?_)
theorem impl_CompleteTo.mono : ∀ a0 a1 k, LeO (impl_CompleteTo.f k a0 a1) (impl_CompleteTo.f (k + 1) a0 a1) := by
 intro a0 a1 k
 have ih0 := impl_CompleteTo.mono_l k
 unfold impl_CompleteTo.f
 repeat' first | (with_reducible first | exact ih0 .. | exact impl_Trie_under.mono .. | exact impl_areKept.mono .. | exact impl_shared.mono .. | exact LeO.refl _ | exact LeO.none _ | refine LeO.ite ?_ ?_ | refine LeO.bind ?_ (fun _ => ?_)) | exact ih0 .. | exact impl_Trie_under.mono .. | exact impl_areKept.mono .. | exact impl_shared.mono .. | exact LeO.none _ | refine LeO.ite ?_ ?_ | refine LeO.bind ?_ (fun _ => ?_)
set_option maxHeartbeats 8000000 in
set_option maxRecDepth 100000 in
theorem impl_CompleteTo.calls (k : Nat) (A0_0 : Option Addr) (c0_0 : Nat) (l0_0 : List (S74)) (a1 : ByteArray) (r1 : ByteArray) (r2 : Bool) (w : World) (hr0_0 : Kd.C k74 w A0_0 l0_0.length l0_0) (hc0_0 : l0_0.length ≤ c0_0) (h : impl_CompleteTo.f k l0_0 a1 = some (r1, r2)) :
  Calls Tryz.prog 15 #[.agg #[.slice A0_0 l0_0.length c0_0], .string a1] w fun e w' => e = .returned (.tuple #[.string r1, .bool r2]) ∧ Below w.heap.size w w' := by
 have hu26 := Tryz.underlying26; have HR0_0 := Aside0.mk hr0_0; have HC0_0 := Aside0.mk hc0_0; clear hr0_0 hc0_0; have HB := Aside0.mk (Below.refl w.heap.size w)
 have H : ((impl_areKept.f k l0_0 a1).bind fun t549 => (if t549 = true then ((impl_Trie_under.f k l0_0 a1).bind fun t550 => (impl_CompleteTo.j0 k a1 ((t550.length : Int) == 0) l0_0)) else (impl_CompleteTo.j0 k a1 true l0_0))) = some (r1, r2) := h
 clear h; have HC3 := Aside0.mk H; clear H
 go_enter Tryz.func15, Tryz.ntmps15
 go_upto_region 1 with (first | ((with_reducible refine gate_dst (N := 2) rfl ?_); (try (refine gate_guard (by rfl) ?_; dsimp only)); refine box_event ?hg (N := 2) ?hd (cs := #[.slice A0_0 l0_0.length c0_0]) (t := 26) ?hr ?_; (case hd => rfl); (case hg => rfl); (case hr => exact ax31); intro gb548 hg w4 hbox hb; have BK548 := Aside0.mk (hbox); have GW548 := uG hg HB; have GE548 := uG hg HB; replace HB := uB HB hb; clear hb hbox hg))
 (try simp only [Act.put, List.setIfInBounds_toArray, List.set_cons_zero, List.set_cons_succ])
 go_cut [16] (fun v16 wc => ∃ (kq : Nat) (x16_2 : Bool), v16 = .bool x16_2 ∧ Aside0 (impl_CompleteTo.j0 kq a1 x16_2 l0_0 = some (r1, r2)) ∧ Aside0 (kq ≤ k) ∧ Aside0 (wc.heap[gb548]? = some (.cells #[(.slice A0_0 l0_0.length c0_0)] 26 (0, 0))) ∧ Aside0 (Below w.heap.size w wc))
 case first =>
  have H := HC3.out; clear HC3
  obtain ⟨t549, A5, H⟩ := bs H
  by_cases c6 : t549 = true
  ·subst c6
   rw [if_pos rfl] at H
   obtain ⟨t550, A7, H⟩ := bs H
   have H' := Aside0.mk H
   clear H; have hcz8_0 := bc (.slice A0_0 l0_0.length c0_0) BK548 0; have hfz8_0 := blk_frozen BK548.out 0
   go_wp2_with (first | ((with_reducible refine gd 8 110 ?_); refine gc 8 Tryz.func110 #[.agg #[.slice A0_0 l0_0.length c0_0], .string a1] (impl_areKept.calls k _ _ l0_0 a1 true _ ax142 (HC0_0.out) A5.out) ?_; rintro e w9 ⟨rfl, hb⟩; refine ⟨_, rfl, ?_⟩; replace BK548 := ub BK548 hb; replace HB := Aside0.mk (below_step ax351 hb); (try clear hb); (try clear hb2); (try clear hk); (try clear hi); have hcz10_0 := bc (.slice A0_0 l0_0.length c0_0) BK548 0; have hfz10_0 := blk_frozen BK548.out 0) | (go_at_call 112; (with_reducible refine (impl_Trie_under.calls k _ _ l0_0 a1 t550 _ ?side1 ?side2 A7.out).mono ?_); (case side1 => exact ax142); (case side2 => exact ax157); rintro e w11 ⟨v551, rfl, ho0, hb⟩; have HO552 := Aside0.mk (Kd.R_lower ho0 (below_size ax351)); replace BK548 := ub BK548 hb; replace HB := Aside0.mk (below_step ax351 hb); (try clear hb); (try clear hb2); (try clear hk); (try clear hi); (try clear ho0); obtain ⟨Ao12, co12, eo12⟩ := Kd.R_slice HO552.out; subst eo12))
   go_meet
   case rel => exact ⟨_, (((t550.length : Int) == 0)), ax30, H', ⟨by first | omega | exact Nat.le_refl _⟩, ⟨ax352⟩, ⟨ax351⟩⟩
  ·replace c6 := Bool.eq_false_iff.mpr c6
   subst c6
   rw [if_neg (show ¬ (false = true) by decide)] at H
   have H' := Aside0.mk H
   clear H; have hcz13_0 := bc (.slice A0_0 l0_0.length c0_0) BK548 0; have hfz13_0 := blk_frozen BK548.out 0
   go_wp2_with (first | ((with_reducible refine gd 8 110 ?_); refine gc 8 Tryz.func110 #[.agg #[.slice A0_0 l0_0.length c0_0], .string a1] (impl_areKept.calls k _ _ l0_0 a1 false _ ax142 (HC0_0.out) A5.out) ?_; rintro e w14 ⟨rfl, hb⟩; refine ⟨_, rfl, ?_⟩; replace BK548 := ub BK548 hb; replace HB := Aside0.mk (below_step ax351 hb); (try clear hb); (try clear hb2); (try clear hk); (try clear hi)))
   go_meet
   case rel => exact ⟨_, (true), ax30, H', ⟨by first | omega | exact Nat.le_refl _⟩, ⟨ax352⟩, ⟨ax351⟩⟩
 case rest =>
  clear HC3
  obtain ⟨kq, x16_2, rfl, HA, HJ2, BK548, HB⟩ := hcut
  cases kq with
  | zero => exact absurd HA.out (by simp [impl_CompleteTo.j0])
  | succ kj2 =>
   have H := HA.out; clear HA
   simp only [impl_CompleteTo.j0] at H
   by_cases c15 : x16_2 = true
   ·subst c15
    rw [if_pos rfl] at H
    simp only [Option.some.injEq, Prod.mk.injEq] at H
    obtain ⟨rfl, rfl⟩ := H
    go_wp2
    go_ret2
    exact ⟨ax26, by repeat (first | (with_reducible first | exact HB.out | apply below_alloc | apply pw_below_drewN | apply below_drew1 | refine below_set ?_ GE548.out) | exact HB.out)⟩
   ·replace c15 := Bool.eq_false_iff.mpr c15
    subst c15
    rw [if_neg (show ¬ (false = true) by decide)] at H
    obtain ⟨t553, A16, H⟩ := bs H
    obtain ⟨t556, A17, H⟩ := bs H
    simp only [Option.some.injEq, Prod.mk.injEq] at H
    obtain ⟨rfl, rfl⟩ := H
    have hcz18_0 := bc (.slice A0_0 l0_0.length c0_0) BK548 0; have hfz18_0 := blk_frozen BK548.out 0
    go_wp2_with (first | ((with_reducible refine gd 19 112 ?_); refine gc 19 Tryz.func112 #[.agg #[.slice A0_0 l0_0.length c0_0], .string a1] (impl_Trie_under.calls kj2 _ _ l0_0 a1 t553 _ ax142 (HC0_0.out) A16.out) ?_; rintro e w19 ⟨v554, rfl, ho0, hb⟩; refine ⟨_, rfl, ?_⟩; have HO555 := Aside0.mk (Kd.R_lower ho0 (below_size ax351)); replace BK548 := ub BK548 hb; replace HB := Aside0.mk (below_step ax351 hb); (try clear hb); (try clear hb2); (try clear hk); (try clear hi); (try clear ho0); obtain ⟨Ao20, co20, eo20⟩ := Kd.R_slice HO555.out; subst eo20) | ((with_reducible refine gd 20 119 ?_); refine gc 20 Tryz.func119 #[.slice Ao20 t553.length co20] (impl_shared.calls kj2 _ _ t553 t556 _ (by repeat (first | exact (Kd.R_reads' HO555.out).2.2 | (with_reducible refine Kd.C_alloc ?_ _) | (with_reducible refine Kd.C_drewN ?_ _) | (with_reducible refine Kd.C_drew ?_))) ((Kd.R_reads' HO555.out).2.1) A17.out) ?_; rintro e w21 ⟨rfl, hb⟩; refine ⟨_, rfl, ?_⟩; replace HO555 := uR HO555 hb; replace BK548 := ub BK548 hb; replace HB := Aside0.mk (below_step ax351 hb); (try clear hb); (try clear hb2); (try clear hk); (try clear hi)))
    go_ret2
    exact ⟨ax26, by repeat (first | (with_reducible first | exact HB.out | apply below_alloc | apply pw_below_drewN | apply below_drew1 | refine below_set ?_ GE548.out) | exact HB.out)⟩

/-! ### spec_l3Shared: function 120 -/
def spec_l3Shared.l0 : Nat → List ByteArray → ByteArray → Option (ByteArray)
 | 0, _, _ => none
 | k + 1, x0, x3 => (spec_l3Under.f k x0 x3).bind fun t558 => (if (t558.length : Int) < (x0.length : Int) then (if 0 ≤ (wrap64 ((x3.size : Int) - 1)) then (if (wrap64 ((x3.size : Int) - 1)) ≤ (x3.size : Int) then (spec_l3Shared.l0 k x0 (x3.extract 0 ((wrap64 ((x3.size : Int) - 1)) : Int).toNat)) else (none)) else (none)) else (some x3))
def spec_l3Shared.f (k : Nat) (l0 : List ByteArray) : Option (ByteArray) := if 0 < (l0.length : Int) then (spec_l3Shared.l0 k l0 (rdOf ByteArray.empty l0 0)) else (none)
theorem spec_l3Shared.mono_l : ∀ k, (∀ y0 y1, LeO (spec_l3Shared.l0 k y0 y1) (spec_l3Shared.l0 (k + 1) y0 y1))
 | 0 => fun _ _ r h => by simp [spec_l3Shared.l0] at h
 | k + 1 => by
  have ih0 := spec_l3Shared.mono_l k
  ·intro y0 y1
   unfold spec_l3Shared.l0
   repeat' first | (with_reducible first | exact ih0 .. | exact spec_l3Under.mono .. | exact LeO.refl _ | exact LeO.none _ | refine LeO.ite ?_ ?_ | refine LeO.bind ?_ (fun _ => ?_)) | exact ih0 .. | exact spec_l3Under.mono .. | exact LeO.none _ | refine LeO.ite ?_ ?_ | refine LeO.bind ?_ (fun _ => ?_)
theorem spec_l3Shared.mono : ∀ a0 k, LeO (spec_l3Shared.f k a0) (spec_l3Shared.f (k + 1) a0) := by
 intro a0 k
 have ih0 := spec_l3Shared.mono_l k
 unfold spec_l3Shared.f
 repeat' first | (with_reducible first | exact ih0 .. | exact spec_l3Under.mono .. | exact LeO.refl _ | exact LeO.none _ | refine LeO.ite ?_ ?_ | refine LeO.bind ?_ (fun _ => ?_)) | exact ih0 .. | exact spec_l3Under.mono .. | exact LeO.none _ | refine LeO.ite ?_ ?_ | refine LeO.bind ?_ (fun _ => ?_)
set_option maxHeartbeats 8000000 in
set_option maxRecDepth 100000 in
theorem spec_l3Shared.calls (k : Nat) (A0 : Option Addr) (c0 : Nat) (l0 : List ByteArray) (r : ByteArray) (w : World) (hr0 : Kd.C Kd.string w A0 l0.length l0) (hc0 : l0.length ≤ c0) (h : spec_l3Shared.f k l0 = some r) :
  Calls Tryz.prog 120 #[.slice A0 l0.length c0] w fun e w' => e = .returned (.string r) ∧ Below w.heap.size w w' := by
 have HR0 := Aside0.mk hr0; have HC0 := Aside0.mk hc0; clear hr0 hc0; have HB := Aside0.mk (Below.refl w.heap.size w)
 have H : (if 0 < (l0.length : Int) then (spec_l3Shared.l0 k l0 (rdOf ByteArray.empty l0 0)) else (none)) = some r := h
 clear h
 by_cases c2 : 0 < (l0.length : Int)
 ·rw [if_pos c2] at H
  have c2b0 : decide (0 < (l0.length : Int)) = true := decide_eq_true c2
  have c2b1 : decide (0 < l0.length) = true := decide_eq_true (by omega)
  clear c2
  have H' := Aside0.mk H
  clear H
  have p557 : 0 ≤ (0 : Int) := (by omega)
  have q557 : 0 < (l0.length : Int) := of_decide_eq_true ax25
  obtain ⟨ad557, e557, hx557_0⟩ := Kd.at_string HR0.out 0 p557 q557
  cases e557
  have qi557 : (0 < l0.length) = True := eq_true (by omega)
  (try rw [show ((0 : Int)).toNat = 0 from rfl] at hx557_0)
  (try rw [Addr.add_zero'] at hx557_0)
  replace p557 := eq_true p557; replace q557 := eq_true q557
  go_enter Tryz.func120, Tryz.ntmps120
  go_wp2
  go_loopg [3] k (fun kq v3 w' => ∃ (x3_1 : ByteArray), v3 = .string x3_1 ∧ Aside0 (spec_l3Shared.l0 kq l0 x3_1 = some r) ∧ Aside0 (kq ≤ k) ∧ Aside0 (Below w.heap.size w w'))
  case atStart => exact ⟨(rdOf ByteArray.empty l0 0), ax30, H', ⟨Nat.le_refl _⟩, ⟨ax38⟩⟩
  case round =>
   clear H'
   (try clear q557);(try clear p557);(try clear hx557_0);(try clear qi557);(try clear c2);(try clear c2b1);(try clear c2b0)
   obtain ⟨x3_1, rfl, HA, HK1, HB⟩ := hrel
   cases gk with
   | zero => exact absurd HA.out (by simp [spec_l3Shared.l0])
   | succ k1 =>
    have H := HA.out; clear HA
    simp only [spec_l3Shared.l0] at H
    obtain ⟨t558, A3, H⟩ := bs H
    by_cases c4 : (t558.length : Int) < (l0.length : Int)
    ·rw [if_pos c4] at H
     have c4b0 : decide ((t558.length : Int) < (l0.length : Int)) = true := decide_eq_true c4
     have c4b1 : decide (t558.length < l0.length) = true := decide_eq_true (Int.ofNat_lt.mp c4)
     clear c4
     obtain ⟨ji5, hji5⟩ : ∃ j_ : Int, (wrap64 ((x3_1.size : Int) - 1)) = j_ := ⟨_, rfl⟩
     replace H : (if 0 ≤ (ji5) then (if (ji5) ≤ (x3_1.size : Int) then (spec_l3Shared.l0 k1 l0 (x3_1.extract 0 ((ji5) : Int).toNat)) else (none)) else (none)) = some r := by first | (rw [hji5] at H; exact H) | (simp only [hji5] at H ⊢; exact H)
     (try rw [hji5] at A3)
     have hji5w : (IntKind.i64.wrap ((x3_1.size : Int) - 1)) = ji5 := (i64_w _).trans hji5
     by_cases c6 : 0 ≤ (ji5)
     ·rw [if_pos c6] at H
      have c6b0 := eq_true c6
      have c6b1 : decide (0 ≤ (ji5)) = true := decide_eq_true c6
      clear c6
      by_cases c7 : (ji5) ≤ (x3_1.size : Int)
      ·rw [if_pos c7] at H
       have c7b0 := eq_true c7
       have c7b1 : decide ((ji5) ≤ (x3_1.size : Int)) = true := decide_eq_true c7
       clear c7
       obtain ⟨js8, hjs8⟩ : ∃ j_ : ByteArray, (x3_1.extract 0 ((ji5) : Int).toNat) = j_ := ⟨_, rfl⟩
       replace H : (spec_l3Shared.l0 k1 l0 js8) = some r := by first | (rw [hjs8] at H; exact H) | (simp only [hjs8] at H ⊢; exact H)
       have H' := Aside0.mk H
       clear H
       go_wp2_with (first | ((with_reducible refine gd 9 118 ?_); refine gc 9 Tryz.func118 #[.slice (some ad557) l0.length c0, .string x3_1] (spec_l3Under.calls k1 _ _ l0 x3_1 t558 _ ax33 (HC0.out) A3.out) ?_; rintro e w9 ⟨v559, rfl, ho0, hb⟩; refine ⟨_, rfl, ?_⟩; have HO560 := uL ho0 HB; replace HB := uB HB hb; (try clear hb); (try clear hb2); (try clear hk); (try clear hi); (try clear ho0); obtain ⟨Ao10, co10, eo10⟩ := Kd.R_slice HO560.out; subst eo10))
       go_roundg k1
       case measure => have := HK1.out; omega
       case rel => exact ⟨(js8), (by first | rfl | (simp; done) | (simp only [← hjs8] <;> (first | rfl | simp)) | (simp [*]; done)), H', ⟨by have := HK1.out; omega⟩, ⟨ax38⟩⟩
      ·exact ax3
     ·exact ax4
    ·rw [if_neg c4] at H
     have c4b0 : decide ((t558.length : Int) < (l0.length : Int)) = false := decide_eq_false c4
     have c4b1 : decide (t558.length < l0.length) = false := decide_eq_false (fun h => c4 (Int.ofNat_lt.mpr h))
     clear c4
     obtain rfl := Option.some.inj H
     go_wp2_with (first | ((with_reducible refine gd 9 118 ?_); refine gc 9 Tryz.func118 #[.slice (some ad557) l0.length c0, .string x3_1] (spec_l3Under.calls k1 _ _ l0 x3_1 t558 _ ax33 (HC0.out) A3.out) ?_; rintro e w11 ⟨v559, rfl, ho0, hb⟩; refine ⟨_, rfl, ?_⟩; have HO560 := uL ho0 HB; replace HB := uB HB hb; (try clear hb); (try clear hb2); (try clear hk); (try clear hi); (try clear ho0); obtain ⟨Ao12, co12, eo12⟩ := Kd.R_slice HO560.out; subst eo12))
     go_ret
     exact ⟨ax26, by repeat (first | (with_reducible first | exact HB.out | apply below_alloc | apply pw_below_drewN | apply below_drew1) | exact HB.out)⟩
 ·rw [if_neg c2] at H
  exact absurd H (by simp)

/-! ### spec_CompleteTo: function 16 -/
def spec_CompleteTo.j0 : Nat → ByteArray → Bool → List (S74) → Option (ByteArray × Bool)
 | 0, _, _, _ => none
 | k + 1, x1, x14, x562000 => if x14 = true then (some ((⟨#[]⟩ : ByteArray), false)) else ((spec_l2Words.f k x562000).bind fun t564 => ((spec_l3Under.f k t564 x1).bind fun t567 => (if (t567.length : Int) = 0 then (some ((⟨#[]⟩ : ByteArray), false)) else ((spec_l3Shared.f k t567).bind fun t570 => (some (t570, true))))))
def spec_CompleteTo.f (k : Nat) (l0_0 : List (S74)) (a1 : ByteArray) : Option (ByteArray × Bool) := (spec_l2Trie.f k l0_0).bind fun t562 => (if t562 = true then ((spec_l2Word.f k a1).bind fun t563 => (spec_CompleteTo.j0 k a1 (!t563) l0_0)) else (spec_CompleteTo.j0 k a1 true l0_0))
theorem spec_CompleteTo.mono_l : ∀ k, (∀ y0 y1 y2, LeO (spec_CompleteTo.j0 k y0 y1 y2) (spec_CompleteTo.j0 (k + 1) y0 y1 y2))
 | 0 => fun _ _ _ r h => by simp [spec_CompleteTo.j0] at h
 | k + 1 => by
  have ih0 := spec_CompleteTo.mono_l k
  ·intro y0 y1 y2
   unfold spec_CompleteTo.j0
   repeat' first | (with_reducible first | exact ih0 .. | exact spec_l2Trie.mono .. | exact spec_l2Word.mono .. | exact spec_l2Words.mono .. | exact spec_l3Shared.mono .. | exact spec_l3Under.mono .. | exact LeO.refl _ | exact LeO.none _ | refine LeO.ite ?_ ?_ | refine LeO.bind ?_ (fun _ => ?_)) | exact ih0 .. | exact spec_l2Trie.mono .. | exact spec_l2Word.mono .. | exact spec_l2Words.mono .. | exact spec_l3Shared.mono .. | exact spec_l3Under.mono .. | exact LeO.none _ | refine LeO.ite ?_ ?_ | refine LeO.bind ?_ (fun _ => ?_)
theorem spec_CompleteTo.mono : ∀ a0 a1 k, LeO (spec_CompleteTo.f k a0 a1) (spec_CompleteTo.f (k + 1) a0 a1) := by
 intro a0 a1 k
 have ih0 := spec_CompleteTo.mono_l k
 unfold spec_CompleteTo.f
 repeat' first | (with_reducible first | exact ih0 .. | exact spec_l2Trie.mono .. | exact spec_l2Word.mono .. | exact spec_l2Words.mono .. | exact spec_l3Shared.mono .. | exact spec_l3Under.mono .. | exact LeO.refl _ | exact LeO.none _ | refine LeO.ite ?_ ?_ | refine LeO.bind ?_ (fun _ => ?_)) | exact ih0 .. | exact spec_l2Trie.mono .. | exact spec_l2Word.mono .. | exact spec_l2Words.mono .. | exact spec_l3Shared.mono .. | exact spec_l3Under.mono .. | exact LeO.none _ | refine LeO.ite ?_ ?_ | refine LeO.bind ?_ (fun _ => ?_)
set_option maxHeartbeats 8000000 in
set_option maxRecDepth 100000 in
theorem spec_CompleteTo.calls (k : Nat) (A0_0 : Option Addr) (c0_0 : Nat) (l0_0 : List (S74)) (a1 : ByteArray) (r1 : ByteArray) (r2 : Bool) (w : World) (hr0_0 : Kd.C k74 w A0_0 l0_0.length l0_0) (hc0_0 : l0_0.length ≤ c0_0) (h : spec_CompleteTo.f k l0_0 a1 = some (r1, r2)) :
  Calls Tryz.prog 16 #[.agg #[.slice A0_0 l0_0.length c0_0], .string a1] w fun e w' => e = .returned (.tuple #[.string r1, .bool r2]) ∧ Below w.heap.size w w' := by
 have hu26 := Tryz.underlying26; have HR0_0 := Aside0.mk hr0_0; have HC0_0 := Aside0.mk hc0_0; clear hr0_0 hc0_0; have HB := Aside0.mk (Below.refl w.heap.size w)
 have H : ((spec_l2Trie.f k l0_0).bind fun t562 => (if t562 = true then ((spec_l2Word.f k a1).bind fun t563 => (spec_CompleteTo.j0 k a1 (!t563) l0_0)) else (spec_CompleteTo.j0 k a1 true l0_0))) = some (r1, r2) := h
 clear h; have HC3 := Aside0.mk H; clear H
 go_enter Tryz.func16, Tryz.ntmps16
 go_upto_region 1 with (first | ((with_reducible refine gate_dst (N := 2) rfl ?_); refine box_event ?hg (N := 2) ?hd (cs := #[.slice A0_0 l0_0.length c0_0]) (t := 26) ?hr ?_; (case hd => rfl); (case hg => rfl); (case hr => exact ax31); intro gb561 hg w4 hbox hb; have BK561 := Aside0.mk (hbox); have GW561 := uG hg HB; have GE561 := uG hg HB; replace HB := uB HB hb; clear hb hbox hg))
 (try simp only [Act.put, List.setIfInBounds_toArray, List.set_cons_zero, List.set_cons_succ])
 go_cut [14] (fun v14 wc => ∃ (kq : Nat) (x14_2 : Bool), v14 = .bool x14_2 ∧ Aside0 (spec_CompleteTo.j0 kq a1 x14_2 l0_0 = some (r1, r2)) ∧ Aside0 (kq ≤ k) ∧ Aside0 (wc.heap[gb561]? = some (.cells #[(.slice A0_0 l0_0.length c0_0)] 26 (0, 0))) ∧ Aside0 (Below w.heap.size w wc))
 case first =>
  have H := HC3.out; clear HC3
  obtain ⟨t562, A5, H⟩ := bs H
  by_cases c6 : t562 = true
  ·subst c6
   rw [if_pos rfl] at H
   obtain ⟨t563, A7, H⟩ := bs H
   have H' := Aside0.mk H
   clear H; have hcz8_0 := bc (.slice A0_0 l0_0.length c0_0) BK561 0; have hfz8_0 := blk_frozen BK561.out 0
   go_wp2_with (first | ((with_reducible refine gd 8 113 ?_); refine gc 8 Tryz.func113 #[.agg #[.slice A0_0 l0_0.length c0_0]] (spec_l2Trie.calls k _ _ l0_0 true _ ax142 (HC0_0.out) A5.out) ?_; rintro e w9 ⟨rfl, hb⟩; refine ⟨_, rfl, ?_⟩; replace BK561 := ub BK561 hb; replace HB := Aside0.mk (below_step ax353 hb); (try clear hb); (try clear hb2); (try clear hk); (try clear hi)) | (go_at_call 117; (with_reducible refine (spec_l2Word.calls k a1 t563 _ A7.out).mono ?_); rintro e w' ⟨rfl, ⟨nd, rfl⟩⟩))
   go_meet
   case rel => exact ⟨_, (!t563), ax30, H', ⟨by first | omega | exact Nat.le_refl _⟩, ⟨ax354⟩, ⟨ax353⟩⟩
  ·replace c6 := Bool.eq_false_iff.mpr c6
   subst c6
   rw [if_neg (show ¬ (false = true) by decide)] at H
   have H' := Aside0.mk H
   clear H; have hcz10_0 := bc (.slice A0_0 l0_0.length c0_0) BK561 0; have hfz10_0 := blk_frozen BK561.out 0
   go_wp2_with (first | ((with_reducible refine gd 8 113 ?_); refine gc 8 Tryz.func113 #[.agg #[.slice A0_0 l0_0.length c0_0]] (spec_l2Trie.calls k _ _ l0_0 false _ ax142 (HC0_0.out) A5.out) ?_; rintro e w11 ⟨rfl, hb⟩; refine ⟨_, rfl, ?_⟩; replace BK561 := ub BK561 hb; replace HB := Aside0.mk (below_step ax353 hb); (try clear hb); (try clear hb2); (try clear hk); (try clear hi)))
   go_meet
   case rel => exact ⟨_, (true), ax30, H', ⟨by first | omega | exact Nat.le_refl _⟩, ⟨ax354⟩, ⟨ax353⟩⟩
 case rest =>
  clear HC3
  obtain ⟨kq, x14_2, rfl, HA, HJ2, BK561, HB⟩ := hcut
  cases kq with
  | zero => exact absurd HA.out (by simp [spec_CompleteTo.j0])
  | succ kj2 =>
   have H := HA.out; clear HA
   simp only [spec_CompleteTo.j0] at H
   by_cases c12 : x14_2 = true
   ·subst c12
    rw [if_pos rfl] at H
    simp only [Option.some.injEq, Prod.mk.injEq] at H
    obtain ⟨rfl, rfl⟩ := H
    go_wp2
    go_ret2
    exact ⟨ax26, by repeat (first | (with_reducible first | exact HB.out | apply below_alloc | apply pw_below_drewN | apply below_drew1 | refine below_set ?_ GE561.out) | exact HB.out)⟩
   ·replace c12 := Bool.eq_false_iff.mpr c12
    subst c12
    rw [if_neg (show ¬ (false = true) by decide)] at H
    obtain ⟨t564, A13, H⟩ := bs H
    obtain ⟨t567, A14, H⟩ := bs H
    by_cases c15 : (t567.length : Int) = 0
    ·rw [if_pos c15] at H
     have c15b0 : ((t567.length : Int) == 0) = true := beq_iff_eq.mpr c15
     have c15b1 : ((t567.length : Int) != 0) = false := bne_eq_false_iff_eq.mpr c15
     clear c15
     simp only [Option.some.injEq, Prod.mk.injEq] at H
     obtain ⟨rfl, rfl⟩ := H
     have hcz16_0 := bc (.slice A0_0 l0_0.length c0_0) BK561 0; have hfz16_0 := blk_frozen BK561.out 0
     go_wp2_with (first | ((with_reducible refine gd 16 115 ?_); refine gc 16 Tryz.func115 #[.agg #[.slice A0_0 l0_0.length c0_0]] (spec_l2Words.calls kj2 _ _ l0_0 t564 _ ax142 (HC0_0.out) A13.out) ?_; rintro e w17 ⟨v565, rfl, ho0, hb⟩; refine ⟨_, rfl, ?_⟩; have HO566 := Aside0.mk (Kd.R_lower ho0 (below_size ax353)); replace BK561 := ub BK561 hb; replace HB := Aside0.mk (below_step ax353 hb); (try clear hb); (try clear hb2); (try clear hk); (try clear hi); (try clear ho0); obtain ⟨Ao18, co18, eo18⟩ := Kd.R_slice HO566.out; subst eo18) | ((with_reducible refine gd 18 118 ?_); refine gc 18 Tryz.func118 #[.slice Ao18 t564.length co18, .string a1] (spec_l3Under.calls kj2 _ _ t564 a1 t567 _ ax355 ((Kd.R_reads' HO566.out).2.1) A14.out) ?_; rintro e w19 ⟨v568, rfl, ho0, hb⟩; refine ⟨_, rfl, ?_⟩; have HO569 := Aside0.mk (Kd.R_lower (Kd.R_new' ho0 (Kd.R_lt ax356)) (below_size ax353)); replace HO566 := Aside0.mk (Kd.R_elder' ax356 (Kd.R_base ho0) hb); replace BK561 := ub BK561 hb; replace HB := Aside0.mk (below_step ax353 hb); (try clear hb); (try clear hb2); (try clear hk); (try clear hi); (try clear ho0); obtain ⟨Ao20, co20, eo20⟩ := Kd.R_slice HO569.out; subst eo20))
     go_ret2
     exact ⟨ax26, by repeat (first | (with_reducible first | exact HB.out | apply below_alloc | apply pw_below_drewN | apply below_drew1 | refine below_set ?_ GE561.out) | exact HB.out)⟩
    ·rw [if_neg c15] at H
     have c15b0 : ((t567.length : Int) == 0) = false := beq_eq_false_iff_ne.mpr c15
     have c15b1 : ((t567.length : Int) != 0) = true := bne_iff_ne.mpr c15
     have c15b2 : ¬ (t567 = []) := fun h_ => c15 (by rw [h_]; rfl)
     obtain ⟨t570, A21, H⟩ := bs H
     simp only [Option.some.injEq, Prod.mk.injEq] at H
     obtain ⟨rfl, rfl⟩ := H
     have hcz22_0 := bc (.slice A0_0 l0_0.length c0_0) BK561 0; have hfz22_0 := blk_frozen BK561.out 0
     go_wp2_with (first | ((with_reducible refine gd 16 115 ?_); refine gc 16 Tryz.func115 #[.agg #[.slice A0_0 l0_0.length c0_0]] (spec_l2Words.calls kj2 _ _ l0_0 t564 _ ax142 (HC0_0.out) A13.out) ?_; rintro e w23 ⟨v565, rfl, ho0, hb⟩; refine ⟨_, rfl, ?_⟩; have HO566 := Aside0.mk (Kd.R_lower ho0 (below_size ax353)); replace BK561 := ub BK561 hb; replace HB := Aside0.mk (below_step ax353 hb); (try clear hb); (try clear hb2); (try clear hk); (try clear hi); (try clear ho0); obtain ⟨Ao24, co24, eo24⟩ := Kd.R_slice HO566.out; subst eo24) | ((with_reducible refine gd 18 118 ?_); refine gc 18 Tryz.func118 #[.slice Ao24 t564.length co24, .string a1] (spec_l3Under.calls kj2 _ _ t564 a1 t567 _ ax355 ((Kd.R_reads' HO566.out).2.1) A14.out) ?_; rintro e w25 ⟨v568, rfl, ho0, hb⟩; refine ⟨_, rfl, ?_⟩; have HO569 := Aside0.mk (Kd.R_lower (Kd.R_new' ho0 (Kd.R_lt ax356)) (below_size ax353)); replace HO566 := Aside0.mk (Kd.R_elder' ax356 (Kd.R_base ho0) hb); replace BK561 := ub BK561 hb; replace HB := Aside0.mk (below_step ax353 hb); (try clear hb); (try clear hb2); (try clear hk); (try clear hi); (try clear ho0); obtain ⟨Ao26, co26, eo26⟩ := Kd.R_slice HO569.out; subst eo26) | ((with_reducible refine gd 23 120 ?_); refine gc 23 Tryz.func120 #[.slice Ao26 t567.length co26] (spec_l3Shared.calls kj2 _ _ t567 t570 _ (by repeat (first | exact (Kd.R_reads' HO569.out).2.2 | (with_reducible refine Kd.C_alloc ?_ _) | (with_reducible refine Kd.C_drewN ?_ _) | (with_reducible refine Kd.C_drew ?_))) ((Kd.R_reads' HO569.out).2.1) A21.out) ?_; rintro e w27 ⟨rfl, hb⟩; refine ⟨_, rfl, ?_⟩; replace HO566 := uR HO566 hb; replace HO569 := uR HO569 hb; replace BK561 := ub BK561 hb; replace HB := Aside0.mk (below_step ax353 hb); (try clear hb); (try clear hb2); (try clear hk); (try clear hi)))
     go_ret2
     exact ⟨ax26, by repeat (first | (with_reducible first | exact HB.out | apply below_alloc | apply pw_below_drewN | apply below_drew1 | refine below_set ?_ GE561.out) | exact HB.out)⟩

end Go.Proofs.YtcplbbflfgckbaaGreatDoor.X


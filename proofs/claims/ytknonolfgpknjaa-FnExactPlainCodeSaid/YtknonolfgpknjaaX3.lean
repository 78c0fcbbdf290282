-- By gen.py (the session's own program over the kit's printer): functions of the program, each with its contract. Lean checks it.
import Derived.Test.YtknonolfgpknjaaX0
import Derived.Test.YtknonolfgpknjaaX2
namespace Go.Proofs.Ytknonolfgpknjaa.X
open Go.RowKit Go.Proofs.YtknonolfgpknjaaW.PrintWords Go.Proofs.YtknonolfgpknjaaW.PrintLast Go.Proofs.YtknonolfgpknjaaW.PrintMore
attribute [local go_sem] max2_int min2_int max_two min_two max_three min_three max_four min_four   -- for this text's walks alone
set_option linter.unusedVariables false
set_option linter.unusedSimpArgs false

/-! ### impl_fill: function 33 -/
def impl_fill.l0 : Nat → Int → List Int → Int → Int → Option (Int)
 | 0, _, _, _, _ => none
 | k + 1, x3, x6, x7, x8 => if x8 < x7 then (if 0 ≤ x8 then (if x8 < (x6.length : Int) then (if 0 ≤ (wrap64 (14 - (rd x6 x8))) then (impl_fill.l0 k (wrap64 (x3 + (shl .i64 1 (wrap64 (14 - (rd x6 x8)))))) x6 x7 (wrap64 (x8 + 1))) else (none)) else (none)) else (none)) else (some x3)
def impl_fill.f (k : Nat) (l0 : List Int) : Option (Int) := impl_fill.l0 k 0 l0 (l0.length : Int) 0
theorem impl_fill.mono_l : ∀ k, (∀ y0 y1 y2 y3, LeO (impl_fill.l0 k y0 y1 y2 y3) (impl_fill.l0 (k + 1) y0 y1 y2 y3))
 | 0 => fun _ _ _ _ r h => by simp [impl_fill.l0] at h
 | k + 1 => by
  have ih0 := impl_fill.mono_l k
  ·intro y0 y1 y2 y3
   unfold impl_fill.l0
   repeat' first | (with_reducible first | exact ih0 .. | exact LeO.refl _ | exact LeO.none _ | refine LeO.ite ?_ ?_ | refine LeO.bind ?_ (fun _ => ?_)) | exact ih0 .. | exact LeO.none _ | refine LeO.ite ?_ ?_ | refine LeO.bind ?_ (fun _ => ?_)
theorem impl_fill.mono : ∀ a0 k, LeO (impl_fill.f k a0) (impl_fill.f (k + 1) a0) := by
 intro a0 k
 have ih0 := impl_fill.mono_l k
 unfold impl_fill.f
 repeat' first | (with_reducible first | exact ih0 .. | exact LeO.refl _ | exact LeO.none _ | refine LeO.ite ?_ ?_ | refine LeO.bind ?_ (fun _ => ?_)) | exact ih0 .. | exact LeO.none _ | refine LeO.ite ?_ ?_ | refine LeO.bind ?_ (fun _ => ?_)
set_option maxHeartbeats 8000000 in
set_option maxRecDepth 100000 in
theorem impl_fill.calls (k : Nat) (A0 : Option Addr) (c0 : Nat) (l0 : List Int) (r : Int) (w : World) (hr0 : Kd.C (Kd.int .i64) w A0 l0.length l0) (hc0 : l0.length ≤ c0) (h : impl_fill.f k l0 = some r) :
  Calls Try.prog 33 #[.slice A0 l0.length c0] w fun e w' => e = .returned (.int .i64 r) ∧ Drawn0 w w' := by
 have HR0 := Aside0.mk hr0; have HC0 := Aside0.mk hc0; clear hr0 hc0
 have H : (impl_fill.l0 k 0 l0 (l0.length : Int) 0) = some r := h
 clear h
 have H' := Aside0.mk H
 clear H
 go_enter Try.func33, Try.ntmps33
 go_wp2
 go_loopg [3, 8] k (fun kq v3 v8 w' => ∃ (x3_1 : Int) (x8_1 : Int), v3 = .int .i64 x3_1 ∧ v8 = .int .i64 x8_1 ∧ Aside0 (impl_fill.l0 kq x3_1 l0 (l0.length : Int) x8_1 = some r) ∧ Aside0 (kq ≤ k) ∧ Drawn0 w w')
 case atStart => exact ⟨(0), (0), ax6, ax6, H', ⟨Nat.le_refl _⟩, by repeat (first | exact Drawn0.refl _ | apply Drawn0.step)⟩
 case round =>
  clear H'
  obtain ⟨x3_1, x8_1, rfl, rfl, HA, HK1, ⟨m1, rfl⟩⟩ := hrel
  cases gk with
  | zero => exact absurd HA.out (by simp [impl_fill.l0])
  | succ k1 =>
   have H := HA.out; clear HA
   simp only [impl_fill.l0] at H
   by_cases c2 : x8_1 < (l0.length : Int)
   ·rw [if_pos c2] at H
    have c2b0 : decide (x8_1 < (l0.length : Int)) = true := decide_eq_true c2
    clear c2
    by_cases c3 : 0 ≤ x8_1
    ·rw [if_pos c3] at H
     have c3b0 : decide (0 ≤ x8_1) = true := decide_eq_true c3
     clear c3
     by_cases c4 : x8_1 < (l0.length : Int)
     ·rw [if_pos c4] at H
      have c4b0 : decide (x8_1 < (l0.length : Int)) = true := decide_eq_true c4
      clear c4
      obtain ⟨ji5, hji5⟩ : ∃ j_ : Int, (wrap64 (14 - (rd l0 x8_1))) = j_ := ⟨_, rfl⟩
      replace H : (if 0 ≤ (ji5) then (impl_fill.l0 k1 (wrap64 (x3_1 + (shl .i64 1 (ji5)))) l0 (l0.length : Int) (wrap64 (x8_1 + 1))) else (none)) = some r := by first | (rw [hji5] at H; exact H) | (simp only [hji5] at H ⊢; exact H)
      have hji5w : (IntKind.i64.wrap (14 - (rd l0 x8_1))) = ji5 := (i64_w _).trans hji5
      by_cases c6 : 0 ≤ (ji5)
      ·rw [if_pos c6] at H
       have c6b0 := eq_true c6
       have c6b1 : decide (0 ≤ (ji5)) = true := decide_eq_true c6
       clear c6
       obtain ⟨ji7, hji7⟩ : ∃ j_ : Int, (shl .i64 1 (ji5)) = j_ := ⟨_, rfl⟩
       replace H : (impl_fill.l0 k1 (wrap64 (x3_1 + (ji7))) l0 (l0.length : Int) (wrap64 (x8_1 + 1))) = some r := by first | (rw [hji7] at H; exact H) | (simp only [hji7] at H ⊢; exact H)
       have hji7_ : (IntKind.i64.wrap (1 * 2 ^ min (ji5).toNat 64)) = ji7 := hji7
       have hji7z : (ji5) ≤ 64 → (IntKind.i64.wrap (1 * 2 ^ (ji5).toNat)) = ji7 := shl_small hji7
       have hji7u : (IntKind.i64.wrap (2 ^ min (ji5).toNat 64)) = ji7 := by have h_ := hji7_; rw [Int.one_mul] at h_; exact h_
       have hji7v : (ji5) ≤ 64 → (IntKind.i64.wrap (2 ^ (ji5).toNat)) = ji7 := fun hle_ => by have h_ := hji7z hle_; rw [Int.one_mul] at h_; exact h_
       have hji7y : (wrap64 (1 * 2 ^ min (ji5).toNat 64)) = ji7 := (i64_w _).symm.trans hji7_
       have hji7x : (ji5) ≤ 64 → (wrap64 (1 * 2 ^ (ji5).toNat)) = ji7 := fun h_ => (i64_w _).symm.trans (hji7z h_)
       have H' := Aside0.mk H
       clear H
       have p128 : 0 ≤ (x8_1 : Int) := of_decide_eq_true ax8
       have q128 : x8_1 < (l0.length : Int) := of_decide_eq_true ax8
       obtain ⟨ad128, e128, hx128_0⟩ := Kd.at_int HR0.out x8_1 p128 q128
       cases e128; replace p128 := eq_true p128; replace q128 := eq_true q128
       go_wp2
       go_roundg k1
       case measure => have := HK1.out; omega
       case rel => exact ⟨(wrap64 (x3_1 + (ji7))), (wrap64 (x8_1 + 1)), (by first | rfl | (simp; done) | (simp only [← hji7] <;> (first | rfl | simp)) | (simp [*]; done)), ax6, H', ⟨by have := HK1.out; omega⟩, by repeat (first | exact Drawn0.refl _ | apply Drawn0.step)⟩
      ·exact ax1
     ·exact ax3
    ·rw [if_neg c3] at H
     exact absurd H (by simp)
   ·rw [if_neg c2] at H
    have c2b0 : decide (x8_1 < (l0.length : Int)) = false := decide_eq_false c2
    clear c2
    obtain rfl := Option.some.inj H
    go_wp2
    go_ret
    exact ⟨ax6, by repeat (first | exact Drawn0.refl _ | apply Drawn0.step)⟩

/-! ### impl_ArePossible: function 21 -/
def impl_ArePossible.f (k : Nat) (l0 : List Int) : Option (Bool × Bool) := (impl_areIn.f l0 14).bind fun t129 => (if t129 = true then ((impl_fill.f k l0).bind fun t130 => (some (decide (t130 ≤ 16384), true))) else (some (false, false)))
theorem impl_ArePossible.mono : ∀ a0 k, LeO (impl_ArePossible.f k a0) (impl_ArePossible.f (k + 1) a0) := by
 intro a0 k
 unfold impl_ArePossible.f
 repeat' first | (with_reducible first | exact impl_fill.mono .. | exact LeO.refl _ | exact LeO.none _ | refine LeO.ite ?_ ?_ | refine LeO.bind ?_ (fun _ => ?_)) | exact impl_fill.mono .. | exact LeO.none _ | refine LeO.ite ?_ ?_ | refine LeO.bind ?_ (fun _ => ?_)
set_option maxHeartbeats 8000000 in
set_option maxRecDepth 100000 in
theorem impl_ArePossible.calls (k : Nat) (A0 : Option Addr) (c0 : Nat) (l0 : List Int) (r1 : Bool) (r2 : Bool) (w : World) (hr0 : Kd.C (Kd.int .i64) w A0 l0.length l0) (hc0 : l0.length ≤ c0) (h : impl_ArePossible.f k l0 = some (r1, r2)) :
  Calls Try.prog 21 #[.slice A0 l0.length c0] w fun e w' => e = .returned (.tuple #[.bool r1, .bool r2]) ∧ Below w.heap.size w w' := by
 have HR0 := Aside0.mk hr0; have HC0 := Aside0.mk hc0; clear hr0 hc0; have HB := Aside0.mk (Below.refl w.heap.size w)
 have H : ((impl_areIn.f l0 14).bind fun t129 => (if t129 = true then ((impl_fill.f k l0).bind fun t130 => (some (decide (t130 ≤ 16384), true))) else (some (false, false)))) = some (r1, r2) := h
 clear h
 obtain ⟨t129, A2, H⟩ := bs H
 by_cases c3 : t129 = true
 ·subst c3
  rw [if_pos rfl] at H
  obtain ⟨t130, A4, H⟩ := bs H
  simp only [Option.some.injEq, Prod.mk.injEq] at H
  obtain ⟨rfl, rfl⟩ := H
  go_enter Try.func21, Try.ntmps21
  go_wp2_with (first | (refine gd 5 28 ?_; refine gc 5 Try.func28 #[.slice A0 l0.length c0, .int .i64 14] (impl_areIn.calls _ _ l0 14 true _ ax9 (HC0.out) A2.out) ?_; rintro e w5 ⟨rfl, hb⟩; refine ⟨_, rfl, ?_⟩; replace HB := uB HB hb; (try clear hb); (try clear hb2); (try clear hk); (try clear hi)) | (refine gd 8 33 ?_; refine gc 8 Try.func33 #[.slice A0 l0.length c0] (impl_fill.calls k _ _ l0 t130 _ ax16 (HC0.out) A4.out) ?_; rintro e w' ⟨rfl, ⟨nd, rfl⟩⟩; refine ⟨_, rfl, ?_⟩))
  go_ret2
  exact ⟨ax15, by repeat (first | (with_reducible first | exact HB.out | apply below_alloc | apply pw_below_drewN | apply below_drew1) | exact HB.out)⟩
 ·replace c3 := Bool.eq_false_iff.mpr c3
  subst c3
  rw [if_neg (show ¬ (false = true) by decide)] at H
  simp only [Option.some.injEq, Prod.mk.injEq] at H
  obtain ⟨rfl, rfl⟩ := H
  go_enter Try.func21, Try.ntmps21
  go_wp2_with (first | (refine gd 5 28 ?_; refine gc 5 Try.func28 #[.slice A0 l0.length c0, .int .i64 14] (impl_areIn.calls _ _ l0 14 false _ ax9 (HC0.out) A2.out) ?_; rintro e w6 ⟨rfl, hb⟩; refine ⟨_, rfl, ?_⟩; replace HB := uB HB hb; (try clear hb); (try clear hb2); (try clear hk); (try clear hi)))
  go_ret2
  exact ⟨ax15, by repeat (first | (with_reducible first | exact HB.out | apply below_alloc | apply pw_below_drewN | apply below_drew1) | exact HB.out)⟩

/-! ### slices_SortStableFunc_int_int: function 22: a contract of our own -/
section
open Go.Shelf Go.Sort Go.Lib
attribute [local go_sem] Oper.semAt_some
def slices_SortStableFunc_int_int.f (l0 : List Int) (F : Int → Int → Option Int) : Option (List Int) := if l0 ≠ [] ∧ l0.length ≤ 12 ∧ (l0.all fun x => l0.all fun y => (F x y).isSome) = true then some (Go.Sort.insertionSort (fun x y => decide ((F x y).getD 0 < 0)) l0.toArray 0 l0.length).toList else none
theorem slices_SortStableFunc_int_int.get_map {α β : Type} [Inhabited α] [Inhabited β] (f : α → β) (d : Array α) (i : Nat) (h : i < d.size) : (d.map f)[i]! = f d[i]! := by
 rw [getElem!_pos d i h, getElem!_pos (d.map f) i (by simpa using h), Array.getElem_map]
theorem slices_SortStableFunc_int_int.swp_map {α β : Type} [Inhabited α] [Inhabited β] (f : α → β) (d : Array α) (i j : Nat) (hi : i < d.size) (hj : j < d.size) : (swp d i j).map f = swp (d.map f) i j := by
 unfold swp
 rw [slices_SortStableFunc_int_int.get_map f d i hi, slices_SortStableFunc_int_int.get_map f d j hj]
 simp
theorem slices_SortStableFunc_int_int.inner_size {α : Type} [Inhabited α] (lt : α → α → Bool) (a : Nat) : ∀ (j : Nat) (d : Array α), (insInner lt a j d).size = d.size
 | 0, d => by rw [insInner]
 | j + 1, d => by
  rw [insInner]
  split
  ·rw [slices_SortStableFunc_int_int.inner_size lt a j, swp_size]
  ·rfl
theorem slices_SortStableFunc_int_int.inner_map {α β : Type} [Inhabited α] [Inhabited β] (f : α → β) (lt : β → β → Bool) (a : Nat) : ∀ (j : Nat) (d : Array α), j < d.size → (insInner (fun x y => lt (f x) (f y)) a j d).map f = insInner lt a j (d.map f)
 | 0, d, _ => by rw [insInner, insInner]
 | j + 1, d, h => by
  rw [insInner, insInner, slices_SortStableFunc_int_int.get_map f d (j + 1) h, slices_SortStableFunc_int_int.get_map f d j (by omega)]
  by_cases hc : (decide (j + 1 > a) && lt (f d[j + 1]!) (f d[j]!)) = true
  ·rw [if_pos hc, if_pos hc, slices_SortStableFunc_int_int.inner_map f lt a j _ (by rw [swp_size]; omega), slices_SortStableFunc_int_int.swp_map f d (j + 1) j h (by omega)]
  ·rw [if_neg hc, if_neg hc]
theorem slices_SortStableFunc_int_int.outer_go {α : Type} [Inhabited α] (lt : α → α → Bool) {a b i : Nat} {d : Array α} (h : i < b) : insOuter lt a b i d = insOuter lt a b (i + 1) (insInner lt a i d) := by rw [insOuter, if_pos h]
theorem slices_SortStableFunc_int_int.outer_stop {α : Type} [Inhabited α] (lt : α → α → Bool) {a b i : Nat} {d : Array α} (h : ¬ i < b) : insOuter lt a b i d = d := by rw [insOuter, if_neg h]
theorem slices_SortStableFunc_int_int.outer_map {α β : Type} [Inhabited α] [Inhabited β] (f : α → β) (lt : β → β → Bool) (a b : Nat) : ∀ (n i : Nat) (d : Array α), b - i ≤ n → b ≤ d.size → (insOuter (fun x y => lt (f x) (f y)) a b i d).map f = insOuter lt a b i (d.map f)
 | 0, i, d, h, _ => by rw [slices_SortStableFunc_int_int.outer_stop _ (by omega), slices_SortStableFunc_int_int.outer_stop _ (by omega)]
 | n + 1, i, d, h, hb => by
  by_cases hi : i < b
  ·rw [slices_SortStableFunc_int_int.outer_go _ hi, slices_SortStableFunc_int_int.outer_go _ hi, slices_SortStableFunc_int_int.outer_map f lt a b n (i + 1) _ (by omega) (by rw [slices_SortStableFunc_int_int.inner_size]; omega), slices_SortStableFunc_int_int.inner_map f lt a i d (by omega)]
  ·rw [slices_SortStableFunc_int_int.outer_stop _ hi, slices_SortStableFunc_int_int.outer_stop _ hi]
set_option maxHeartbeats 2000000 in
set_option maxRecDepth 100000 in
theorem slices_SortStableFunc_int_int.small {α : Type} [Inhabited α] (enc : α → Value) (hO : OneCell enc) (cf : α → α → Int) (g : Nat) (cb : Array Value) (blk off cap : Nat) (d : Array α) (w : World)
  (eg : ∀ args w, (callFunc g args).run Try.prog w = .ok (.enter g args) w) (hcmp : CmpReads Try.prog g cb enc cf blk off d.size w) (hH : Holds enc w blk off d) (h12 : d.size ≤ 12) :
  Calls Try.prog 34 #[.slice (some ⟨blk, off, none⟩) d.size cap, .int .i64 d.size, .func (.func g) #[] cb] w fun e w' => e = .returned (.tuple #[]) ∧ ∃ n, w' = (putRow enc w blk off (Sort.insertionSort (ltOf cf) d 0 d.size)).drewN n := by
 have hi : Calls Try.prog 47 _ _ _ := Any.insertionSortCmpFunc_one Try.laysIns enc hO cf g cb blk off cap 0 d.size d w eg hcmp hH (Nat.zero_le _) (Nat.le_refl _) (by omega)
 have e47 : ∀ args w, (callFunc 47 args).run Try.prog w = .ok (.enter 47 args) w := enters_of Try.func47 (by kernel_rfl) rfl
 clear hH hcmp
 go_enter Try.func34, Try.ntmps34
 go_wp2
 refine wp_loop_rounds 1 ?_
 rw [rounds_succ]
 go_wp2_with (go_at_fn 47; refine hi.mono ?_; rintro e w' ⟨rfl, n, rfl⟩)
 refine wp_loop_rounds 1 ?_
 rw [rounds_succ]
 go_wp2
 go_end0
 exact ⟨rfl, n, rfl⟩
set_option maxHeartbeats 2000000 in
set_option maxRecDepth 100000 in
theorem slices_SortStableFunc_int_int.sorts {α : Type} [Inhabited α] (enc : α → Value) (hO : OneCell enc) (cf : α → α → Int) (g : Nat) (cb : Array Value) (blk off cap : Nat) (d : Array α) (w : World)
  (eg : ∀ args w, (callFunc g args).run Try.prog w = .ok (.enter g args) w) (hcmp : CmpReads Try.prog g cb enc cf blk off d.size w) (hH : Holds enc w blk off d) (h12 : d.size ≤ 12) :
  Calls Try.prog 22 #[.slice (some ⟨blk, off, none⟩) d.size cap, .func (.func g) #[] cb] w fun e w' => e = .returned (.tuple #[]) ∧ ∃ n, w' = (putRow enc w blk off (Sort.insertionSort (ltOf cf) d 0 d.size)).drewN n := by
 have hi := slices_SortStableFunc_int_int.small enc hO cf g cb blk off cap d w eg hcmp hH h12
 have e34 : ∀ args w, (callFunc 34 args).run Try.prog w = .ok (.enter 34 args) w := enters_of Try.func34 (by kernel_rfl) rfl
 clear hH hcmp
 go_enter Try.func22, Try.ntmps22
 go_wp2_with (go_at_fn 34; refine hi.mono ?_; rintro e w' ⟨rfl, n, rfl⟩)
 go_end0
 exact ⟨rfl, n, rfl⟩
theorem slices_SortStableFunc_int_int.kept {α : Type} (enc : α → Value) {w : World} {g n : Nat} {os : Array Obj} {d : Array α} [Inhabited α] {S : Nat → Prop} (hS : S g) : Kept w (sortWorld enc w g 0 n d os) S := by
 refine ⟨?_, fun i hi hn => ?_⟩
 ·show w.heap.size ≤ (grow (putRow enc (Sort.ahead w n) g 0 d) os).heap.size
  have : (putRow enc (Sort.ahead w n) g 0 d).heap.size = w.heap.size := by simp [putRow, mapBlock, Sort.ahead]
  show w.heap.size ≤ ((putRow enc (Sort.ahead w n) g 0 d).heap ++ os).size
  rw [Array.size_append]; omega
 ·have hne : g ≠ i := fun e => hn (e ▸ hS)
  have hsz : (putRow enc (Sort.ahead w n) g 0 d).heap.size = w.heap.size := by simp [putRow, mapBlock, Sort.ahead]
  refine (Sort.heap_grow_old (putRow enc (Sort.ahead w n) g 0 d) os (by rw [hsz]; exact hi)).trans ?_
  simp [putRow, mapBlock, Sort.ahead, Array.getElem?_modify, hne]
theorem slices_SortStableFunc_int_int.kept2 {α : Type} (enc : α → Value) {w : World} {g n : Nat} {d : Array α} [Inhabited α] {S : Nat → Prop} (hS : S g) : Kept w (putRow enc (Sort.ahead w n) g 0 d) S := by
 refine ⟨?_, fun i hi hn => ?_⟩
 ·have : (putRow enc (Sort.ahead w n) g 0 d).heap.size = w.heap.size := by simp [putRow, mapBlock, Sort.ahead]
  omega
 ·have hne : g ≠ i := fun e => hn (e ▸ hS)
  simp [putRow, mapBlock, Sort.ahead, Array.getElem?_modify, hne]
theorem slices_SortStableFunc_int_int.outer_size {α : Type} [Inhabited α] (lt : α → α → Bool) (a b : Nat) : ∀ (n i : Nat) (d : Array α), b - i ≤ n → (insOuter lt a b i d).size = d.size
 | 0, i, d, h => by rw [slices_SortStableFunc_int_int.outer_stop _ (by omega)]
 | n + 1, i, d, h => by
  by_cases hi : i < b
  ·rw [slices_SortStableFunc_int_int.outer_go _ hi, slices_SortStableFunc_int_int.outer_size lt a b n (i + 1) _ (by omega), slices_SortStableFunc_int_int.inner_size]
  ·rw [slices_SortStableFunc_int_int.outer_stop _ hi]
theorem slices_SortStableFunc_int_int.put_map {α β : Type} [Inhabited α] [Inhabited β] (f : α → β) (enc : β → Value) (w : World) (blk off : Nat) (d : Array α) : putRow (fun x => enc (f x)) w blk off d = putRow enc w blk off (d.map f) := by
 have e : putCells (fun x => enc (f x)) off d = putCells enc off (d.map f) := by
  funext c
  unfold putCells
  congr 1
  funext k x
  rw [Array.size_map]
  by_cases hk : off ≤ k ∧ k < off + d.size
  ·rw [if_pos hk, if_pos hk, slices_SortStableFunc_int_int.get_map f d (k - off) (by omega)]
  ·rw [if_neg hk, if_neg hk]
 unfold putRow
 rw [e]
theorem slices_SortStableFunc_int_int.holds {α : Type} [Inhabited α] {f : α → Int} {w : World} {g : Nat} {d : Array α} {l : List Int} (hdm : d.map f = l.toArray) (hH : Holds (Value.int .i64) w g 0 l.toArray) : Holds (fun x => Value.int .i64 (f x)) w g 0 d := by
 intro j hj
 have h := hH j (by rw [← hdm]; simpa using hj)
 rw [← hdm, slices_SortStableFunc_int_int.get_map f d j hj] at h
 exact h
theorem slices_SortStableFunc_int_int.calls (P0_ : Nat → Prop) (u9000_ : Value) (l0 : List Int) (F : Int → Int → Option Int) (r : List Int) (w0 w : World) (hB : Below w0.heap.size w0 w) (ho0 : Kd.R (Kd.int .i64) 3 w w0.heap.size P0_ u9000_ l0)
  {g : Nat} {lb : Array Value} (eg : ∀ args w, (callFunc g args).run Try.prog w = .ok (.enter g args) w) (hp : ∀ (x y : Int) (W : World) (b : Int), Kept w W (fun k_ => P0_ k_ ∧ w0.heap.size ≤ k_) → F x y = some b → (Calls Try.prog g (#[.int .i64 x, .int .i64 y] ++ lb) W fun e W' => e = .returned (.int .i64 b) ∧ Drawn0 W W')) (h : slices_SortStableFunc_int_int.f l0 F = some r) :
  Calls Try.prog 22 #[u9000_, .func (.func g) #[] lb] w fun e w' => e = .returned (.tuple #[]) ∧ Kd.R (Kd.int .i64) 3 w' w0.heap.size (fun k_ => (P0_ k_ ∨ w.heap.size ≤ k_)) u9000_ r ∧ Below w0.heap.size w0 w' ∧ Kept w w' (fun k_ => P0_ k_) := by
 unfold slices_SortStableFunc_int_int.f at h
 have hc : l0 ≠ [] ∧ l0.length ≤ 12 ∧ (l0.all fun x => l0.all fun y => (F x y).isSome) = true := by
  by_cases hc : l0 ≠ [] ∧ l0.length ≤ 12 ∧ (l0.all fun x => l0.all fun y => (F x y).isSome) = true
  ·exact hc
  ·rw [if_neg hc] at h; cases h
 rw [if_pos hc] at h
 obtain rfl := Option.some.inj h
 clear h
 obtain ⟨h0, h12, hall⟩ := hc
 have hall' : ∀ x ∈ l0, ∀ y ∈ l0, ∃ b, F x y = some b := fun x hx y hy => by
  have := (List.all_eq_true.1 ((List.all_eq_true.1 hall) x hx)) y hy
  exact Option.isSome_iff_exists.1 this
 have hown : w.ownsRow w0.heap.size 3 1 u9000_ l0.length (l0.map (Value.int .i64)) := Kd.own_of_R ho0
 have hv : u9000_ ≠ .slice none 0 0 := by
  rintro rfl
  rcases hown.2 with ⟨_, h2⟩ | ⟨g, cap, cur, h1, _⟩
  ·exact h0 (List.length_eq_zero_iff.1 h2)
  ·cases h1
 obtain ⟨bk, cap, rfl, hbase, hbk, hncap, hcm, _, hH⟩ := Lib.holds_of_ownsRow hown hv
 have hS : P0_ bk := ho0.1 bk rfl
 obtain ⟨x0, hx0⟩ := List.exists_mem_of_ne_nil _ h0
 haveI : Inhabited {x : Int // x ∈ l0} := ⟨⟨x0, hx0⟩⟩
 obtain ⟨d, hd⟩ : ∃ d : Array {x : Int // x ∈ l0}, d = l0.attach.toArray := ⟨_, rfl⟩
 have hdm : d.map (fun x => x.1) = l0.toArray := by rw [hd]; simp
 have hds : d.size = l0.length := by rw [hd]; simp
 obtain ⟨cf, hcf⟩ : ∃ cf : {x : Int // x ∈ l0} → {x : Int // x ∈ l0} → Int, cf = fun x y => (F x.1 y.1).getD 0 := ⟨_, rfl⟩
 have hHd : Holds (fun x : {x : Int // x ∈ l0} => Value.int .i64 x.1) w bk 0 d := slices_SortStableFunc_int_int.holds hdm hH
 have hcmp : CmpReads Try.prog g lb (fun x : {x : Int // x ∈ l0} => Value.int .i64 x.1) cf bk 0 d.size w := fun m os dk _ x y => by
  obtain ⟨b, hb⟩ := hall' x.1 x.2 y.1 y.2
  refine (hp x.1 y.1 _ b (slices_SortStableFunc_int_int.kept _ ⟨hS, hbase⟩) hb).mono ?_
  rintro e W' ⟨rfl, ⟨n, rfl⟩⟩
  refine ⟨by rw [hcf]; simp [hb], n, rfl⟩
 have hcon := slices_SortStableFunc_int_int.sorts _ (fun _ => rfl) cf g lb bk 0 cap d w eg hcmp hHd (by omega)
 rw [hds] at hcon
 refine Calls.mono hcon ?_
 rintro e w' ⟨rfl, q, rfl⟩
 have hmap : (Sort.insertionSort (ltOf cf) d 0 l0.length).map (fun x => x.1) = Go.Sort.insertionSort (fun x y => decide ((F x y).getD 0 < 0)) l0.toArray 0 l0.length := by
  have hlt : ltOf cf = fun x y => (fun x y : Int => decide ((F x y).getD 0 < 0)) x.1 y.1 := by funext x y; rw [hcf]; rfl
  rw [hlt, ← hdm]
  exact slices_SortStableFunc_int_int.outer_map (fun x : {x : Int // x ∈ l0} => x.1) (fun x y => decide ((F x y).getD 0 < 0)) 0 l0.length l0.length (0 + 1) d (by omega) (by omega)
 obtain ⟨ys, hys⟩ : ∃ ys, ys = (Go.Sort.insertionSort (fun x y => decide ((F x y).getD 0 < 0)) l0.toArray 0 l0.length).toList := ⟨_, rfl⟩
 have hyl : ys.length = l0.length := by rw [hys, Array.length_toList]; exact (slices_SortStableFunc_int_int.outer_size _ _ _ l0.length _ _ (by omega)).trans (by simp)
 have hw : (putRow (fun x : {x : Int // x ∈ l0} => Value.int .i64 x.1) w bk 0 (Sort.insertionSort (ltOf cf) d 0 l0.length)).drewN q = putRow (Value.int .i64) (Sort.ahead w q) bk 0 ys.toArray := by
  rw [slices_SortStableFunc_int_int.put_map (fun x : {x : Int // x ∈ l0} => x.1) (Value.int .i64), hmap, hys, Array.toArray_toList]; rfl
 rw [hw, ← hys]
 have hrow := Lib.ownsRow_putRow (q := q) (k := l0.length) (ys := ys) hown hyl (Nat.le_refl _)
 rw [List.take_of_length_le (by omega)] at hrow
 exact ⟨rfl, Kd.R_of_own (enc := Value.int .i64) (h1 := fun _ => rfl) (by rw [hyl]; exact hrow) (fun k hk => .inl (by cases hk; exact hS)), Lib.below_putRow hB hbase, slices_SortStableFunc_int_int.kept2 _ hS⟩
end

/-! ### impl_PlainCode_1: function 23: a contract of our own -/
def impl_PlainCode_1.f (a0 a1 : Int) (c0 : List Int) : Option Int := if 0 ≤ a0 ∧ a0 < c0.length ∧ 0 ≤ a1 ∧ a1 < c0.length then some (wrap64 (rd c0 a0 - rd c0 a1)) else none
theorem impl_PlainCode_1.calls (a0 a1 : Int) (B : Nat) (A : Option Addr) (c : Nat) (c0 : List Int) (r : Int) (w : World) (hcell : w.cell? ⟨B, 0, none⟩ = some (.slice A c0.length c)) (hr : Kd.C (Kd.int .i64) w A c0.length c0) (hc : c0.length ≤ c) (h : impl_PlainCode_1.f a0 a1 c0 = some r) :
  Calls Try.prog 23 #[.int .i64 a0, .int .i64 a1, .pointer (some ⟨B, 0, none⟩)] w fun e w' => e = .returned (.int .i64 r) ∧ Drawn0 w w' := by
 unfold impl_PlainCode_1.f at h
 have hk : 0 ≤ a0 ∧ a0 < c0.length ∧ 0 ≤ a1 ∧ a1 < c0.length := by
  by_cases hk : 0 ≤ a0 ∧ a0 < c0.length ∧ 0 ≤ a1 ∧ a1 < c0.length
  ·exact hk
  ·rw [if_neg hk] at h; cases h
 rw [if_pos hk] at h
 obtain rfl := Option.some.inj h
 obtain ⟨k0, k1, k2, k3⟩ := hk
 obtain ⟨ad, rfl, h1⟩ := Kd.at_int hr a0 k0 k1
 obtain ⟨ad2, e2, h2⟩ := Kd.at_int hr a1 k2 k3
 cases e2; clear h
 go_enter Try.func23, Try.ntmps23
 go_wp2
 repeat (go_quiet (fail); try go_wp2)
 go_ret
 exact ⟨rfl, ⟨⟨_, rfl⟩⟩⟩

end Go.Proofs.Ytknonolfgpknjaa.X

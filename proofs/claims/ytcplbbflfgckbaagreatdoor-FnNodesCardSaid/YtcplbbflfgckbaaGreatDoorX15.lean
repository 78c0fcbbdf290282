-- By gen.py (the session's own program over the kit's printer): functions of the program, each with its contract. Lean checks it.
import Derived.Test.YtcplbbflfgckbaaGreatDoorX0
import Derived.Test.YtcplbbflfgckbaaGreatDoorX14
namespace Go.Proofs.YtcplbbflfgckbaaGreatDoor.X
open Go.RowKit Go.Proofs.YtcplbbflfgckbaaGreatDoorW.PrintWords Go.Proofs.YtcplbbflfgckbaaGreatDoorW.PrintLast Go.Proofs.YtcplbbflfgckbaaGreatDoorW.PrintMore
attribute [local go_sem] max2_int min2_int max_two min_two max_three min_three max_four min_four   -- for this text's walks alone
set_option linter.unusedVariables false
set_option linter.unusedSimpArgs false

/-! ### impl_areKept: function 110 -/
def impl_areKept.f (k : Nat) (l0_0 : List (S74)) (a1 : ByteArray) : Option (Bool) := (impl_isTrie.f k l0_0).bind fun t483 => (if t483 = true then ((impl_isWord.f a1).bind fun t484 => (some t484)) else (some false))
set_option maxHeartbeats 8000000 in
set_option maxRecDepth 100000 in
theorem impl_areKept.calls (k : Nat) (A0_0 : Option Addr) (c0_0 : Nat) (l0_0 : List (S74)) (a1 : ByteArray) (r : Bool) (w : World) (hr0_0 : Kd.C k74 w A0_0 l0_0.length l0_0) (hc0_0 : l0_0.length ≤ c0_0) (h : impl_areKept.f k l0_0 a1 = some r) :
  Calls Tryz.prog 110 #[.agg #[.slice A0_0 l0_0.length c0_0], .string a1] w fun e w' => e = .returned (.bool r) ∧ Below w.heap.size w w' := by
 have hu26 := Tryz.underlying26; have HR0_0 := am hr0_0; have HC0_0 := am hc0_0; clear hr0_0 hc0_0; have HB := am (Below.refl w.heap.size w)
 unfold impl_areKept.f at h
 have H := h; clear h; obtain ⟨t483, A3, H⟩ := bs H
 by_cases c4 : t483 = true
 ·subst c4
  rw [if_pos rfl] at H; obtain ⟨t484, A5, H⟩ := bs H; obtain rfl := Option.some.inj H
  go_enter Tryz.func110, Tryz.ntmps110
  go_wp2_with (first | ((with_reducible refine gate_dst (N := 2) rfl ?_); refine bx 2 #[.slice A0_0 l0_0.length c0_0] 26 ?_; intro gb482 hg w6 hbox hb; have BK482 := am (hbox); have GW482 := uG hg HB; have GE482 := uG hg HB; replace HB := uB HB hb; clear hb hbox hg; have hcz7_0 := bc (.slice A0_0 l0_0.length c0_0) BK482 0; have hfz7_0 := blk_frozen BK482.out 0) | ((with_reducible refine gd 6 124 ?_); refine gc 6 Tryz.func124 #[.agg #[.slice A0_0 l0_0.length c0_0]] (impl_isTrie.calls k _ _ l0_0 true _ ax145 (HC0_0.out) A3.out) ?_; rintro e w8 ⟨rfl, hb⟩; refine ⟨_, rfl, ?_⟩; replace BK482 := ub BK482 hb; replace HB := am (below_step ax216 hb); (try clear hb)) | (go_at_call 142; (with_reducible refine (impl_isWord.calls a1 t484 _ A5.out).mono ?_); rintro e w9 ⟨rfl, hb⟩; replace BK482 := ub BK482 hb; replace HB := am (below_step ax216 hb); (try clear hb)))
  go_ret
  exact ⟨ax27, ax216⟩
 ·replace c4 := Bool.eq_false_iff.mpr c4
  subst c4; rw [if_neg (show ¬ (false = true) by decide)] at H; obtain rfl := Option.some.inj H
  go_enter Tryz.func110, Tryz.ntmps110
  go_wp2_with (first | ((with_reducible refine gate_dst (N := 2) rfl ?_); refine bx 2 #[.slice A0_0 l0_0.length c0_0] 26 ?_; intro gb482 hg w10 hbox hb; have BK482 := am (hbox); have GW482 := uG hg HB; have GE482 := uG hg HB; replace HB := uB HB hb; clear hb hbox hg; have hcz11_0 := bc (.slice A0_0 l0_0.length c0_0) BK482 0; have hfz11_0 := blk_frozen BK482.out 0) | ((with_reducible refine gd 6 124 ?_); refine gc 6 Tryz.func124 #[.agg #[.slice A0_0 l0_0.length c0_0]] (impl_isTrie.calls k _ _ l0_0 false _ ax145 (HC0_0.out) A3.out) ?_; rintro e w12 ⟨rfl, hb⟩; refine ⟨_, rfl, ?_⟩; replace BK482 := ub BK482 hb; replace HB := am (below_step ax216 hb); (try clear hb)))
  go_ret
  exact ⟨ax27, ax216⟩

/-! ### slices_Index_string_string: function 167 -/
def slices_Index_string_string.l0 : Nat → List ByteArray → ByteArray → Int → Int → Option (Int)
 | 0, _, _, _, _ => none
 | k + 1, x0, x1, x7, x8 => if x8 < x7 then (if 0 ≤ x8 then (if x8 < (x0.length : Int) then (if x1.toList = (rdOf ByteArray.empty x0 x8).toList then (some x8) else (slices_Index_string_string.l0 k x0 x1 x7 (wrap64 (x8 + 1)))) else (none)) else (none)) else (some (-1))
def slices_Index_string_string.f (k : Nat) (l0 : List ByteArray) (a1 : ByteArray) : Option (Int) := slices_Index_string_string.l0 k l0 a1 (l0.length : Int) 0
set_option maxHeartbeats 8000000 in
set_option maxRecDepth 100000 in
theorem slices_Index_string_string.calls (k : Nat) (A0 : Option Addr) (c0 : Nat) (l0 : List ByteArray) (a1 : ByteArray) (r : Int) (w : World) (hr0 : Kd.C Kd.string w A0 l0.length l0) (hc0 : l0.length ≤ c0) (h : slices_Index_string_string.f k l0 a1 = some r) :
  Calls Tryz.prog 167 #[.slice A0 l0.length c0, .string a1] w fun e w' => e = .returned (.int .i64 r) ∧ Drawn0 w w' := by
 have HR0 := am hr0; have HC0 := am hc0; clear hr0 hc0
 unfold slices_Index_string_string.f at h
 have H := h; clear h; have H' := am H; clear H
 go_enter Tryz.func167, Tryz.ntmps167
 go_wp2
 go_loopg [8] k (fun kq v8 w' => ∃ (x8_1 : Int), v8 = .int .i64 x8_1 ∧ Aside0 (slices_Index_string_string.l0 kq l0 a1 (l0.length : Int) x8_1 = some r) ∧ Aside0 (kq ≤ k) ∧ Drawn0 w w')
 case atStart => exact ⟨(0), ax31, H', ⟨Nat.le_refl _⟩, by repeat (first | exact Drawn0.refl _ | apply Drawn0.step)⟩
 case round =>
  clear H'; obtain ⟨x8_1, rfl, HA, HK1, ⟨m1, rfl⟩⟩ := hrel
  cases gk with
  | zero => exact absurd HA.out (by simp [slices_Index_string_string.l0])
  | succ k1 =>
   have H := HA.out; clear HA; simp only [slices_Index_string_string.l0] at H
   by_cases c3 : x8_1 < (l0.length : Int)
   ·rw [if_pos c3] at H
    have c3b0 := decide_eq_true c3; clear c3
    by_cases c4 : 0 ≤ x8_1
    ·rw [if_pos c4] at H
     have c4b0 := decide_eq_true c4; clear c4
     by_cases c5 : x8_1 < (l0.length : Int)
     ·rw [if_pos c5] at H
      have c5b0 := decide_eq_true c5; clear c5
      by_cases c6 : a1.toList = (rdOf ByteArray.empty l0 x8_1).toList
      ·rw [if_pos c6] at H
       have c6b0 := beq_iff_eq.mpr c6; have c6b1 := bne_eq_false_iff_eq.mpr c6; clear c6; obtain rfl := Option.some.inj H; have p485 : 0 ≤ (x8_1 : Int) := of_decide_eq_true ax26; have q485 : x8_1 < (l0.length : Int) := of_decide_eq_true ax26; obtain ⟨ad485, e485, hx485_0⟩ := Kd.at_string HR0.out x8_1 p485 q485
       cases e485
       replace p485 := eq_true p485; replace q485 := eq_true q485
       go_wp2
       go_ret
       exact ⟨ax31, ax32⟩
      ·rw [if_neg c6] at H
       have c6b0 := beq_eq_false_iff_ne.mpr c6; have c6b1 := bne_iff_ne.mpr c6; have H' := am H; clear H; have p485 : 0 ≤ (x8_1 : Int) := of_decide_eq_true ax26; have q485 : x8_1 < (l0.length : Int) := of_decide_eq_true ax26; obtain ⟨ad485, e485, hx485_0⟩ := Kd.at_string HR0.out x8_1 p485 q485
       cases e485
       replace p485 := eq_true p485; replace q485 := eq_true q485
       go_wp2
       go_roundg k1
       case measure => have := HK1.out; omega
       case rel => exact ⟨(wrap64 (x8_1 + 1)), ax31, H', ⟨by have := HK1.out; omega⟩, ax32⟩
     ·exact ax12
    ·exact ax1
   ·exact ax2
/-! ### slices_DeleteFunc_string_string: function 151: a contract of our own -/
section
open Go.Shelf Go.Sort Go.Lib
attribute [local go_sem] Oper.semAt_some
def slices_DeleteFunc_string_string.f (l0 : List ByteArray) (F : ByteArray → Option Bool) : Option (List ByteArray) := if 1000000000 < l0.length then none else some (l0.filter fun x => !((F x).getD false))
theorem slices_DeleteFunc_string_string.kept {w : World} {g n : Nat} {os : Array Obj} {d : Array ByteArray} {S : Nat → Prop} (hS : S g) : Kept w (sortWorld Value.string w g 0 n d os) S := by
 refine ⟨?_, fun i hi hn => ?_⟩
 ·show w.heap.size ≤ (grow (putRow Value.string (Sort.ahead w n) g 0 d) os).heap.size
  have : (putRow Value.string (Sort.ahead w n) g 0 d).heap.size = w.heap.size := by simp [putRow, mapBlock, Sort.ahead]
  show w.heap.size ≤ ((putRow Value.string (Sort.ahead w n) g 0 d).heap ++ os).size
  rw [Array.size_append]; omega
 ·have hne : g ≠ i := fun e => hn (e ▸ hS)
  have hsz : (putRow Value.string (Sort.ahead w n) g 0 d).heap.size = w.heap.size := by simp [putRow, mapBlock, Sort.ahead]
  refine (Sort.heap_grow_old (putRow Value.string (Sort.ahead w n) g 0 d) os (by rw [hsz]; exact hi)).trans ?_
  simp [putRow, mapBlock, Sort.ahead, Array.getElem?_modify, hne]
theorem slices_DeleteFunc_string_string.kept2 {w : World} {g n : Nat} {d : Array ByteArray} {S : Nat → Prop} (hS : S g) : Kept w (putRow Value.string (Sort.ahead w n) g 0 d) S := by
 refine ⟨?_, fun i hi hn => ?_⟩
 ·have : (putRow Value.string (Sort.ahead w n) g 0 d).heap.size = w.heap.size := by simp [putRow, mapBlock, Sort.ahead]
  omega
 ·have hne : g ≠ i := fun e => hn (e ▸ hS)
  simp [putRow, mapBlock, Sort.ahead, Array.getElem?_modify, hne]
theorem slices_DeleteFunc_string_string.calls (P0_ : Nat → Prop) (u9000_ : Value) (l0 : List ByteArray) (F : ByteArray → Option Bool) (r : List ByteArray) (w0 w : World) (hB : Below w0.heap.size w0 w) (ho0 : Kd.R Kd.string 9 w w0.heap.size P0_ u9000_ l0)
  {g : Nat} {lb : Array Value} (eg : ∀ args w, (callFunc g args).run Tryz.prog w = .ok (.enter g args) w) (hp : ∀ (x : ByteArray) (W : World), Kept w W (fun k_ => P0_ k_) → ∃ b, F x = some b ∧ (Calls Tryz.prog g (#[.string x] ++ lb) W fun e W' => e = .returned (.bool b) ∧ Drawn0 W W')) (h : slices_DeleteFunc_string_string.f l0 F = some r) :
  Calls Tryz.prog 151 #[u9000_, .func (.func g) #[] lb] w fun e w' => ∃ v0_ : Value, e = .returned (v0_) ∧ Kd.R Kd.string 9 w' w0.heap.size (fun k_ => (P0_ k_ ∨ w.heap.size ≤ k_)) v0_ r ∧ Below w0.heap.size w0 w' ∧ Kept w w' (fun k_ => P0_ k_) := by
 unfold slices_DeleteFunc_string_string.f at h
 by_cases hc : 1000000000 < l0.length
 ·rw [if_pos hc] at h; cases h
 rw [if_neg hc] at h; obtain rfl := Option.some.inj h; clear h
 by_cases h0 : l0 = []
 ·subst h0
  obtain ⟨A, c, eo⟩ := Kd.R_slice ho0; rw [List.length_nil] at eo; subst eo; have HO := am ho0; have HBB := am hB; clear ho0 hB hp hc
  go_enter Tryz.func151, Tryz.ntmps151
  go_wp2_with (go_at_call 205; refine (Tryz.slices_IndexFunc_empty (α := ByteArray) A c _ _).mono ?_; rintro e w' ⟨rfl, rfl⟩)
  go_ret
  exact ⟨_, rfl, Kd.R_mono HO.out (fun k hk => .inl hk), HBB.out, Kept.refl _ _⟩
 have hown : w.ownsRow w0.heap.size 9 1 u9000_ l0.length (l0.map Value.string) := Kd.own_of_R ho0
 have hv : u9000_ ≠ .slice none 0 0 := by
  rintro rfl
  rcases hown.2 with ⟨_, h2⟩ | ⟨g, cap, cur, h1, _⟩
  ·exact h0 (List.length_eq_zero_iff.1 h2)
  ·cases h1
 obtain ⟨bk, cap, rfl, hbase, hbk, hncap, hcm, _, hH⟩ := Lib.holds_of_ownsRow hown hv; have hS : P0_ bk := ho0.1 bk rfl
 have hsz : l0.toArray.size = l0.length := by simp
 have hF : ∀ (x : ByteArray) (W : World), Kept w W (fun k_ => P0_ k_) → FnGives Tryz.prog g lb #[Value.string x] (.bool ((F x).getD false)) W := by
  intro x W hk; obtain ⟨b, hb, hcl⟩ := hp x W hk; rw [hb]; refine hcl.mono ?_; rintro e W' ⟨rfl, ⟨n, rfl⟩⟩
  exact ⟨rfl, n, rfl⟩
 have hcon := AnyE.slices_DeleteFunc Tryz.laysDelS Value.string (fun _ => rfl) (fun x => (F x).getD false) g lb eg ByteArray.empty (fun W => by kernel_rfl) bk 0 cap l0.toArray w
  (fun W x hb => hF x W (Kept.of_below hb _)) (fun n os dk x _ => hF x _ (slices_DeleteFunc_string_string.kept hS)) hH (by rw [hsz]; omega) (by rw [hsz]; exact hncap)
 rw [hsz] at hcon; refine Calls.mono (show Calls Tryz.prog 151 _ _ _ from hcon) ?_; rintro e w' ⟨rfl, q, rfl⟩; have hfl : (l0.filter fun x => !((F x).getD false)).length ≤ l0.length := List.length_filter_le _ _; have hrow := Lib.ownsRow_putRow (q := q) (k := (l0.filter fun x => !((F x).getD false)).length) (ys := (l0.filter fun x => !((F x).getD false)) ++ List.replicate (l0.length - (l0.filter fun x => !((F x).getD false)).length) ByteArray.empty) hown (by simp; omega) hfl; rw [List.take_left] at hrow; refine ⟨_, rfl, Kd.R_of_own (enc := Value.string) (h1 := fun _ => rfl) hrow (fun k hk => .inl (by cases hk; exact hS)), Lib.below_putRow hB hbase, slices_DeleteFunc_string_string.kept2 hS⟩
end

end Go.Proofs.YtcplbbflfgckbaaGreatDoor.X


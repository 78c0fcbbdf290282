/- impl.set: what it returns. No conditions. -/
import Derived.Maps.Own
import Derived.ProofKit
import Derived.OpenShut
import Derived.ChangeOld
import Derived.Below
import Derived.WalkKit
import Derived.Test.YtcplbbflfgckbabGreatDoorHn
import Derived.Test.YtcplbbflfgckbabGreatDoorShelf
set_option linter.unusedVariables false
set_option linter.unusedSimpArgs false
namespace Go.Ab.S
open Go Go.Ab Go.Ab.Pw Go.Proofs Go.Proofs.YtcplbbflfgckbabGreatDoor Go.RowKit Go.Shelf Go.Sort
attribute [local go_sem] Oper.semAt_some
structure Aside0 (p : Prop) : Prop where mk :: (out : p)
def SC (w : World) (A : Option Addr) (n : Nat) (xs : List ByteArray) : Prop := n ≤ 9223372036854775807 ∧ ∀ i : Nat, i < n → ∃ ad, A = some ad ∧ w.cell? (ad.add i) = some (.string (rdOf ByteArray.empty xs (i : Int)))
theorem SC.below {w w1 : World} {A : Option Addr} {n : Nat} {xs : List ByteArray} (h : SC w A n xs) (hb : Below w.heap.size w w1) : SC w1 A n xs :=
  ⟨h.1, fun i hi => by
    obtain ⟨ad, h1, h2⟩ := h.2 i hi
    exact ⟨ad, h1, by rw [hb.cell (World.block_lt_of_cell? w _ h2)]; exact h2⟩⟩
theorem SC.at {w : World} {A : Option Addr} {n : Nat} {xs : List ByteArray} (h : SC w A n xs) (i : Int) (h0 : 0 ≤ i) (h1 : i < n) : ∃ ad, A = some ad ∧ w.cell? (ad.add i.toNat) = some (.string (rdOf ByteArray.empty xs i)) := by
  obtain ⟨ad, h2, h3⟩ := h.2 i.toNat (by omega)
  exact ⟨ad, h2, by rw [h3, Int.toNat_of_nonneg h0]⟩
def OW (w : World) (base : Nat) (e : TypeId) (v : Value) (xs : List ByteArray) : Prop := w.ownsRow base e 1 v xs.length (xs.map Value.string)
theorem blk_cell {w : World} {g : Nat} {t : TypeId} {cs : Array Value} (h : w.heap[g]? = some (.cells cs t (0, 0))) (i : Nat) : w.cell? ⟨g, i, none⟩ = cs[i]? := cell_of_row w g i cs t (0, 0) h
theorem blk_new (w : World) (o : Obj) : (w.alloc o).heap[w.heap.size]? = some o := heap_alloc_new w o
/-- slices.Values's closure, for every loop body that keeps what lay below the call's begin. -/
theorem set_values1 (F : Fence) (n : Nat) (h7 : F.fn 97) (hro : F.round = none) (hn : 1 ≤ n) (l Bs : Nat) (A : Option Addr) (cap : Nat) (zs : List ByteArray) (w0 : World) (hC : SC w0 A zs.length zs) (J Jx : List ByteArray → World → Prop)
    (hY : ∀ pre x W, J pre W → pre.length < zs.length → YieldAt F (n - 1) Tryz.prog l #[.string x] W fun e W' =>
      (e = .returned (.bool true) ∧ J (pre ++ [x]) W' ∧ Below w0.heap.size W W') ∨ (e = .returned (.bool false) ∧ Jx (pre ++ [x]) W'))
    (W : World) (hW : Below w0.heap.size w0 W) (hBs : W.cell? ⟨Bs, 0, none⟩ = some (.slice A zs.length cap)) (h0 : J [] W) :
    CallsIn F n Tryz.prog 97 #[.func (.yield l) #[] #[], .pointer (some ⟨Bs, 0, none⟩)] W fun e W' => (∃ v, e = .returned v) ∧
      ((∃ ys, ys = zs ∧ J ys W') ∨ (∃ pre, pre <+: zs ∧ Jx pre W')) := by
  have hlen := hC.1
  refine callsIn_of_wp Tryz.func97 rfl h7 ?_ hro
  simp only [Tryz.ntmps97, List.size_toArray, List.length_cons, List.length_nil, Nat.reduceAdd, Nat.reduceSub, Array.replicate_succ, Array.replicate_zero, List.push_toArray, List.append_toArray, List.nil_append, List.cons_append]
  gi_wp2
  gi_loopw [7] (fun i wr => ∃ k : Nat, k ≤ zs.length ∧ i = .int .i64 k ∧ J (zs.take k) wr ∧ Below w0.heap.size w0 wr)
    (fun i _ => zs.length - (RowKit.intOf i).toNat)
  case atStart => exact ⟨0, Nat.zero_le _, rfl, h0, hW⟩
  case round =>
    obtain ⟨k, hk, rfl, hJs, hB⟩ := hrel
    by_cases hlt : k < zs.length
    · obtain ⟨ad, rfl, hcell⟩ := SC.at (SC.below hC hB) (k : Int) (by omega) (by omega)
      have hx : zs.take (k + 1) = zs.take k ++ [rdOf ByteArray.empty zs (k : Int)] := by
        rw [List.take_succ_eq_append_getElem hlt]; congr 1; simp [rdOf, List.getD, List.getElem?_eq_getElem hlt]
      generalize rdOf ByteArray.empty zs (k : Int) = y at hx hcell
      simp only [Int.toNat_natCast] at hcell
      obtain ⟨fn, tmps, assign, body, hy, hR⟩ := hY _ y wr hJs (by rw [List.length_take]; omega)
      have HX := Aside0.mk hx
      have HC := Aside0.mk hC
      clear hx hC
      gi_wp2
      refine hR.mono ?_
      rintro e W3 (⟨rfl, hJ3, hk3⟩ | ⟨rfl, hJx3⟩)
      · gi_wp2
        go_roundw
        case rel => exact ⟨k + 1, by omega, by simp, by rw [HX.out]; exact hJ3, hB.trans hk3⟩
        case measure => simp [RowKit.intOf]; omega
      · gi_wp2
        refine bodyPost_ret (results_none rfl _ _ _) rfl ?_
        exact ⟨⟨_, rfl⟩, .inr ⟨_, by rw [← HX.out]; exact List.take_prefix _ _, hJx3⟩⟩
    · obtain rfl : k = zs.length := by omega
      gi_wp2
      go_end0
      exact ⟨⟨_, rfl⟩, .inl ⟨_, rfl, by rw [List.take_length] at hJs; exact hJs⟩⟩
theorem set_values (a : Option Addr) (len cap : Nat) (w : World) :
    Calls Tryz.prog 92 #[.slice a len cap] w fun e w' => e = .returned (.func (.func 97) #[] #[.pointer (some ⟨w.heap.size, 0, none⟩)]) ∧ w' = w.alloc (.cells #[.slice a len cap] 41) := by
  go_enter Tryz.func92, Tryz.ntmps92
  go_wp2
  go_ret
  exact ⟨rfl, rfl⟩
theorem set_infoE : (Tryz.prog.info? 9).map (fun i => (i.zero, i.size, i.bytes)) = some (some (.string ⟨#[]⟩), 1, 16) := by kernel_rfl
set_option maxRecDepth 100000 in
set_option maxHeartbeats 2000000 in
theorem set_appendSeq (Bs : Nat) (A : Option Addr) (cap : Nat) (zs : List ByteArray) (hmax : zs.length * 16 ≤ 140737488351232) (w0 w : World) (hC : SC w0 A zs.length zs) (hw : Below w0.heap.size w0 w) (hlt : Bs < w.heap.size) (hBs : w.cell? ⟨Bs, 0, none⟩ = some (.slice A zs.length cap)) :
    CallsIn Fence.wide 4 Tryz.prog 105 #[.slice none 0 0, .func (.func 97) #[] #[.pointer (some ⟨Bs, 0, none⟩)]] w fun e W' => ∃ v, e = .returned v ∧ W'.ownsRow w.heap.size 9 1 v zs.length (zs.map Value.string) ∧ (v = .slice none 0 0 ↔ zs = []) ∧ Below w.heap.size w W' := by
  have h1 : 1 ≤ 4 := by omega
  have hro : Fence.wide.round = none := rfl
  obtain ⟨i0, hi, hz0, hz1, hz2⟩ := info_parts set_infoE
  refine callsIn_of_wp_marks Tryz.func105 rfl trivial ?_ rfl
  simp only [Tryz.ntmps105, List.size_toArray, List.length_cons, List.length_nil, Nat.reduceAdd, Nat.reduceSub, Array.replicate_succ, Array.replicate_zero, List.push_toArray, List.append_toArray, List.nil_append, List.cons_append]
  gi_wp2
  have bO := Boxed.new w 41 (.slice none 0 0)
  have hB0 : Below w.heap.size w (w.alloc (.cells #[.slice none 0 0] 41)) := (Below.refl _ w).alloc (Nat.le_refl _) _
  have hstops : SeqStopsK Fence.wide 3 Tryz.prog 97 #[.pointer (some ⟨Bs, 0, none⟩)] (fun x : ByteArray => #[Value.string x]) (Below w0.heap.size) (fun ys => ys = zs) (fun pre => pre <+: zs) zs.length w := fun l J Jx W hW _ _ hY h0 =>
    set_values1 Fence.wide 3 trivial rfl (by omega) l Bs A cap zs w0 hC J Jx hY W (hw.trans (hW.mono hw.size)) ((hW.cell (p := ⟨Bs, 0, none⟩) hlt).trans hBs) h0
  refine wpIn_rangeFunc_ownG hro h1 (gf := 97) (lb := #[.pointer (some ⟨Bs, 0, none⟩)]) rfl trivial (enters_of Tryz.func97 (by kernel_rfl) rfl)
    hstops belowK_t (belowK_b (by have := hw.size; simp; omega)) hB0 (fun _ => rfl)
    (fun pre W => (∃ v, Boxed W w.heap.size 41 v ∧ W.ownsRow w.heap.size 9 1 v pre.length (pre.map Value.string) ∧ (v = .slice none 0 0 ↔ pre = [])) ∧ Below w.heap.size w W)
    (fun _ _ _ => False)
    (OwnFrom.and (Own.from (holdsRow_own w.heap.size w.heap.size 41 9 1 (fun pre => pre.length) (fun pre => pre.map Value.string) (fun pre v => v = .slice none 0 0 ↔ pre = [])) _) (ownFrom_below (Nat.le_refl _) (by simp; try omega)))
    (fun _ _ _ _ _ hs _ _ => hs)
    ⟨⟨_, bO, World.ownsRow_nil _ _ _ _, by simp⟩, hB0⟩
    (fun x => { tmps := #[.slice none 0 0, .func (.func 97) #[] #[.pointer (some ⟨Bs, 0, none⟩)], .pointer (some ⟨w.heap.size, 0, none⟩), undef, .slice none 0 0, .string x, .func (.func 97) #[] #[.pointer (some ⟨Bs, 0, none⟩)], .string x, undef, undef, undef, undef, undef], defers := [] }) ?assign ?body ?done ?stop
  case assign =>
    intro l x W K hK
    gi_wp2
    exact hK
  case body =>
    rintro l pre x W ⟨⟨v, hv, hrow, hnil⟩, hB⟩ hlt
    have hc := hv.cell
    gi_wp2_with (gi_at_builtin; refine wpListIn_append_own _ rfl _ _ 41 rfl w.heap.size 9 i0 (.string ⟨#[]⟩) 1 16 Tryz.underlying41 hi hz0 hz1 hz2 rfl (by decide) _ _ _ rfl (hrow.alloc _) ⟨W.heap.size, 0, none⟩ 1 1 [.string x] rfl rfl (cell_one_new _ _ _) (by simp [Value.oneCell']) (by unfold maxLen; omega) (by omega) (by have := hB.size; simp; omega) ?_; intro v' w1 hown' hgrow _; obtain ⟨g', cap', rfl⟩ := ownsRow_succ hown'; obtain ⟨hv1, hv2, hr2, hk2, hb2⟩ := hv.appended (by decide) hrow hB.size (Nat.le_refl _) hown' hgrow; have hc1 := hv1.cell; have hf1 := hv1.frozen)
    exact ⟨hk2.from _, hb2.mono hw.size, ⟨_, hv2, by simpa using hr2, by simp⟩, hB.trans hb2⟩
  case done =>
    rintro D ys W hD rfl ⟨⟨v, hv, hrow, hnil⟩, hB⟩ hK
    have hc := hv.cell
    gi_wp2
    refine ⟨by simp, .inl ⟨_, _, rfl, run_takeDeferred hK, ?_⟩⟩
    exact ⟨_, results_tmp rfl _ _ _, v, rfl, ownsRow_putObj hrow _ hK rfl, hnil, hB.trans (belowK_b (w := w) (Nat.le_refl _) W D _ _ (by simp at hD; omega) hK rfl rfl)⟩
  case stop =>
    rintro D c pre W _ _ h _
    exact h.elim
theorem set_collect (Bs : Nat) (A : Option Addr) (cap : Nat) (zs : List ByteArray) (hmax : zs.length * 16 ≤ 140737488351232) (w0 w : World) (hC : SC w0 A zs.length zs) (hw : Below w0.heap.size w0 w) (hlt : Bs < w.heap.size) (hBs : w.cell? ⟨Bs, 0, none⟩ = some (.slice A zs.length cap)) :
    Calls Tryz.prog 95 #[.func (.func 97) #[] #[.pointer (some ⟨Bs, 0, none⟩)]] w fun e W' => ∃ v, e = .returned v ∧ W'.ownsRow w.heap.size 9 1 v zs.length (zs.map Value.string) ∧ (v = .slice none 0 0 ↔ zs = []) ∧ Below w.heap.size w W' := by
  have hap := callsIn_wide.1 (set_appendSeq Bs A cap zs hmax w0 w hC hw hlt hBs)
  go_enter Tryz.func95, Tryz.ntmps95
  go_wp2_with (go_at_call 105; refine hap.mono ?_; rintro e W ⟨v, rfl, hrow, hnil, hb⟩)
  go_ret
  exact ⟨v, rfl, hrow, hnil, hb⟩
theorem set_own_base {W : World} {base base' : Nat} {e : TypeId} {size : Nat} {v : Value} {k : Nat} {xs : List Value} (h : W.ownsRow base e size v k xs) (hb : base' ≤ base) : W.ownsRow base' e size v k xs :=
  ⟨h.1, h.2.imp id fun ⟨g, cap, cur, h1, h2, h3⟩ => ⟨g, cap, cur, h1, Nat.le_trans hb h2, h3⟩⟩
theorem set_own_left {w w1 : World} {e : TypeId} {g cap n nn q : Nat} {os : Array Obj} {ss : List (List UInt8)} (hown : w1.ownsRow w.heap.size e 1 (.slice (some ⟨g, 0, none⟩) n cap) n (ss.map encStr)) (hbel : Below w.heap.size w w1) (hbg : w.heap.size ≤ g) (hlen : ss.length = n) :
    (putRow encStr (Sort.ahead (grow (putRow encStr (Sort.ahead w1 nn) g 0 (ss.mergeSort fun x y => decide (x ≤ y)).toArray) os) q) g 0 (Lib.compact (ss.mergeSort fun x y => decide (x ≤ y)) ++ List.replicate (n - (Lib.compact (ss.mergeSort fun x y => decide (x ≤ y))).length) []).toArray).ownsRow w.heap.size e 1 (.slice (some ⟨g, 0, none⟩) (Lib.compact (ss.mergeSort fun x y => decide (x ≤ y))).length cap) (Lib.compact (ss.mergeSort fun x y => decide (x ≤ y))).length ((Lib.compact (ss.mergeSort fun x y => decide (x ≤ y))).map encStr) ∧
    Below w.heap.size w (putRow encStr (Sort.ahead (grow (putRow encStr (Sort.ahead w1 nn) g 0 (ss.mergeSort fun x y => decide (x ≤ y)).toArray) os) q) g 0 (Lib.compact (ss.mergeSort fun x y => decide (x ≤ y)) ++ List.replicate (n - (Lib.compact (ss.mergeSort fun x y => decide (x ≤ y))).length) []).toArray) := by
  have hl2 : (ss.mergeSort fun x y => decide (x ≤ y)).length = ss.length := List.length_mergeSort ss
  have hle := Lib.compact_length_le (ss.mergeSort fun x y => decide (x ≤ y))
  subst hlen
  rcases hown.2 with ⟨h0, _⟩ | ⟨g', cap', cur, hv, hbase, hb, h1, h2, h3, h4⟩
  · cases h0
  cases hv
  have hs := ownsRow_sorted (n := nn) (os := os) (ts := ss.mergeSort fun x y => decide (x ≤ y)) hl2 hbase hb h1 h2 h3
  have hc := Lib.ownsRow_putRow (q := q) (k := (Lib.compact (ss.mergeSort fun x y => decide (x ≤ y))).length) (ys := Lib.compact (ss.mergeSort fun x y => decide (x ≤ y)) ++ List.replicate (ss.length - (Lib.compact (ss.mergeSort fun x y => decide (x ≤ y))).length) []) hs (by simp; omega) (by omega)
  rw [List.take_left] at hc
  exact ⟨hc, Lib.below_putRow (hbel.grown (grownBy_sorted _) hbel.size (fun j hj => by cases hj; exact hbase)) hbg⟩
set_option maxRecDepth 100000 in
set_option maxHeartbeats 2000000 in
theorem set_calls (A : Option Addr) (c : Nat) (l0 r : List ByteArray) (w : World) (hr : SC w A l0.length l0) (h : X.impl_set.f l0 = some r) :
    Calls Tryz.prog 82 #[.slice A l0.length c] w fun e w' => ∃ v0_ : Value, e = .returned v0_ ∧ OW w' w.heap.size 9 v0_ r ∧ Below w.heap.size w w' := by
  unfold X.impl_set.f at h
  by_cases hm : l0.length * 16 ≤ 140737488351232
  case neg => rw [if_neg hm] at h; cases h
  rw [if_pos hm] at h
  obtain rfl := Option.some.inj h
  clear h
  have hB1 : Below w.heap.size w (w.alloc (.cells #[.slice A l0.length c] 41)) := (Below.refl _ w).alloc (Nat.le_refl _) _
  have hcol := set_collect w.heap.size A c l0 hm w (w.alloc (.cells #[.slice A l0.length c] 41)) hr hB1 (by simp) ((blk_cell (blk_new w (.cells #[.slice A l0.length c] 41)) 0).trans rfl)
  have X0 := Aside0.mk hr
  clear hr
  obtain ⟨ss, hss⟩ : ∃ ss, ss = l0.map (·.data.toList) := ⟨_, rfl⟩
  have hssl : ss.length = l0.length := by rw [hss]; simp
  have hsv : l0.map Value.string = ss.map encStr := by rw [hss, List.map_map]; rfl
  rw [hsv] at hcol
  have HSET : X.impl_set.setOf l0 = (Lib.compact (ss.mergeSort fun x y => decide (x ≤ y))).map (fun s => (⟨s.toArray⟩ : ByteArray)) := by unfold X.impl_set.setOf; rw [hss]
  have X1 := Aside0.mk HSET
  have hnil0 : l0 = [] ↔ ss = [] := by rw [hss]; simp
  have X2 := Aside0.mk hnil0
  clear hss hsv HSET hnil0
  -- slices.Sorted, over what is collected
  have hsorted : Calls Tryz.prog 91 #[.func (.func 97) #[] #[.pointer (some ⟨w.heap.size, 0, none⟩)]] (w.alloc (.cells #[.slice A l0.length c] 41)) fun e W' =>
      (e = .returned (.slice none 0 0) ∧ ss = [] ∧ Below w.heap.size w W') ∨ (∃ (w1 : World) (g cap nn : Nat) (os : Array Obj), e = .returned (.slice (some ⟨g, 0, none⟩) ss.length cap) ∧ w1.ownsRow w.heap.size 9 1 (.slice (some ⟨g, 0, none⟩) ss.length cap) ss.length (ss.map encStr) ∧ Below w.heap.size w w1 ∧ w.heap.size ≤ g ∧ g < w1.heap.size ∧ ss.length ≤ cap ∧ Holds encStr w1 g 0 ss.toArray ∧ W' = grow (putRow encStr (Sort.ahead w1 nn) g 0 (ss.mergeSort fun x y => decide (x ≤ y)).toArray) os) := by
    go_enter Tryz.func91, Tryz.ntmps91
    go_wp2_with (go_at_call 95; refine hcol.mono ?_; rintro e W ⟨v, rfl, hrow, hnil, hb⟩)
    by_cases hv : v = .slice none 0 0
    · have he := X2.out.1 (hnil.1 hv)
      subst hv
      have hb2 : Below w.heap.size w W := hB1.trans (hb.mono (by simp))
      have Y := Aside0.mk (And.intro he hb2)
      clear he hb hb2 hrow hnil
      have hs0 := Tryz.slices_Sort_string_none none 0 W
      go_wp2_with (go_at_call 96; refine hs0.mono ?_; rintro e w' ⟨rfl, rfl⟩)
      go_ret
      exact .inl ⟨rfl, Y.out.1, Y.out.2⟩
    · rw [← hssl] at hrow
      obtain ⟨g, cap, rfl, hbg, hgl, hncap, hcm, hlen2, hH⟩ := Lib.holds_of_ownsRow hrow hv
      have hsort := Tryz.slices_Sort_string g 0 cap ss W hH hgl (by omega)
      have Y := Aside0.mk (And.intro (set_own_base (base' := w.heap.size) hrow (by simp)) (And.intro (hB1.trans (hb.mono (by simp))) (And.intro (show w.heap.size ≤ g by simp at hbg; omega) (And.intro hgl (And.intro hncap hH)))))
      clear hrow hv hnil hb hbg hgl hncap hcm hH hlen2
      go_wp2_with (go_at_call 96; refine hsort.mono ?_; rintro e w2 ⟨rfl, nn, os, rfl⟩)
      go_ret
      exact .inr ⟨W, g, cap, nn, os, by rw [hssl]; rfl, Y.out.1, Y.out.2.1, Y.out.2.2.1, Y.out.2.2.2.1, Y.out.2.2.2.2.1, Y.out.2.2.2.2.2, rfl⟩
  have hcall : Calls Tryz.prog 91 #[.func (.func 97) #[] #[.pointer (some ⟨w.heap.size, 0, none⟩)]] (w.alloc (.cells #[.slice A l0.length c] 41)) fun e W' =>
      ∃ v, e = .returned v ∧ Calls Tryz.prog 90 #[v] W' fun e w' => ∃ v0_ : Value, e = .returned v0_ ∧ OW w' w.heap.size 9 v0_ (X.impl_set.setOf l0) ∧ Below w.heap.size w w' := by
    refine hsorted.mono ?_
    rintro e W' (⟨rfl, he, hb⟩ | ⟨w1, g, cap, nn, os, rfl, hown, hb1, hbg, hgl, hncap, hH, rfl⟩)
    · refine ⟨_, rfl, ?_⟩
      have h0 := Tryz.slices_Compact_string_empty none 0 W'
      refine h0.mono ?_
      rintro e w' ⟨rfl, rfl⟩
      refine ⟨_, rfl, ?_, hb⟩
      rw [X1.out, he]
      rw [show Lib.compact (([] : List (List UInt8)).mergeSort fun x y => decide (x ≤ y)) = [] by rw [List.mergeSort_nil]; rfl]
      exact ⟨rfl, .inl ⟨rfl, rfl⟩⟩
    · refine ⟨_, rfl, ?_⟩
      have hl2 : (ss.mergeSort fun x y => decide (x ≤ y)).length = ss.length := List.length_mergeSort ss
      have hH2 : Holds encStr (grow (putRow encStr (Sort.ahead w1 nn) g 0 (ss.mergeSort fun x y => decide (x ≤ y)).toArray) os) g 0 (ss.mergeSort fun x y => decide (x ≤ y)).toArray :=
        holds_grow encStr _ os g 0 _ (by simpa [putRow, mapBlock, Sort.ahead] using hgl) (holds_putRow encStr _ g 0 _ _ (holds_ahead encStr w1 nn g 0 _ hH) (by simp))
      have hcomp := Tryz.slices_Compact_string g 0 cap (ss.mergeSort fun x y => decide (x ≤ y)) _ hH2 (by omega) (by omega)
      rw [hl2] at hcomp
      refine hcomp.mono ?_
      rintro e w3 ⟨rfl, q, rfl⟩
      obtain ⟨h1, h2⟩ := set_own_left (q := q) (nn := nn) (os := os) hown hb1 hbg rfl
      refine ⟨_, rfl, ?_, h2⟩
      rw [X1.out]
      have e1 : (Lib.compact (ss.mergeSort fun x y => decide (x ≤ y))).map encStr = ((Lib.compact (ss.mergeSort fun x y => decide (x ≤ y))).map (fun s => (⟨s.toArray⟩ : ByteArray))).map Value.string := by
        simp [encStr]
      unfold OW
      rw [← e1, List.length_map]
      exact h1
  clear hcol hsorted
  have X3 := Aside0.mk hB1
  clear hB1
  go_enter Tryz.func82, Tryz.ntmps82
  go_wp2_with (first
    | (go_at_call 92; refine (set_values _ _ _ _).mono ?_; rintro e w' ⟨rfl, rfl⟩)
    | (go_at_call 91; refine hcall.mono ?_; rintro e w' ⟨v, rfl, hcomp⟩; clear hcall)
    | (go_at_call 90; refine hcomp.mono ?_; rintro e w' ⟨v3, rfl, h1, h2⟩; clear hcomp))
  go_ret
  exact ⟨v3, rfl, h1, h2⟩

inductive F82 : List Rel → List (List TV) → List (List TV) × List (List TV) → Prop
  | mk (a0 r) (h : X.impl_set.f a0 = some r) : F82 [] [[⟨(.row 9 .str), a0⟩]] ([[⟨(.row 9 .str), r⟩]], [])
abbrev c82 : Con := ⟨82, [.val false], [(false, [true])], false, F82⟩
theorem post_below {w w' : World} {O : Option Nat} (h : Below w.heap.size w w') (hO : ∀ b, O = some b → w.heap.size ≤ b ∧ b < w'.heap.size) : Post w w' [] [] O :=
  ⟨h.os, h.tape, h.output, h.size, fun b hb _ _ => h.block b hb, fun b hb => ⟨.inl (hO b hb).1, (hO b hb).2⟩⟩
theorem cks_str {w : World} {ok : Nat → Prop} : ∀ (xs : List ByteArray), CKs w ok .str xs (xs.map Value.string)
  | [] => rfl
  | x :: xs => ⟨[.string x], xs.map Value.string, rfl, rfl, cks_str xs⟩
theorem sc_of {w : World} {ok : Nat → Prop} {e : TypeId} {xs : List ByteArray} {v : Value} (h : CK w ok (.row e .str) xs [v]) : ∃ A c, v = .slice A xs.length c ∧ SC w A xs.length xs := by
  obtain ⟨A, c, e1, hl, hr⟩ := h
  refine ⟨A, c, by simpa using e1, hl.2, fun i hi => ?_⟩
  obtain ⟨ad, h1, _, es, h2, h3⟩ := hr i xs[i] (List.getElem?_eq_getElem hi)
  refine ⟨ad, h1, ?_⟩
  have := h3 0 (.string xs[i]) (by rw [show es = _ from h2]; rfl)
  have hx : rdOf ByteArray.empty xs (i : Int) = xs[i] := by simp [rdOf, List.getD, List.getElem?_eq_getElem hi]
  rw [hx]
  have e2 : i * Ty.sz .str + 0 = i := Nat.mul_one i
  rw [e2] at this
  exact this
theorem o82 : GoodCon Tryz.prog c82 := by
  refine ⟨fun w ok vs ins bs ms Rs out h1 _ _ _ hF => ?_, _, Tryz.func82, by rfl, by rfl⟩
  cases hF
  rename_i a0 r h
  match vs, h1 with
  | [v], h1 =>
    obtain ⟨⟨⟨_, hv⟩, _⟩, h2⟩ := h1
    obtain ⟨rfl, rfl, _⟩ := h2
    obtain ⟨A, c, rfl, hsc⟩ := sc_of hv
    refine (set_calls A c a0 r w hsc h).mono ?_
    rintro e w' ⟨v0, rfl, ho, hb⟩
    refine ⟨v0, v0.ownBlock, noG, rfl, (fun b h => h.elim), post_below hb (fun b hb => ?_), ⟨rfl, rfl⟩, _, rfl, ⟨?_, rfl, _, _, _, _, rfl, ⟨ho.1, ho.2.imp id fun ⟨g, cap, cur, k1, k2, k3⟩ => ⟨g, cap, cur, k1, Nat.zero_le _, k3⟩⟩, cks_str r⟩, trivial⟩
    · rcases ho.2 with ⟨e, _⟩ | ⟨g, cap, cur, e, k2, k3, _⟩
      · rw [e] at hb; cases hb
      · rw [e] at hb
        have : g = b := by simpa [Value.ownBlock] using hb
        subst this
        exact ⟨k2, (Array.getElem?_eq_some_iff.1 k3).1⟩
    · rcases ho.2 with ⟨e, _⟩ | ⟨g, cap, cur, e, _⟩ <;> rw [e] <;> rfl
/-- strings.Trim over letters below 128. -/
inductive F94 : List Rel → List (List TV) → List (List TV) × List (List TV) → Prop
  | mk (a0 a1 r) (h : X.strings_Trim.f a0 a1 = some r) : F94 [] [[⟨.str, a0⟩], [⟨.str, a1⟩]] ([[⟨.str, r⟩]], [])
abbrev c94 : Con := ⟨94, [.val false, .val false], [(false, [false])], false, F94⟩
theorem o94 : GoodCon Tryz.prog c94 := by
  refine ⟨fun w ok vs ins bs ms Rs out h1 _ _ _ hF => ?_, _, Tryz.func94, by rfl, by rfl⟩
  cases hF
  rename_i a0 a1 r h
  match vs, h1 with
  | [v, v2], h1 =>
    obtain ⟨⟨⟨_, hv⟩, _⟩, ⟨⟨_, hv2⟩, _⟩, h2⟩ := h1
    obtain ⟨rfl, rfl, _⟩ := h2
    obtain rfl : v = .string a0 := by simpa [CK] using hv
    obtain rfl : v2 = .string a1 := by simpa [CK] using hv2
    unfold X.strings_Trim.f at h
    split at h
    · rename_i hc
      obtain rfl := Option.some.inj h
      refine (Any.strings_Trim_laid Tryz.laysTrim (by kernel_rfl) a0 a1 w hc.1 hc.2.1 (ascii_of_all hc.2.2)).mono ?_
      rintro e w' ⟨rfl, hb⟩
      exact ⟨_, none, noG, rfl, (fun b h => h.elim), post_below hb (fun b hb => by cases hb), ⟨rfl, rfl⟩, _, rfl, ⟨⟨rfl, rfl⟩, trivial⟩⟩
    · cases h
end Go.Ab.S

-- By gen.py (the session's own program over the kit's printer): functions of the program, each with its contract. Lean checks it.
import Derived.Test.YtnjjchbhbicmoaaDoorX0
import Derived.Test.YtnjjchbhbicmoaaDoorX3
import Derived.Test.YtnjjchbhbicmoaaDoorX6
import Derived.Test.YtnjjchbhbicmoaaDoorX8
namespace Go.Proofs.YtnjjchbhbicmoaaDoor.X
open Go.RowKit Go.Proofs.YtnjjchbhbicmoaaDoorW.PrintWords Go.Proofs.YtnjjchbhbicmoaaDoorW.PrintLast Go.Proofs.YtnjjchbhbicmoaaDoorW.PrintMore
attribute [local go_sem] max2_int min2_int max_two min_two max_three min_three max_four min_four   -- for this text's walks alone
set_option linter.unusedVariables false
set_option linter.unusedSimpArgs false

/-! ### spec_CrashLog: function 7: a contract of our own -/
def flipB (t : Bool) (s : ByteArray) : ByteArray := if t = true ∧ 0 < s.size then strOfNums ((bytesOf s).set (s.size - 1) (255 - bt s ((s.size - 1 : Nat) : Int))) else s
theorem str_bytes (s : ByteArray) : strOfNums (bytesOf s) = s := by
 unfold strOfNums bytesOf
 obtain ⟨⟨l⟩⟩ := s
 simp [Function.comp_def]
theorem crash_facts {w7 : World} {gb : Nat} {a0_0 a0_1 : ByteArray} {a0_2 a1 : Int} {js : ByteArray} (BK : w7.heap[gb]? = some (.cells #[.string a0_0, .string a0_1, .int .i64 a0_2] 27 (0, 0))) (hj : (js.size : Int) = a1) (hz : js.size ≤ 2000000) :
  (∀ nd, (Lib.bytesWorld (w7.drewN nd) 5 js).cell? ⟨gb, 0, none⟩ = some (.string a0_0)) ∧
  (∀ nd c, (convert 30 9 (.slice (some ⟨w7.heap.size, 0, none⟩) js.size c)).run Tryd.prog (Lib.bytesWorld (w7.drewN nd) 5 js) = .ok (.string js) (Lib.bytesWorld (w7.drewN nd) 5 js)) ∧ (∀ nd, (w7.drewN nd).heap.size = w7.heap.size) := by
 have hlt : gb < w7.heap.size := by
  rcases Nat.lt_or_ge gb w7.heap.size with h | h
  ·exact h
  ·rw [Array.getElem?_eq_none h] at BK; cases BK
 refine ⟨fun nd => ?_, fun nd c => ?_, fun nd => rfl⟩
 ·rw [Lib.bytesWorld_old _ _ _ _ hlt]
  exact (blk_cell BK 0).trans rfl
 ·have h := string_of_reads (P := Tryd.prog) (src := 30) (dst := 9) (c := c) Tryd.underlying30 Tryd.underlying5 Tryd.underlying9 (bytes_reads (w7.drewN nd) 5 js (by omega))
  rw [str_bytes] at h
  exact h
theorem bt_range (s : ByteArray) (i : Nat) : 0 ≤ bt s (i : Int) ∧ bt s (i : Int) ≤ 255 := by
 rw [← rd_bytesOf]
 show 0 ≤ (bytesOf s).getD (i : Int).toNat 0 ∧ (bytesOf s).getD (i : Int).toNat 0 ≤ 255
 rw [List.getD_eq_getElem?_getD]
 cases h : (bytesOf s)[(i : Int).toNat]? with
 | none => simp
 | some v =>
  have hm := List.mem_of_getElem? h
  unfold bytesOf at hm
  obtain ⟨b, _, rfl⟩ := List.mem_map.1 hm
  have := b.toNat_lt
  simp only [Option.getD_some]
  omega
theorem str_size (xs : List Int) : (strOfNums xs).size = xs.length := by
 unfold strOfNums
 simp [ByteArray.size]
theorem bytes_frozen (W : World) (e : TypeId) (s : ByteArray) (i : Nat) (hi : i < s.size) : (Lib.bytesWorld W e s).frozen? ⟨W.heap.size, i, none⟩ = false := by
 have h := Lib.bytesWorld_at_new W e s
 have hl : s.size ≤ (Lib.bytesCells W e s).size := by simp [Lib.bytesCells]
 simp [World.frozen?, h]
 omega
theorem flip_facts {w7 : World} {gb : Nat} {a0_0 a0_1 : ByteArray} {a0_2 a1 : Int} {js : ByteArray} (BK : w7.heap[gb]? = some (.cells #[.string a0_0, .string a0_1, .int .i64 a0_2] 27 (0, 0))) (hj : (js.size : Int) = a1) (hp : 0 < js.size) (hz : js.size ≤ 2000000) (x : Int) :
  (∀ nd, (Lib.bytesWorld (w7.drewN nd) 5 js).cell? ⟨w7.heap.size, a1.toNat - 1, none⟩ = some (.int .u8 (bt js (a1 - 1)))) ∧
  (∀ nd, (Lib.bytesWorld (w7.drewN nd) 5 js).frozen? ⟨w7.heap.size, a1.toNat - 1, none⟩ = false) ∧
  (∀ nd, ((Lib.bytesWorld (w7.drewN nd) 5 js).setCell ⟨w7.heap.size, a1.toNat - 1, none⟩ (.int .u8 x)).cell? ⟨gb, 0, none⟩ = some (.string a0_0)) ∧
  (∀ nd c, (convert 30 9 (.slice (some ⟨w7.heap.size, 0, none⟩) js.size c)).run Tryd.prog ((Lib.bytesWorld (w7.drewN nd) 5 js).setCell ⟨w7.heap.size, a1.toNat - 1, none⟩ (.int .u8 x)) = .ok (.string (strOfNums ((bytesOf js).set (a1.toNat - 1) x))) ((Lib.bytesWorld (w7.drewN nd) 5 js).setCell ⟨w7.heap.size, a1.toNat - 1, none⟩ (.int .u8 x))) := by
 have hlt : gb < w7.heap.size := by
  rcases Nat.lt_or_ge gb w7.heap.size with h | h
  ·exact h
  ·rw [Array.getElem?_eq_none h] at BK; cases BK
 obtain ⟨m, hm⟩ : ∃ m : Nat, a1.toNat - 1 = m := ⟨_, rfl⟩
 have hm1 : a1 - 1 = (m : Int) := by omega
 have hm2 : m < js.size := by omega
 rw [hm, hm1]
 have cellAt : ∀ nd j, j < js.size → (Lib.bytesWorld (w7.drewN nd) 5 js).cell? ⟨w7.heap.size, j, none⟩ = some (.int .u8 ((bytesOf js).getD j 0)) := fun nd j hj2 => by
  have h := (bytes_reads (w7.drewN nd) 5 js (by omega)).2.2 (by omega)
  obtain ⟨ad, he, hc⟩ := h
  cases he
  have := hc j hj2
  rwa [show Addr.add ⟨(w7.drewN nd).heap.size, 0, none⟩ j = ⟨(w7.drewN nd).heap.size, j, none⟩ from by unfold Addr.add; split <;> simp_all] at this
 have hold : ∀ nd, (Lib.bytesWorld (w7.drewN nd) 5 js).cell? ⟨gb, 0, none⟩ = some (.string a0_0) := fun nd => by
  rw [Lib.bytesWorld_old _ _ _ _ hlt]; exact (blk_cell BK 0).trans rfl
 refine ⟨fun nd => ?_, fun nd => bytes_frozen (w7.drewN nd) 5 js m hm2, fun nd => ?_, fun nd c => ?_⟩
 ·rw [cellAt nd m hm2, ← rd_bytesOf]; rfl
 ·have hne : gb ≠ w7.heap.size := by omega
  have := hold nd
  simp only [World.cell?] at this ⊢
  rw [Below.heap_setCell _ _ _ _ hne]
  exact this
 ·refine string_of_reads (P := Tryd.prog) (src := 30) (dst := 9) (c := c) Tryd.underlying30 Tryd.underlying5 Tryd.underlying9 ⟨by rw [List.length_set, bytesOf_length], by omega, fun _ => ⟨_, rfl, fun j hj2 => ?_⟩⟩
  rw [show Addr.add ⟨w7.heap.size, 0, none⟩ j = ⟨w7.heap.size, j, none⟩ from by unfold Addr.add; split <;> simp_all]
  have hn : (Lib.bytesWorld (w7.drewN nd) 5 js).heap[w7.heap.size]? = _ := Lib.bytesWorld_at_new (w7.drewN nd) 5 js
  have hl : js.size ≤ (Lib.bytesCells (w7.drewN nd) 5 js).size := by simp [Lib.bytesCells]
  have hset : ((Lib.bytesWorld (w7.drewN nd) 5 js).setCell ⟨w7.heap.size, m, none⟩ (.int .u8 x)).heap[w7.heap.size]? = some (.cells ((Lib.bytesCells (w7.drewN nd) 5 js).setIfInBounds m (.int .u8 x)) 5 ((Lib.bytesCells (w7.drewN nd) 5 js).size, (Lib.bytesCells (w7.drewN nd) 5 js).size + 1)) := by
   simp [World.setCell, Array.getElem?_modify, hn]
  have hc := cellAt nd j hj2
  simp only [World.cell?, hn] at hc
  simp only [World.cell?, hset]
  by_cases hjm : j = m
  ·subst hjm
   have hb := bytesOf_length js
   rw [List.getD_eq_getElem?_getD, List.getElem?_set_self (by omega), Array.getElem?_setIfInBounds_self_of_lt (by omega)]
   rfl
  ·rw [List.getD_eq_getElem?_getD, List.getElem?_set_ne (Ne.symm hjm), ← List.getD_eq_getElem?_getD, Array.getElem?_setIfInBounds_ne (Ne.symm hjm)]
   exact hc
theorem flip_facts2 {w7 : World} {gb : Nat} {a0_0 a0_1 : ByteArray} {a0_2 : Int} {js : ByteArray} (BK : w7.heap[gb]? = some (.cells #[.string a0_0, .string a0_1, .int .i64 a0_2] 27 (0, 0))) (hp : 0 < js.size) (hz : js.size ≤ 2000000) (x : Int) :
  (∀ nd, (Lib.bytesWorld (w7.drewN nd) 5 js).cell? ⟨w7.heap.size, js.size - 1, none⟩ = some (.int .u8 (bt js ((js.size : Int) - 1)))) ∧
  (∀ nd, (Lib.bytesWorld (w7.drewN nd) 5 js).frozen? ⟨w7.heap.size, js.size - 1, none⟩ = false) ∧
  (∀ nd c, (convert 30 9 (.slice (some ⟨w7.heap.size, 0, none⟩) js.size c)).run Tryd.prog ((Lib.bytesWorld (w7.drewN nd) 5 js).setCell ⟨w7.heap.size, js.size - 1, none⟩ (.int .u8 x)) = .ok (.string (strOfNums ((bytesOf js).set (js.size - 1) x))) ((Lib.bytesWorld (w7.drewN nd) 5 js).setCell ⟨w7.heap.size, js.size - 1, none⟩ (.int .u8 x))) := by
 obtain ⟨h1, h2, h3, h4⟩ := flip_facts BK (a1 := (js.size : Int)) rfl hp hz x
 rw [Int.toNat_natCast] at h1 h2 h4
 exact ⟨h1, h2, h4⟩
theorem crash_facts1 {w7 : World} {gb : Nat} {a0_0 a0_1 : ByteArray} {a0_2 : Int} {js : ByteArray} (BK : w7.heap[gb]? = some (.cells #[.string a0_0, .string a0_1, .int .i64 a0_2] 27 (0, 0))) :
  (∀ nd, (Lib.bytesWorld (w7.drewN nd) 5 js).cell? ⟨gb, 1, none⟩ = some (.string a0_1)) := by
 have hlt : gb < w7.heap.size := by
  rcases Nat.lt_or_ge gb w7.heap.size with h | h
  ·exact h
  ·rw [Array.getElem?_eq_none h] at BK; cases BK
 intro nd
 rw [Lib.bytesWorld_old _ _ _ _ hlt]
 exact (blk_cell BK 1).trans rfl
def spec_CrashLog.f (k : Nat) (d p : ByteArray) (n keep : Int) (torn : Bool) : Option (ByteArray × Bool) :=
 (spec_l12Valid.f k d p n).bind fun ok => if ok = true then (if 0 ≤ keep ∧ keep ≤ (p.size : Int) then (if d.size + p.size ≤ 1000000 then some (d ++ flipB torn (p.extract 0 keep.toNat), true) else none) else some ((⟨#[]⟩ : ByteArray), false)) else some ((⟨#[]⟩ : ByteArray), false)
theorem spec_CrashLog.mono : ∀ a0 a1 a2 a3 a4 k, LeO (spec_CrashLog.f k a0 a1 a2 a3 a4) (spec_CrashLog.f (k + 1) a0 a1 a2 a3 a4) := fun _ _ _ _ _ _ => LeO.bind (spec_l12Valid.mono _ _ _ _) (fun _ => LeO.refl _)
set_option maxHeartbeats 2000000 in
set_option maxRecDepth 100000 in
theorem spec_CrashLog.calls (k : Nat) (a0_0 a0_1 : ByteArray) (a0_2 a1 : Int) (a2 : Bool) (r1 : ByteArray) (r2 : Bool) (w : World) (h : spec_CrashLog.f k a0_0 a0_1 a0_2 a1 a2 = some (r1, r2)) :
  Calls Tryd.prog 7 #[.agg #[.string a0_0, .string a0_1, .int .i64 a0_2], .int .i64 a1, .bool a2] w fun e w' => e = .returned (.tuple #[.string r1, .bool r2]) ∧ Below w.heap.size w w' := by
 have hu27 := Tryd.underlying27
 unfold spec_CrashLog.f at h
 obtain ⟨ok, hok, H⟩ := Option.bind_eq_some_iff.mp h
 clear h; have A1 := Aside0.mk hok; clear hok
 cases ok with
 | false =>
  rw [if_neg (by simp)] at H
  cases H
  go_enter Tryd.func7, Tryd.ntmps7
  go_wp2_with (first | ((with_reducible refine gate_dst (N := 3) rfl ?_); refine box_event ?hg (N := 3) ?hd (cs := #[.string a0_0, .string a0_1, .int .i64 a0_2]) (t := 27) ?hr ?_; (case hd => rfl); (case hg => rfl); (case hr => exact ax9); intro gb hg w6 hbox hb1; clear hg; have hc0 := (blk_cell hbox 0).trans (rfl : _ = some (Value.string a0_0)); have hc1 := (blk_cell hbox 1).trans (rfl : _ = some (Value.string a0_1)); have hc2 := (blk_cell hbox 2).trans (rfl : _ = some (Value.int .i64 a0_2))) | (go_at_call 33; refine (spec_l12Valid.calls k a0_0 a0_1 a0_2 false _ A1.out).mono ?_; rintro e w7 ⟨rfl, hb⟩; have BK := blk_below hbox hb; have HB := below_step hb1 hb; have hz0 := (blk_cell BK 0).trans (rfl : _ = some (Value.string a0_0)); have hz1 := (blk_cell BK 1).trans (rfl : _ = some (Value.string a0_1)); have hf0 := blk_frozen BK 0; have hf1 := blk_frozen BK 1))
  go_ret2
  exact ⟨rfl, HB⟩
 | true =>
  rw [if_pos rfl] at H
  by_cases hk : 0 ≤ a1 ∧ a1 ≤ (a0_1.size : Int)
  case neg =>
   rw [if_neg hk] at H
   cases H
   have hin : spec_l1In.f a1 0 (a0_1.size : Int) = some false := by
    unfold spec_l1In.f
    by_cases h0 : a1 ≥ 0
    ·rw [if_pos h0]; exact congrArg some (decide_eq_false (fun h => hk ⟨h0, h⟩))
    ·rw [if_neg h0]
   have A2 := Aside0.mk hin; clear hin hk
   go_enter Tryd.func7, Tryd.ntmps7
   go_wp2_with (first | ((with_reducible refine gate_dst (N := 3) rfl ?_); refine box_event ?hg (N := 3) ?hd (cs := #[.string a0_0, .string a0_1, .int .i64 a0_2]) (t := 27) ?hr ?_; (case hd => rfl); (case hg => rfl); (case hr => exact ax9); intro gb hg w6 hbox hb1; clear hg; have hc0 := (blk_cell hbox 0).trans (rfl : _ = some (Value.string a0_0)); have hc1 := (blk_cell hbox 1).trans (rfl : _ = some (Value.string a0_1)); have hc2 := (blk_cell hbox 2).trans (rfl : _ = some (Value.int .i64 a0_2))) | (go_at_call 33; refine (spec_l12Valid.calls k a0_0 a0_1 a0_2 true _ A1.out).mono ?_; rintro e w7 ⟨rfl, hb⟩; have BK := blk_below hbox hb; have HB := below_step hb1 hb; have hz0 := (blk_cell BK 0).trans (rfl : _ = some (Value.string a0_0)); have hz1 := (blk_cell BK 1).trans (rfl : _ = some (Value.string a0_1)); have hf0 := blk_frozen BK 0; have hf1 := blk_frozen BK 1) | (go_at_call 34; refine (spec_l1In.calls a1 0 (a0_1.size : Int) false _ A2.out).mono ?_; rintro e w' ⟨rfl, ⟨nd, rfl⟩⟩))
   go_ret2
   exact ⟨rfl, pw_below_drewN HB _⟩
  case pos =>
  rw [if_pos hk] at H
  by_cases hs : a0_0.size + a0_1.size ≤ 1000000
  case neg => rw [if_neg hs] at H; cases H
  rw [if_pos hs] at H
  cases H
  have hin : spec_l1In.f a1 0 (a0_1.size : Int) = some true := by
   unfold spec_l1In.f
   rw [if_pos hk.1]; exact congrArg some (decide_eq_true hk.2)
  have A2 := Aside0.mk hin; clear hin
  obtain ⟨hk0, hk1⟩ := hk
  obtain ⟨js, hjs⟩ : ∃ j_ : ByteArray, (a0_1.extract 0 a1.toNat) = j_ := ⟨_, rfl⟩
  have hjsz : (js.size : Int) = a1 := by rw [← hjs, ByteArray.size_extract]; omega
  have hjz : js.size ≤ 2000000 := by omega
  have k0 := eq_true hk0; have k1 := eq_true hk1
  have kb := fun W => print_bytes (P := Tryd.prog) 9 30 5 Tryd.underlying9 Tryd.underlying30 Tryd.underlying5 js W
  rw [hjs]
  cases a2 with
  | false =>
   rw [show flipB false js = js by unfold flipB; rw [if_neg (by simp)]]
   have h1 : (9223372036854775807 < a0_0.size + js.size) = False := eq_false (by omega)
   go_enter Tryd.func7, Tryd.ntmps7
   go_wp2_with (first | ((with_reducible refine gate_dst (N := 3) rfl ?_); refine box_event ?hg (N := 3) ?hd (cs := #[.string a0_0, .string a0_1, .int .i64 a0_2]) (t := 27) ?hr ?_; (case hd => rfl); (case hg => rfl); (case hr => exact ax9); intro gb hg w6 hbox hb1; clear hg; have hc0 := (blk_cell hbox 0).trans (rfl : _ = some (Value.string a0_0)); have hc1 := (blk_cell hbox 1).trans (rfl : _ = some (Value.string a0_1)); have hc2 := (blk_cell hbox 2).trans (rfl : _ = some (Value.int .i64 a0_2))) | (go_at_call 33; refine (spec_l12Valid.calls k a0_0 a0_1 a0_2 true _ A1.out).mono ?_; rintro e w7 ⟨rfl, hb⟩; have BK := blk_below hbox hb; have HB := below_step hb1 hb; have hz0 := (blk_cell BK 0).trans (rfl : _ = some (Value.string a0_0)); have hz1 := (blk_cell BK 1).trans (rfl : _ = some (Value.string a0_1)); have hy0 := (crash_facts BK hjsz hjz).1; have hst := (crash_facts BK hjsz hjz).2.1; have hsz := (crash_facts BK hjsz hjz).2.2) | (go_at_call 34; refine (spec_l1In.calls a1 0 (a0_1.size : Int) true _ A2.out).mono ?_; rintro e w' ⟨rfl, ⟨nd, rfl⟩⟩))
   go_ret2
   exact ⟨by simp, bytes_below (pw_below_drewN HB _) HB.size 5 js⟩
  | true =>
   have h1 : (9223372036854775807 < a0_0.size + js.size) = False := eq_false (by omega)
   rcases Nat.eq_zero_or_pos js.size with hz0 | hpos
   ·have e1 : flipB true js = js := by unfold flipB; rw [if_neg (by omega)]
    rw [e1]
    have hgt : decide (0 < a1) = false := decide_eq_false (by omega)
    have hgt2 : (0 < a1) = False := eq_false (by omega)
    clear hz0
    go_enter Tryd.func7, Tryd.ntmps7
    go_wp2_with (first | ((with_reducible refine gate_dst (N := 3) rfl ?_); refine box_event ?hg (N := 3) ?hd (cs := #[.string a0_0, .string a0_1, .int .i64 a0_2]) (t := 27) ?hr ?_; (case hd => rfl); (case hg => rfl); (case hr => exact ax9); intro gb hg w6 hbox hb1; clear hg; have hc0 := (blk_cell hbox 0).trans (rfl : _ = some (Value.string a0_0)); have hc1 := (blk_cell hbox 1).trans (rfl : _ = some (Value.string a0_1)); have hc2 := (blk_cell hbox 2).trans (rfl : _ = some (Value.int .i64 a0_2))) | (go_at_call 33; refine (spec_l12Valid.calls k a0_0 a0_1 a0_2 true _ A1.out).mono ?_; rintro e w7 ⟨rfl, hb⟩; have BK := blk_below hbox hb; have HB := below_step hb1 hb; have hz0 := (blk_cell BK 0).trans (rfl : _ = some (Value.string a0_0)); have hz1 := (blk_cell BK 1).trans (rfl : _ = some (Value.string a0_1)); have hy0 := (crash_facts BK hjsz hjz).1; have hst := (crash_facts BK hjsz hjz).2.1; have hsz := (crash_facts BK hjsz hjz).2.2) | (go_at_call 34; refine (spec_l1In.calls a1 0 (a0_1.size : Int) true _ A2.out).mono ?_; rintro e w' ⟨rfl, ⟨nd, rfl⟩⟩))
    go_ret2
    exact ⟨by simp, bytes_below (pw_below_drewN HB _) HB.size 5 js⟩
   ·obtain ⟨m, hm⟩ : ∃ m : Nat, js.size = m + 1 := ⟨js.size - 1, by omega⟩
    have e1 : flipB true js = strOfNums ((bytesOf js).set (a1.toNat - 1) ((255 - bt js (a1 - 1)) % 256)) := by
     have hb := bt_range js m
     have em : a1 - 1 = (m : Int) := by omega
     have em2 : a1.toNat - 1 = m := by omega
     unfold flipB
     rw [if_pos ⟨rfl, hpos⟩, hm, Nat.add_sub_cancel, em, em2]
     congr 2
     omega
    rw [e1]
    have hgt : decide (0 < a1) = true := decide_eq_true (by omega)
    have hw : wrap64 (a1 - 1) = a1 - 1 := by unfold wrap64; omega
    have hlt0 : decide (0 ≤ a1 - 1) = true := decide_eq_true (by omega)
    have hlt1 : decide (a1 - 1 < (js.size : Int)) = true := decide_eq_true (by omega)
    have hlt3 : (0 ≤ a1 - 1) = True := eq_true (by omega)
    have hlt4 : (a1 - 1 < (js.size : Int)) = True := eq_true (by omega)
    have hlt5 : (1 ≤ a1) = True := eq_true (by omega)
    have hlt6 : (a1 - 1 < a1) = True := eq_true (by omega)
    have hlt7 : decide (a1 - 1 < a1) = true := decide_eq_true (by omega)
    have hlt8 : decide (1 ≤ a1) = true := decide_eq_true (by omega)
    have hlt9 : (9223372036854775807 < a0_0.size + (strOfNums ((bytesOf js).set (a1.toNat - 1) ((255 - bt js (a1 - 1)) % 256))).size) = False := eq_false (by rw [str_size, List.length_set, bytesOf_length]; omega)
    have hjp := Aside0.mk hpos; clear hm hpos m
    go_enter Tryd.func7, Tryd.ntmps7
    go_wp2_with (first | ((with_reducible refine gate_dst (N := 3) rfl ?_); refine box_event ?hg (N := 3) ?hd (cs := #[.string a0_0, .string a0_1, .int .i64 a0_2]) (t := 27) ?hr ?_; (case hd => rfl); (case hg => rfl); (case hr => exact ax9); intro gb hg w6 hbox hb1; clear hg; have hc0 := (blk_cell hbox 0).trans (rfl : _ = some (Value.string a0_0)); have hc1 := (blk_cell hbox 1).trans (rfl : _ = some (Value.string a0_1)); have hc2 := (blk_cell hbox 2).trans (rfl : _ = some (Value.int .i64 a0_2))) | (go_at_call 33; refine (spec_l12Valid.calls k a0_0 a0_1 a0_2 true _ A1.out).mono ?_; rintro e w7 ⟨rfl, hb⟩; have BK := blk_below hbox hb; have HB := below_step hb1 hb; have hz0 := (blk_cell BK 0).trans (rfl : _ = some (Value.string a0_0)); have hz1 := (blk_cell BK 1).trans (rfl : _ = some (Value.string a0_1)); have hy0 := (crash_facts BK hjsz hjz).1; have hst := (crash_facts BK hjsz hjz).2.1; have hsz := (crash_facts BK hjsz hjz).2.2; have hq := flip_facts BK hjsz hjp.out hjz ((255 - bt js (a1 - 1)) % 256); have hq1 := hq.1; have hq2 := hq.2.1; have hq3 := hq.2.2.1; have hq4 := hq.2.2.2; clear hq) | (go_at_call 34; refine (spec_l1In.calls a1 0 (a0_1.size : Int) true _ A2.out).mono ?_; rintro e w' ⟨rfl, ⟨nd, rfl⟩⟩))
    go_ret2
    exact ⟨by simp, below_set (bytes_below (pw_below_drewN HB _) HB.size 5 js) HB.size⟩

/-! ### impl_CrashLog: function 9: a contract of our own -/
def impl_CrashLog.f (k : Nat) (d p : ByteArray) (n keep : Int) (torn : Bool) : Option (ByteArray × Bool) :=
 (impl_IsValidLog.f k d p n).bind fun ok => if ok = true then (if 0 ≤ keep ∧ keep ≤ (p.size : Int) then (if d.size + p.size ≤ 1000000 then some (flipB (torn && decide (0 < keep)) (d ++ p.extract 0 keep.toNat), true) else none) else some ((⟨#[]⟩ : ByteArray), false)) else some ((⟨#[]⟩ : ByteArray), false)
theorem impl_CrashLog.mono : ∀ a0 a1 a2 a3 a4 k, LeO (impl_CrashLog.f k a0 a1 a2 a3 a4) (impl_CrashLog.f (k + 1) a0 a1 a2 a3 a4) := fun _ _ _ _ _ _ => LeO.bind (impl_IsValidLog.mono _ _ _ _) (fun _ => LeO.refl _)
theorem impl_CrashLog.tab3 : rtab .any (opsOf Tryd.f9 3) = rtab .any (opsOf Tryd.f9 3) := rfl
theorem impl_CrashLog.bits3 : waitsOk (rtab .any (opsOf Tryd.f9 3)).2 [0, 1, 0, 4, 0, 28, 63, 127, 255] = true := by kernel_rfl
set_option maxHeartbeats 2000000 in
set_option maxRecDepth 100000 in
theorem impl_CrashLog.calls (k : Nat) (a0_0 a0_1 : ByteArray) (a0_2 a1 : Int) (a2 : Bool) (r1 : ByteArray) (r2 : Bool) (w : World) (hG : GL w) (h : impl_CrashLog.f k a0_0 a0_1 a0_2 a1 a2 = some (r1, r2)) :
  Calls Tryd.prog 9 #[.agg #[.string a0_0, .string a0_1, .int .i64 a0_2], .int .i64 a1, .bool a2] w fun e w' => e = .returned (.tuple #[.string r1, .bool r2]) ∧ Below w.heap.size w w' := by
 have hu27 := Tryd.underlying27
 unfold impl_CrashLog.f at h
 obtain ⟨ok, hok, H⟩ := Option.bind_eq_some_iff.mp h
 clear h; have A1 := Aside0.mk hok; clear hok
 cases ok with
 | false =>
  rw [if_neg (by simp)] at H
  cases H
  go_enter Tryd.func9, Tryd.ntmps9
  go_wp2_with (first | ((with_reducible refine gate_dst (N := 3) rfl ?_); refine box_event ?hg (N := 3) ?hd (cs := #[.string a0_0, .string a0_1, .int .i64 a0_2]) (t := 27) ?hr ?_; (case hd => rfl); (case hg => rfl); (case hr => exact ax9); intro gb hg w6 hbox hb1; clear hg; have hc0 := (blk_cell hbox 0).trans (rfl : _ = some (Value.string a0_0)); have hc1 := (blk_cell hbox 1).trans (rfl : _ = some (Value.string a0_1)); have hc2 := (blk_cell hbox 2).trans (rfl : _ = some (Value.int .i64 a0_2))) | (go_at_call 22; refine (impl_IsValidLog.calls k a0_0 a0_1 a0_2 false _ (hG.below hb1) A1.out).mono ?_; rintro e w7 ⟨rfl, hb⟩; have BK := blk_below hbox hb; have HB := below_step hb1 hb; have hz0 := (blk_cell BK 0).trans (rfl : _ = some (Value.string a0_0)); have hz1 := (blk_cell BK 1).trans (rfl : _ = some (Value.string a0_1)); have hf0 := blk_frozen BK 0; have hf1 := blk_frozen BK 1))
  go_ret2
  exact ⟨rfl, HB⟩
 | true =>
  rw [if_pos rfl] at H
  by_cases hk : 0 ≤ a1 ∧ a1 ≤ (a0_1.size : Int)
  case neg =>
   rw [if_neg hk] at H
   cases H
   have hin : impl_in.f a1 0 (a0_1.size : Int) = some false := by
    unfold impl_in.f
    by_cases h0 : a1 ≥ 0
    ·rw [if_pos h0]; exact congrArg some (decide_eq_false (fun h => hk ⟨h0, h⟩))
    ·rw [if_neg h0]
   have A2 := Aside0.mk hin; clear hin hk
   go_enter Tryd.func9, Tryd.ntmps9
   go_wp2_with (first | ((with_reducible refine gate_dst (N := 3) rfl ?_); refine box_event ?hg (N := 3) ?hd (cs := #[.string a0_0, .string a0_1, .int .i64 a0_2]) (t := 27) ?hr ?_; (case hd => rfl); (case hg => rfl); (case hr => exact ax9); intro gb hg w6 hbox hb1; clear hg; have hc0 := (blk_cell hbox 0).trans (rfl : _ = some (Value.string a0_0)); have hc1 := (blk_cell hbox 1).trans (rfl : _ = some (Value.string a0_1)); have hc2 := (blk_cell hbox 2).trans (rfl : _ = some (Value.int .i64 a0_2))) | (go_at_call 22; refine (impl_IsValidLog.calls k a0_0 a0_1 a0_2 true _ (hG.below hb1) A1.out).mono ?_; rintro e w7 ⟨rfl, hb⟩; have BK := blk_below hbox hb; have HB := below_step hb1 hb; have hz0 := (blk_cell BK 0).trans (rfl : _ = some (Value.string a0_0)); have hz1 := (blk_cell BK 1).trans (rfl : _ = some (Value.string a0_1)); have hf0 := blk_frozen BK 0; have hf1 := blk_frozen BK 1) | (go_at_call 35; refine (impl_in.calls a1 0 (a0_1.size : Int) false _ A2.out).mono ?_; rintro e w' ⟨rfl, ⟨nd, rfl⟩⟩))
   go_ret2
   exact ⟨rfl, pw_below_drewN HB _⟩
  case pos =>
  rw [if_pos hk] at H
  by_cases hs : a0_0.size + a0_1.size ≤ 1000000
  case neg => rw [if_neg hs] at H; cases H
  rw [if_pos hs] at H
  cases H
  have hin : impl_in.f a1 0 (a0_1.size : Int) = some true := by
   unfold impl_in.f
   rw [if_pos hk.1]; exact congrArg some (decide_eq_true hk.2)
  have A2 := Aside0.mk hin; clear hin
  obtain ⟨hk0, hk1⟩ := hk
  obtain ⟨je, hje⟩ : ∃ j_ : ByteArray, (a0_1.extract 0 a1.toNat) = j_ := ⟨_, rfl⟩
  have hjesz : (je.size : Int) = a1 := by rw [← hje, ByteArray.size_extract]; omega
  obtain ⟨js, hjs⟩ : ∃ j_ : ByteArray, (a0_0 ++ je) = j_ := ⟨_, rfl⟩
  have hjsz : js.size = a0_0.size + je.size := by rw [← hjs, ByteArray.size_append]
  have hjz : js.size ≤ 2000000 := by omega
  have k0 := eq_true hk0; have k1 := eq_true hk1
  have h1 : (9223372036854775807 < a0_0.size + je.size) = False := eq_false (by omega)
  have kb := fun W => print_bytes (P := Tryd.prog) 9 30 5 Tryd.underlying9 Tryd.underlying30 Tryd.underlying5 js W
  rw [hje, hjs]
  by_cases hfl : (a2 && decide (0 < a1)) = true
  case neg =>
   have hfl2 : (a2 && decide (0 < a1)) = false := Bool.eq_false_iff.2 hfl
   rw [hfl2, show flipB false js = js by unfold flipB; rw [if_neg (by simp)]]
   cases a2 with
   | false =>
    clear hfl hfl2 hjesz hjsz
    go_enter Tryd.func9, Tryd.ntmps9
    go_wp2_with (first | ((with_reducible refine gate_dst (N := 3) rfl ?_); refine box_event ?hg (N := 3) ?hd (cs := #[.string a0_0, .string a0_1, .int .i64 a0_2]) (t := 27) ?hr ?_; (case hd => rfl); (case hg => rfl); (case hr => exact ax9); intro gb hg w6 hbox hb1; clear hg; have hc0 := (blk_cell hbox 0).trans (rfl : _ = some (Value.string a0_0)); have hc1 := (blk_cell hbox 1).trans (rfl : _ = some (Value.string a0_1)); have hc2 := (blk_cell hbox 2).trans (rfl : _ = some (Value.int .i64 a0_2))) | (go_at_call 22; refine (impl_IsValidLog.calls k a0_0 a0_1 a0_2 true _ (hG.below hb1) A1.out).mono ?_; rintro e w7 ⟨rfl, hb⟩; have BK := blk_below hbox hb; have HB := below_step hb1 hb; have hz0 := (blk_cell BK 0).trans (rfl : _ = some (Value.string a0_0)); have hz1 := (blk_cell BK 1).trans (rfl : _ = some (Value.string a0_1)); have hw7 := HB.size) | (go_at_call 35; refine (impl_in.calls a1 0 (a0_1.size : Int) true _ A2.out).mono ?_; rintro e w' ⟨rfl, ⟨nd, rfl⟩⟩))
    refine start_ (n := 9) (S := fun w' => w'.cell? ⟨gb, 0, none⟩ = some (.string a0_0) ∧ w'.cell? ⟨gb, 1, none⟩ = some (.string a0_1)) (ds := []) (ob 9 0) (by kernel_rfl) rfl rfl ⟨hz0, hz1⟩ (fun hHeld => ?_); refine with_tabW impl_CrashLog.tab3 impl_CrashLog.bits3 (fun HT_ HW_ => ?_)
    refine pu 0 20 ?_; refine pu 2 22 ?_; refine pu 4 24 ?_; refine tk 1 21 ?_; refine tk 3 23 ?_; refine pu 5 25 ?_; refine pu 6 26 ?_
    refine one_ (i := 7) (N := some 27) (ob 9 255) rfl rfl (one_of HT_.out (by kernel_rfl)) (by decide) (fun K hK => ?_)
    refine event_step (by rfl) ax57 ?_
    refine hK.out _ _ ⟨(crash_facts BK (js := js) rfl hjz).1 (nd + 1), (crash_facts1 BK (js := js)) (nd + 1)⟩ (fun hHeld => ?_)
    clear hK K
    refine nm 27 ?_
    refine pu 8 8 ?_
    refine dn ?_
    have F1 : ∀ c, (convert 30 9 (.slice (some ⟨w7.heap.size, 0, none⟩) js.size c)).run Tryd.prog (Lib.bytesWorld (w7.drewN (nd + 1)) 5 js) = .ok (.string js) (Lib.bytesWorld (w7.drewN (nd + 1)) 5 js) := fun c => (crash_facts BK (js := js) rfl hjz).2.1 (nd + 1) c
    have F2 : Below w.heap.size w (Lib.bytesWorld (w7.drewN (nd + 1)) 5 js) := bytes_below (pw_below_drewN HB _) HB.size 5 js
    generalize Lib.bytesWorld (w7.drewN (nd + 1)) 5 js = w8 at *
    go_wp2
    go_ret2
    exact ⟨by simp, F2⟩
   | true =>
    have hgt : decide (0 < a1) = false := by simpa using hfl2
    have hgt2 : (0 < a1) = False := eq_false (of_decide_eq_false hgt)
    clear hfl hfl2 hjesz hjsz
    go_enter Tryd.func9, Tryd.ntmps9
    go_wp2_with (first | ((with_reducible refine gate_dst (N := 3) rfl ?_); refine box_event ?hg (N := 3) ?hd (cs := #[.string a0_0, .string a0_1, .int .i64 a0_2]) (t := 27) ?hr ?_; (case hd => rfl); (case hg => rfl); (case hr => exact ax9); intro gb hg w6 hbox hb1; clear hg; have hc0 := (blk_cell hbox 0).trans (rfl : _ = some (Value.string a0_0)); have hc1 := (blk_cell hbox 1).trans (rfl : _ = some (Value.string a0_1)); have hc2 := (blk_cell hbox 2).trans (rfl : _ = some (Value.int .i64 a0_2))) | (go_at_call 22; refine (impl_IsValidLog.calls k a0_0 a0_1 a0_2 true _ (hG.below hb1) A1.out).mono ?_; rintro e w7 ⟨rfl, hb⟩; have BK := blk_below hbox hb; have HB := below_step hb1 hb; have hz0 := (blk_cell BK 0).trans (rfl : _ = some (Value.string a0_0)); have hz1 := (blk_cell BK 1).trans (rfl : _ = some (Value.string a0_1)); have hw7 := HB.size) | (go_at_call 35; refine (impl_in.calls a1 0 (a0_1.size : Int) true _ A2.out).mono ?_; rintro e w' ⟨rfl, ⟨nd, rfl⟩⟩))
    refine start_ (n := 9) (S := fun w' => w'.cell? ⟨gb, 0, none⟩ = some (.string a0_0) ∧ w'.cell? ⟨gb, 1, none⟩ = some (.string a0_1)) (ds := []) (ob 9 0) (by kernel_rfl) rfl rfl ⟨hz0, hz1⟩ (fun hHeld => ?_); refine with_tabW impl_CrashLog.tab3 impl_CrashLog.bits3 (fun HT_ HW_ => ?_)
    refine pu 0 20 ?_; refine pu 2 22 ?_; refine pu 4 24 ?_; refine tk 1 21 ?_; refine tk 3 23 ?_; refine pu 5 25 ?_; refine pu 6 26 ?_
    refine one_ (i := 7) (N := some 27) (ob 9 255) rfl rfl (one_of HT_.out (by kernel_rfl)) (by decide) (fun K hK => ?_)
    refine event_step (by rfl) ax57 ?_
    refine hK.out _ _ ⟨(crash_facts BK (js := js) rfl hjz).1 (nd + 1), (crash_facts1 BK (js := js)) (nd + 1)⟩ (fun hHeld => ?_)
    clear hK K
    refine nm 27 ?_
    refine pu 8 8 ?_
    refine dn ?_
    have F1 : ∀ c, (convert 30 9 (.slice (some ⟨w7.heap.size, 0, none⟩) js.size c)).run Tryd.prog (Lib.bytesWorld (w7.drewN (nd + 1)) 5 js) = .ok (.string js) (Lib.bytesWorld (w7.drewN (nd + 1)) 5 js) := fun c => (crash_facts BK (js := js) rfl hjz).2.1 (nd + 1) c
    have F2 : Below w.heap.size w (Lib.bytesWorld (w7.drewN (nd + 1)) 5 js) := bytes_below (pw_below_drewN HB _) HB.size 5 js
    generalize Lib.bytesWorld (w7.drewN (nd + 1)) 5 js = w8 at *
    go_wp2
    go_ret2
    exact ⟨by simp, F2⟩
  case pos =>
   rw [hfl]
   obtain ⟨rfl, hgt⟩ : a2 = true ∧ decide (0 < a1) = true := by simpa using hfl
   have hgt2 : (0 < a1) = True := eq_true (of_decide_eq_true hgt)
   have hpos : 0 < js.size := by have := of_decide_eq_true hgt; omega
   have e1 : flipB true js = strOfNums ((bytesOf js).set (js.size - 1) ((255 - bt js ((js.size : Int) - 1)) % 256)) := by
    obtain ⟨m, hm⟩ : ∃ m : Nat, js.size = m + 1 := ⟨js.size - 1, by omega⟩
    have hb := bt_range js m
    have em : (js.size : Int) - 1 = (m : Int) := by omega
    have em2 : js.size - 1 = m := by omega
    unfold flipB
    rw [if_pos ⟨rfl, hpos⟩, em, em2]
    congr 2
    omega
   rw [e1]
   have hw : wrap64 ((js.size : Int) - 1) = (js.size : Int) - 1 := by unfold wrap64; omega
   have hlt0 : decide (0 ≤ (js.size : Int) - 1) = true := decide_eq_true (by omega)
   have hlt1 : decide ((js.size : Int) - 1 < (js.size : Int)) = true := decide_eq_true (by omega)
   have hlt3 : (0 ≤ (js.size : Int) - 1) = True := eq_true (by omega)
   have hlt4 : ((js.size : Int) - 1 < (js.size : Int)) = True := eq_true (by omega)
   have hlt5 : (1 ≤ (js.size : Int)) = True := eq_true (by omega)
   have hlt6 : decide (1 ≤ (js.size : Int)) = true := decide_eq_true (by omega)
   have hlt7 : (1 ≤ js.size) = True := eq_true (by omega)
   have hlt8 : (0 < js.size) = True := eq_true (by omega)
   have hjp := Aside0.mk hpos; clear hpos hfl hjesz hjsz
   go_enter Tryd.func9, Tryd.ntmps9
   go_wp2_with (first | ((with_reducible refine gate_dst (N := 3) rfl ?_); refine box_event ?hg (N := 3) ?hd (cs := #[.string a0_0, .string a0_1, .int .i64 a0_2]) (t := 27) ?hr ?_; (case hd => rfl); (case hg => rfl); (case hr => exact ax9); intro gb hg w6 hbox hb1; clear hg; have hc0 := (blk_cell hbox 0).trans (rfl : _ = some (Value.string a0_0)); have hc1 := (blk_cell hbox 1).trans (rfl : _ = some (Value.string a0_1)); have hc2 := (blk_cell hbox 2).trans (rfl : _ = some (Value.int .i64 a0_2))) | (go_at_call 22; refine (impl_IsValidLog.calls k a0_0 a0_1 a0_2 true _ (hG.below hb1) A1.out).mono ?_; rintro e w7 ⟨rfl, hb⟩; have BK := blk_below hbox hb; have HB := below_step hb1 hb; have hz0 := (blk_cell BK 0).trans (rfl : _ = some (Value.string a0_0)); have hz1 := (blk_cell BK 1).trans (rfl : _ = some (Value.string a0_1)); have hw7 := HB.size) | (go_at_call 35; refine (impl_in.calls a1 0 (a0_1.size : Int) true _ A2.out).mono ?_; rintro e w' ⟨rfl, ⟨nd, rfl⟩⟩))
   refine start_ (n := 9) (S := fun w' => w'.cell? ⟨gb, 0, none⟩ = some (.string a0_0) ∧ w'.cell? ⟨gb, 1, none⟩ = some (.string a0_1)) (ds := []) (ob 9 0) (by kernel_rfl) rfl rfl ⟨hz0, hz1⟩ (fun hHeld => ?_); refine with_tabW impl_CrashLog.tab3 impl_CrashLog.bits3 (fun HT_ HW_ => ?_)
   refine pu 0 20 ?_; refine pu 2 22 ?_; refine pu 4 24 ?_; refine tk 1 21 ?_; refine tk 3 23 ?_; refine pu 5 25 ?_; refine pu 6 26 ?_
   refine one_ (i := 7) (N := some 27) (ob 9 255) rfl rfl (one_of HT_.out (by kernel_rfl)) (by decide) (fun K hK => ?_)
   refine event_step (by rfl) ax57 ?_
   refine hK.out _ _ ⟨(crash_facts BK (js := js) rfl hjz).1 (nd + 1), (crash_facts1 BK (js := js)) (nd + 1)⟩ (fun hHeld => ?_)
   clear hK K
   refine nm 27 ?_
   refine pu 8 8 ?_
   refine dn ?_
   have F1 : ∀ c, (convert 30 9 (.slice (some ⟨w7.heap.size, 0, none⟩) js.size c)).run Tryd.prog (Lib.bytesWorld (w7.drewN (nd + 1)) 5 js) = .ok (.string js) (Lib.bytesWorld (w7.drewN (nd + 1)) 5 js) := fun c => (crash_facts BK (js := js) rfl hjz).2.1 (nd + 1) c
   have F2 : Below w.heap.size w (Lib.bytesWorld (w7.drewN (nd + 1)) 5 js) := bytes_below (pw_below_drewN HB _) HB.size 5 js
   have F3 := flip_facts2 BK hjp.out hjz ((255 - bt js ((js.size : Int) - 1)) % 256)
   have F4 : (Lib.bytesWorld (w7.drewN (nd + 1)) 5 js).cell? ⟨w7.heap.size, js.size - 1, none⟩ = some (.int .u8 (bt js ((js.size : Int) - 1))) := F3.1 (nd + 1)
   have F5 : (Lib.bytesWorld (w7.drewN (nd + 1)) 5 js).frozen? ⟨w7.heap.size, js.size - 1, none⟩ = false := F3.2.1 (nd + 1)
   have F6 : ∀ c, (convert 30 9 (.slice (some ⟨w7.heap.size, 0, none⟩) js.size c)).run Tryd.prog ((Lib.bytesWorld (w7.drewN (nd + 1)) 5 js).setCell ⟨w7.heap.size, js.size - 1, none⟩ (.int .u8 ((255 - bt js ((js.size : Int) - 1)) % 256))) = .ok (.string (strOfNums ((bytesOf js).set (js.size - 1) ((255 - bt js ((js.size : Int) - 1)) % 256)))) ((Lib.bytesWorld (w7.drewN (nd + 1)) 5 js).setCell ⟨w7.heap.size, js.size - 1, none⟩ (.int .u8 ((255 - bt js ((js.size : Int) - 1)) % 256))) := fun c => F3.2.2 (nd + 1) c
   clear F3; generalize Lib.bytesWorld (w7.drewN (nd + 1)) 5 js = w8 at *
   go_wp2
   go_ret2
   exact ⟨by simp, below_set F2 hw7⟩

end Go.Proofs.YtnjjchbhbicmoaaDoor.X

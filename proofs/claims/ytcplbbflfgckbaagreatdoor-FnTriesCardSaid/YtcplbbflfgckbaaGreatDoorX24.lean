-- By gen.py (the session's own program over the kit's printer): functions of the program, each with its contract. Lean checks it.
import Derived.Test.YtcplbbflfgckbaaGreatDoorX5
import Derived.Test.YtcplbbflfgckbaaGreatDoorX9
import Derived.Test.YtcplbbflfgckbaaGreatDoorX20
import Derived.Test.YtcplbbflfgckbaaGreatDoorX12
namespace Go.Proofs.YtcplbbflfgckbaaGreatDoor.X
open Go.RowKit Go.Proofs.YtcplbbflfgckbaaGreatDoorW.PrintWords Go.Proofs.YtcplbbflfgckbaaGreatDoorW.PrintLast Go.Proofs.YtcplbbflfgckbaaGreatDoorW.PrintMore
attribute [local go_sem] max2_int min2_int max_two min_two max_three min_three max_four min_four   -- for this text's walks alone
set_option linter.unusedVariables false
set_option linter.unusedSimpArgs false
set_option maxHeartbeats 8000000
set_option maxRecDepth 100000

/-! ### impl_ParseTrie: function 67 -/
mutual
def impl_ParseTrie.l0 : Nat → ByteArray → List Int → ByteArray → List ByteArray → Int → Int → Option ((List (S74)) × Bool)
 | 0, _, _, _, _, _, _ => none
 | k + 1, x0, x4, x5, x6, x14, x15 => if x15 < x14 then (if 0 ≤ x15 then (if x15 < (x0.size : Int) then (if (bt x0 x15) = 46 then (if x6.length < 8796093022208 then ((some (x6 ++ [x5] : List ByteArray)).bind fun y751 => (if (x5.size : Int) > 12 then (some (([] : List (S74)), false)) else (if (y751.length : Int) > 40 then (some (([] : List (S74)), false)) else (if (x4.length : Int) > 12 then (some (([] : List (S74)), false)) else (impl_ParseTrie.l0 k x0 x4 x5 y751 x14 (wrap64 (x15 + 1))))))) else (none)) else (if (bt x0 x15) = 40 then (if x4.length < 17592186044416 then ((some (x4 ++ [(x5.size : Int)] : List Int)).bind fun y754 => (if (x5.size : Int) > 12 then (some (([] : List (S74)), false)) else (if (x6.length : Int) > 40 then (some (([] : List (S74)), false)) else (if (y754.length : Int) > 12 then (some (([] : List (S74)), false)) else (impl_ParseTrie.l0 k x0 y754 x5 x6 x14 (wrap64 (x15 + 1))))))) else (none)) else (if (bt x0 x15) = 41 then (impl_ParseTrie.j1 k x0 x4 x5 x6 x15 (bt x0 x15) x14 x15 (decide ((x4.length : Int) > 0))) else (impl_ParseTrie.j1 k x0 x4 x5 x6 x15 (bt x0 x15) x14 x15 false)))) else (none)) else (none)) else ((impl_ofWords.f k x6).bind fun bt762 => (if bt762.2 = true then ((impl_Trie_text.f k bt762.1 0).bind fun t767 => (if t767.toList = x0.toList then (some (bt762.1, true)) else (some (([] : List (S74)), false)))) else (some (([] : List (S74)), false))))
def impl_ParseTrie.j1 : Nat → ByteArray → List Int → ByteArray → List ByteArray → Int → Int → Int → Int → Bool → Option ((List (S74)) × Bool)
 | 0, _, _, _, _, _, _, _, _, _ => none
 | k + 1, x0, x4, x5, x6, x7, x8, x14, x15, x37 => if x37 = true then (if 0 ≤ (wrap64 ((x4.length : Int) - 1)) then (if (wrap64 ((x4.length : Int) - 1)) < (x4.length : Int) then (if 0 ≤ (rd x4 (wrap64 ((x4.length : Int) - 1))) then (if (rd x4 (wrap64 ((x4.length : Int) - 1))) ≤ (x5.size : Int) then (if (wrap64 ((x4.length : Int) - 1)) ≤ (x4.length : Int) then ((some (x4.take ((wrap64 ((x4.length : Int) - 1)) : Int).toNat : List Int)).bind fun y758 => (if ((x5.extract 0 ((rd x4 (wrap64 ((x4.length : Int) - 1))) : Int).toNat).size : Int) > 12 then (some (([] : List (S74)), false)) else (if (x6.length : Int) > 40 then (some (([] : List (S74)), false)) else (if (y758.length : Int) > 12 then (some (([] : List (S74)), false)) else (impl_ParseTrie.l0 k x0 y758 (x5.extract 0 ((rd x4 (wrap64 ((x4.length : Int) - 1))) : Int).toNat) x6 x14 (wrap64 (x15 + 1))))))) else (none)) else (none)) else (none)) else (none)) else (none)) else (if x8 ≥ 97 then (if x8 ≤ 122 then (impl_ParseTrie.j2 k x0 x4 x5 x6 x7 x14 x15 (decide ((x4.length : Int) > 0))) else (impl_ParseTrie.j2 k x0 x4 x5 x6 x7 x14 x15 false)) else (impl_ParseTrie.j2 k x0 x4 x5 x6 x7 x14 x15 false))
def impl_ParseTrie.j2 : Nat → ByteArray → List Int → ByteArray → List ByteArray → Int → Int → Int → Bool → Option ((List (S74)) × Bool)
 | 0, _, _, _, _, _, _, _, _ => none
 | k + 1, x0, x4, x5, x6, x7, x14, x15, x58 => if x58 = true then (if 0 ≤ (wrap64 ((x4.length : Int) - 1)) then (if (wrap64 ((x4.length : Int) - 1)) < (x4.length : Int) then (if 0 ≤ (rd x4 (wrap64 ((x4.length : Int) - 1))) then (if (rd x4 (wrap64 ((x4.length : Int) - 1))) ≤ (x5.size : Int) then (if 0 ≤ x7 then (if x7 ≤ (wrap64 (x7 + 1)) then (if (wrap64 (x7 + 1)) ≤ (x0.size : Int) then (if (x5.extract 0 ((rd x4 (wrap64 ((x4.length : Int) - 1))) : Int).toNat).size + (x0.extract (x7 : Int).toNat ((wrap64 (x7 + 1)) : Int).toNat).size ≤ 9223372036854775807 then (if (((x5.extract 0 ((rd x4 (wrap64 ((x4.length : Int) - 1))) : Int).toNat) ++ (x0.extract (x7 : Int).toNat ((wrap64 (x7 + 1)) : Int).toNat)).size : Int) > 12 then (some (([] : List (S74)), false)) else (if (x6.length : Int) > 40 then (some (([] : List (S74)), false)) else (if (x4.length : Int) > 12 then (some (([] : List (S74)), false)) else (impl_ParseTrie.l0 k x0 x4 ((x5.extract 0 ((rd x4 (wrap64 ((x4.length : Int) - 1))) : Int).toNat) ++ (x0.extract (x7 : Int).toNat ((wrap64 (x7 + 1)) : Int).toNat)) x6 x14 (wrap64 (x15 + 1)))))) else (none)) else (none)) else (none)) else (none)) else (none)) else (none)) else (none)) else (none)) else (some (([] : List (S74)), false))
end
def impl_ParseTrie.f (k : Nat) (a0 : ByteArray) : Option ((List (S74)) × Bool) := impl_ParseTrie.l0 k a0 (([] : List Int)) (⟨#[]⟩ : ByteArray) (([] : List ByteArray)) (a0.size : Int) 0
theorem impl_ParseTrie.calls (k : Nat) (a0 : ByteArray) (r1 : List (S74)) (r2 : Bool) (w : World) (h : impl_ParseTrie.f k a0 = some (r1, r2)) :
  Calls Tryz.prog 67 #[.string a0] w fun e w' => ∃ v0_ : Value, e = .returned (.tuple #[.agg #[v0_], .bool r2]) ∧ Kd.R k74 74 w' w.heap.size (fun _ => True) v0_ r1 ∧ Below w.heap.size w w' := by
 have hu26 := Tryz.underlying26; have HB := am (Below.refl w.heap.size w)
 unfold impl_ParseTrie.f at h
 have H := h; clear h; obtain ⟨y745, hy745⟩ : ∃ y_ : List Int, y_ = (([] : List Int)) := ⟨_, rfl⟩
 replace H : (impl_ParseTrie.l0 k a0 y745 (⟨#[]⟩ : ByteArray) (([] : List ByteArray)) (a0.size : Int) 0) = some (r1, r2) := by first | (rw [hy745]; with_reducible exact H) | (have H2_ := (Option.bind_some _ _).symm.trans H; rw [hy745]; with_reducible exact H2_) | (have H2_ := (Option.bind_some _ _).symm.trans H; with_reducible exact H2_) | with_reducible exact H | (rw [hy745]; exact H) | exact H
 have Ny745 := am hy745; clear hy745; obtain ⟨y748, hy748⟩ : ∃ y_ : List ByteArray, y_ = (([] : List ByteArray)) := ⟨_, rfl⟩
 replace H : (impl_ParseTrie.l0 k a0 y745 (⟨#[]⟩ : ByteArray) y748 (a0.size : Int) 0) = some (r1, r2) := by first | (rw [hy748]; with_reducible exact H) | (have H2_ := (Option.bind_some _ _).symm.trans H; rw [hy748]; with_reducible exact H2_) | (have H2_ := (Option.bind_some _ _).symm.trans H; with_reducible exact H2_) | with_reducible exact H | (rw [hy748]; exact H) | exact H
 have Ny748 := am hy748; clear hy748; have H' := am H; clear H
 go_enter Tryz.func67, Tryz.ntmps67
 go_wp2_with (first | ((with_reducible refine gt 2 ?_); (try (refine gate_guard (by rfl) ?_; dsimp only)); refine bx 2 #[.slice none 0 0] 26 ?_; intro gb744 hg w2 hbox hb; have BK744 := am (hbox); have GW744 := uG hg HB; have GE744 := uG hg HB; replace HB := uB HB hb; clear hb hbox hg) | ((with_reducible refine gt 11 ?_); (try (refine gate_guard (by rfl) ?_; dsimp only)); refine Kd.R_lit (Kd.int .i64) _ 3 ?hg (N := 11) ?hd (xs := ([] : List Int)) (inner := []) (ok := fun _ => True) (okp := fun _ => True) ?hr ?hp (fun _ hk => hk) trivial (Below.refl _ _) (Nat.le_refl _) (by simp) ?_; (case hd => rfl); (case hg => rfl); (case hr => exact ax20); (case hp => exact ax31); intro v746 w3 ho4 hb hg_ hnew_; clear hg_ hnew_; (first | rw [← Ny745.out] at ho4 | (simp only [Int.reduceToNat] at ho4; rw [← Ny745.out] at ho4)); have HO747 := am (Kd.R_lower ho4 (bS HB)); replace BK744 := ub BK744 hb; replace HB := uS HB hb; clear hb ho4) | ((with_reducible refine gt 12 ?_); (try (refine gate_guard (by rfl) ?_; dsimp only)); refine Kd.R_lit Kd.string _ 9 ?hg (N := 12) ?hd (xs := ([] : List ByteArray)) (inner := []) (ok := fun _ => True) (okp := fun _ => True) ?hr ?hp (fun _ hk => hk) trivial (Below.refl _ _) (Nat.le_refl _) (by simp) ?_; (case hd => rfl); (case hg => rfl); (case hr => exact ax20); (case hp => exact ax31); intro v749 w5 ho6 hb hg_ hnew_; clear hg_ hnew_; (first | rw [← Ny748.out] at ho6 | (simp only [Int.reduceToNat] at ho6; rw [← Ny748.out] at ho6)); replace HO747 := uR HO747 hb; have HO750 := am (Kd.R_lower ho6 (bS HB)); replace BK744 := ub BK744 hb; replace HB := uS HB hb; clear hb ho6))
 repeat (go_quiet (fail); try go_wp2_with (first | ((with_reducible refine gt 2 ?_); (try (refine gate_guard (by rfl) ?_; dsimp only)); refine bx 2 #[.slice none 0 0] 26 ?_; intro gb744 hg w2 hbox hb; have n0_ := uS HB hb; have n1_ := am (hbox); have n2_ := uH hg HB; have n3_ := uH hg HB; clear HB; have HB := n0_; have BK744 := n1_; have GW744 := n2_; have GE744 := n3_; clear n0_ n1_ n2_ n3_; clear hb hbox hg) | ((with_reducible refine gt 11 ?_); (try (refine gate_guard (by rfl) ?_; dsimp only)); refine Kd.R_lit (Kd.int .i64) _ 3 ?hg (N := 11) ?hd (xs := ([] : List Int)) (inner := []) (ok := fun _ => True) (okp := fun _ => True) ?hr ?hp (fun _ hk => hk) trivial (Below.refl _ _) (Nat.le_refl _) (by simp) ?_; (case hd => rfl); (case hg => rfl); (case hr => exact ax20); (case hp => exact ax31); intro v746 w3 ho4 hb hg_ hnew_; clear hg_ hnew_; (first | rw [← Ny745.out] at ho4 | (simp only [Int.reduceToNat] at ho4; rw [← Ny745.out] at ho4)); have n0_ := am (Kd.R_lower ho4 (bS HB)); have n1_ := uZ BK744 hb; have n2_ := uS HB hb; clear BK744; clear HB; have HO747 := n0_; have BK744 := n1_; have HB := n2_; clear n0_ n1_ n2_; clear hb ho4) | ((with_reducible refine gt 12 ?_); (try (refine gate_guard (by rfl) ?_; dsimp only)); refine Kd.R_lit Kd.string _ 9 ?hg (N := 12) ?hd (xs := ([] : List ByteArray)) (inner := []) (ok := fun _ => True) (okp := fun _ => True) ?hr ?hp (fun _ hk => hk) trivial (Below.refl _ _) (Nat.le_refl _) (by simp) ?_; (case hd => rfl); (case hg => rfl); (case hr => exact ax20); (case hp => exact ax31); intro v749 w5 ho6 hb hg_ hnew_; clear hg_ hnew_; (first | rw [← Ny748.out] at ho6 | (simp only [Int.reduceToNat] at ho6; rw [← Ny748.out] at ho6)); have n0_ := am (Kd.R_below (rX HO747) hb); have n1_ := am (Kd.R_lower ho6 (bS HB)); have n2_ := uZ BK744 hb; have n3_ := uS HB hb; clear HO747; clear BK744; clear HB; have HO747 := n0_; have HO750 := n1_; have BK744 := n2_; have HB := n3_; clear n0_ n1_ n2_ n3_; clear hb ho6)))
 go_loopg [4, 5, 6, 15] k (fun kq v4 v5 v6 v15 w' => ∃ (x4_1 : List Int) (x5_1 : ByteArray) (x6_1 : List ByteArray) (x15_1 : Int), v5 = .string x5_1 ∧ v15 = .int .i64 x15_1 ∧ Aside0 (impl_ParseTrie.l0 kq a0 x4_1 x5_1 x6_1 (a0.size : Int) x15_1 = some (r1, r2)) ∧ Aside0 (kq ≤ k) ∧ Aside0 (Kd.R (Kd.int .i64) 3 w' w.heap.size (fun _ => True) v4 x4_1) ∧ Aside0 (Kd.R Kd.string 9 w' w.heap.size (fun _ => True) v6 x6_1) ∧ Aside0 (w'.heap[gb744]? = some (.cells #[(.slice none 0 0)] 26 (0, 0))) ∧ Aside0 (Below w.heap.size w w'))
 case atStart => exact ⟨(y745), ((⟨#[]⟩ : ByteArray)), (y748), (0), ax18, ax18, H', ⟨Nat.le_refl _⟩, ⟨aU⟩, ⟨aU⟩, ⟨aU⟩, ⟨aL⟩⟩
 case round =>
  clear H'; obtain ⟨x4_1, x5_1, x6_1, x15_1, rfl, rfl, HA, HK1, HO_4, HO_6, BK744, HB⟩ := hrel
  cases gk with
  | zero => exact absurd HA.out (by simp [impl_ParseTrie.l0])
  | succ k1 =>
   have H := HA.out; clear HA; simp only [impl_ParseTrie.l0] at H
   by_cases c7 : x15_1 < (a0.size : Int)
   ·rw [if_pos c7] at H
    have c7b0 := decide_eq_true c7; clear c7
    by_cases c8 : 0 ≤ x15_1
    ·rw [if_pos c8] at H
     have c8b0 := decide_eq_true c8; clear c8
     by_cases c9 : x15_1 < (a0.size : Int)
     ·rw [if_pos c9] at H
      have c9b0 := decide_eq_true c9; clear c9
      by_cases c11 : (bt a0 x15_1) = 46
      ·rw [if_pos c11] at H
       have c11b0 := beq_iff_eq.mpr c11; have c11b1 := bne_eq_false_iff_eq.mpr c11; clear c11
       by_cases c12 : x6_1.length < 8796093022208
       ·rw [if_pos c12] at H
        have LMc12 := am c12; clear c12; obtain ⟨y751, hy751⟩ : ∃ y_ : List ByteArray, y_ = (x6_1 ++ [x5_1]) := ⟨_, rfl⟩
        replace H : (if (x5_1.size : Int) > 12 then (some (([] : List (S74)), false)) else (if (y751.length : Int) > 40 then (some (([] : List (S74)), false)) else (if (x4_1.length : Int) > 12 then (some (([] : List (S74)), false)) else (impl_ParseTrie.l0 k1 a0 x4_1 x5_1 y751 (a0.size : Int) (wrap64 (x15_1 + 1)))))) = some (r1, r2) := by first | (rw [hy751]; with_reducible exact H) | (have H2_ := (Option.bind_some _ _).symm.trans H; rw [hy751]; with_reducible exact H2_) | (have H2_ := (Option.bind_some _ _).symm.trans H; with_reducible exact H2_) | with_reducible exact H | (rw [hy751]; exact H) | exact H
        have Ny751 := am hy751; clear hy751
        by_cases c13 : (x5_1.size : Int) > 12
        ·rw [if_pos c13] at H
         have c13b0 := decide_eq_true c13; have c13b1 : decide (12 < x5_1.size) = true := decide_eq_true (by omega); clear c13; simp only [Option.some.injEq, Prod.mk.injEq] at H; obtain ⟨rfl, rfl⟩ := H; have p10 : 0 ≤ (x15_1 : Int) := of_decide_eq_true ax23; have q10 : x15_1 < (a0.size : Int) := of_decide_eq_true ax23; have hx10 := bt_at a0 x15_1; replace p10 := eq_true p10; replace q10 := eq_true q10
         go_wp2_with (first | ((with_reducible refine gate_builtin (b := .append) (xs := #[.tmp 25, .tmp 27]) rfl ?_); (try (refine gate_guard (by rfl) ?_; dsimp only)); at_builtin; refine Kd.R_append Kd.string (w0 := w) w.heap.size rfl (.tmp 25) (.tmp 27) 31 9 (.string ⟨#[]⟩) 16 rfl Tryz.underlying31 info9 rfl (by decide) (by omega) u6 x6_1 x5_1 [.string x5_1] (fun _ => True) (fun _ => False) rfl rfl ?aP (fun _ hk => hk.elim) ?aF ?aO ?aB ?aS ?aL ?_; (case aP => exact rfl); (case aB => exact aL); (case aF => exact ax27); (case aO => exact (rX HO_6)); (case aS => exact ax28); (case aL => exact ax148); intro v752 w14 ho hb hg hat; rw [← Ny751.out] at ho; have n0_ := am (blk_grown (g := gb744) (o := .cells #[.slice none 0 0] 26 (0, 0)) aU hg (Kd.R_ne HO_6.out BK744.out (by decide))); have n1_ := am (hb); have n2_ := am (ho); clear BK744; clear HB; clear HO_6; have BK744 := n0_; have HB := n1_; have HO753 := n2_; clear n0_ n1_ n2_; clear ho hb hg hat; obtain ⟨hcz15_0, hfz15_0⟩ := bz (.slice none 0 0) BK744))
         repeat (go_quiet (fail); try go_wp2_with (first | ((with_reducible refine gate_builtin (b := .append) (xs := #[.tmp 25, .tmp 27]) rfl ?_); (try (refine gate_guard (by rfl) ?_; dsimp only)); at_builtin; refine Kd.R_append Kd.string (w0 := w) w.heap.size rfl (.tmp 25) (.tmp 27) 31 9 (.string ⟨#[]⟩) 16 rfl Tryz.underlying31 info9 rfl (by decide) (by omega) u6 x6_1 x5_1 [.string x5_1] (fun _ => True) (fun _ => False) rfl rfl ?aP (fun _ hk => hk.elim) ?aF ?aO ?aB ?aS ?aL ?_; (case aP => exact rfl); (case aB => exact aL); (case aF => exact ax27); (case aO => exact (rX HO_6)); (case aS => exact ax28); (case aL => exact ax148); intro v752 w14 ho hb hg hat; rw [← Ny751.out] at ho; have n0_ := am (blk_grown (g := gb744) (o := .cells #[.slice none 0 0] 26 (0, 0)) aU hg (Kd.R_ne HO_6.out BK744.out (by decide))); have n1_ := am (hb); have n2_ := am (ho); clear BK744; clear HB; clear HO_6; have BK744 := n0_; have HB := n1_; have HO753 := n2_; clear n0_ n1_ n2_; clear ho hb hg hat; have hcz15_0 : w14.cell? ⟨gb744, 0, none⟩ = some (.slice none 0 0) := (blk_cell BK744.out 0).trans rfl; have hfz15_0 := blk_frozen BK744.out 0)))
         refine bodyPost_ret (results_ct rfl _ _ gb744 26 #[.slice none 0 0] (0, 0) _ rfl ax149 Tryz.underlying26 rfl (by kernel_rfl)) rfl ?_
         exact ⟨_, ax21, ax29, aL⟩
        ·rw [if_neg c13] at H
         have c13b0 := decide_eq_false c13; have c13b1 : decide (12 < x5_1.size) = false := decide_eq_false (by omega); clear c13
         by_cases c16 : (y751.length : Int) > 40
         ·rw [if_pos c16] at H
          have c16b0 := decide_eq_true c16; have c16b1 : decide (40 < y751.length) = true := decide_eq_true (by omega); clear c16; simp only [Option.some.injEq, Prod.mk.injEq] at H; obtain ⟨rfl, rfl⟩ := H; have p10 : 0 ≤ (x15_1 : Int) := of_decide_eq_true ax23; have q10 : x15_1 < (a0.size : Int) := of_decide_eq_true ax23; have hx10 := bt_at a0 x15_1; replace p10 := eq_true p10; replace q10 := eq_true q10
          go_wp2_with (first | ((with_reducible refine gate_builtin (b := .append) (xs := #[.tmp 25, .tmp 27]) rfl ?_); (try (refine gate_guard (by rfl) ?_; dsimp only)); at_builtin; refine Kd.R_append Kd.string (w0 := w) w.heap.size rfl (.tmp 25) (.tmp 27) 31 9 (.string ⟨#[]⟩) 16 rfl Tryz.underlying31 info9 rfl (by decide) (by omega) u6 x6_1 x5_1 [.string x5_1] (fun _ => True) (fun _ => False) rfl rfl ?aP (fun _ hk => hk.elim) ?aF ?aO ?aB ?aS ?aL ?_; (case aP => exact rfl); (case aB => exact aL); (case aF => exact ax27); (case aO => exact (rX HO_6)); (case aS => exact ax28); (case aL => exact ax148); intro v752 w17 ho hb hg hat; rw [← Ny751.out] at ho; have n0_ := am (blk_grown (g := gb744) (o := .cells #[.slice none 0 0] 26 (0, 0)) aU hg (Kd.R_ne HO_6.out BK744.out (by decide))); have n1_ := am (hb); have n2_ := am (ho); clear BK744; clear HB; clear HO_6; have BK744 := n0_; have HB := n1_; have HO753 := n2_; clear n0_ n1_ n2_; clear ho hb hg hat; obtain ⟨Ao18, co18, rfl⟩ := Kd.R_slice HO753.out; obtain ⟨hcz19_0, hfz19_0⟩ := bz (.slice none 0 0) BK744))
          repeat (go_quiet (fail); try go_wp2_with (first | ((with_reducible refine gate_builtin (b := .append) (xs := #[.tmp 25, .tmp 27]) rfl ?_); (try (refine gate_guard (by rfl) ?_; dsimp only)); at_builtin; refine Kd.R_append Kd.string (w0 := w) w.heap.size rfl (.tmp 25) (.tmp 27) 31 9 (.string ⟨#[]⟩) 16 rfl Tryz.underlying31 info9 rfl (by decide) (by omega) u6 x6_1 x5_1 [.string x5_1] (fun _ => True) (fun _ => False) rfl rfl ?aP (fun _ hk => hk.elim) ?aF ?aO ?aB ?aS ?aL ?_; (case aP => exact rfl); (case aB => exact aL); (case aF => exact ax27); (case aO => exact (rX HO_6)); (case aS => exact ax28); (case aL => exact ax148); intro v752 w17 ho hb hg hat; rw [← Ny751.out] at ho; have n0_ := am (blk_grown (g := gb744) (o := .cells #[.slice none 0 0] 26 (0, 0)) aU hg (Kd.R_ne HO_6.out BK744.out (by decide))); have n1_ := am (hb); have n2_ := am (ho); clear BK744; clear HB; clear HO_6; have BK744 := n0_; have HB := n1_; have HO753 := n2_; clear n0_ n1_ n2_; clear ho hb hg hat; obtain ⟨Ao18, co18, rfl⟩ := Kd.R_slice HO753.out; have hcz19_0 : w17.cell? ⟨gb744, 0, none⟩ = some (.slice none 0 0) := (blk_cell BK744.out 0).trans rfl; have hfz19_0 := blk_frozen BK744.out 0)))
          refine bodyPost_ret (results_ct rfl _ _ gb744 26 #[.slice none 0 0] (0, 0) _ rfl ax149 Tryz.underlying26 rfl (by kernel_rfl)) rfl ?_
          exact ⟨_, ax21, ax29, aL⟩
         ·rw [if_neg c16] at H
          have c16b0 := decide_eq_false c16; have c16b1 : decide (40 < y751.length) = false := decide_eq_false (by omega); clear c16
          by_cases c20 : (x4_1.length : Int) > 12
          ·rw [if_pos c20] at H
           have c20b0 := decide_eq_true c20; have c20b1 : decide (12 < x4_1.length) = true := decide_eq_true (by omega); clear c20; simp only [Option.some.injEq, Prod.mk.injEq] at H; obtain ⟨rfl, rfl⟩ := H; have p10 : 0 ≤ (x15_1 : Int) := of_decide_eq_true ax23; have q10 : x15_1 < (a0.size : Int) := of_decide_eq_true ax23; have hx10 := bt_at a0 x15_1; replace p10 := eq_true p10; replace q10 := eq_true q10
           go_wp2_with (first | ((with_reducible refine gate_builtin (b := .append) (xs := #[.tmp 25, .tmp 27]) rfl ?_); (try (refine gate_guard (by rfl) ?_; dsimp only)); at_builtin; refine Kd.R_append Kd.string (w0 := w) w.heap.size rfl (.tmp 25) (.tmp 27) 31 9 (.string ⟨#[]⟩) 16 rfl Tryz.underlying31 info9 rfl (by decide) (by omega) u6 x6_1 x5_1 [.string x5_1] (fun _ => True) (fun _ => False) rfl rfl ?aP (fun _ hk => hk.elim) ?aF ?aO ?aB ?aS ?aL ?_; (case aP => exact rfl); (case aB => exact aL); (case aF => exact ax27); (case aO => exact (rX HO_6)); (case aS => exact ax28); (case aL => exact ax148); intro v752 w21 ho hb hg hat; rw [← Ny751.out] at ho; have n0_ := am (Kd.R_over' (rX HO_4) (Kd.R_typed (rX HO_6)) (by decide) hg); have n1_ := am (blk_grown (g := gb744) (o := .cells #[.slice none 0 0] 26 (0, 0)) aU hg (Kd.R_ne HO_6.out BK744.out (by decide))); have n2_ := am (hb); have n3_ := am (ho); clear HO_4; clear BK744; clear HB; clear HO_6; have HO_4 := n0_; have BK744 := n1_; have HB := n2_; have HO753 := n3_; clear n0_ n1_ n2_ n3_; clear ho hb hg hat; obtain ⟨Ao22, co22, rfl⟩ := Kd.R_slice HO753.out; obtain ⟨Ao23, co23, rfl⟩ := Kd.R_slice HO_4.out; obtain ⟨hcz24_0, hfz24_0⟩ := bz (.slice none 0 0) BK744))
           repeat (go_quiet (fail); try go_wp2_with (first | ((with_reducible refine gate_builtin (b := .append) (xs := #[.tmp 25, .tmp 27]) rfl ?_); (try (refine gate_guard (by rfl) ?_; dsimp only)); at_builtin; refine Kd.R_append Kd.string (w0 := w) w.heap.size rfl (.tmp 25) (.tmp 27) 31 9 (.string ⟨#[]⟩) 16 rfl Tryz.underlying31 info9 rfl (by decide) (by omega) u6 x6_1 x5_1 [.string x5_1] (fun _ => True) (fun _ => False) rfl rfl ?aP (fun _ hk => hk.elim) ?aF ?aO ?aB ?aS ?aL ?_; (case aP => exact rfl); (case aB => exact aL); (case aF => exact ax27); (case aO => exact (rX HO_6)); (case aS => exact ax28); (case aL => exact ax148); intro v752 w21 ho hb hg hat; rw [← Ny751.out] at ho; have n0_ := am (Kd.R_over' (rX HO_4) (Kd.R_typed (rX HO_6)) (by decide) hg); have n1_ := am (blk_grown (g := gb744) (o := .cells #[.slice none 0 0] 26 (0, 0)) aU hg (Kd.R_ne HO_6.out BK744.out (by decide))); have n2_ := am (hb); have n3_ := am (ho); clear HO_4; clear BK744; clear HB; clear HO_6; have HO_4 := n0_; have BK744 := n1_; have HB := n2_; have HO753 := n3_; clear n0_ n1_ n2_ n3_; clear ho hb hg hat; obtain ⟨Ao22, co22, rfl⟩ := Kd.R_slice HO753.out; obtain ⟨Ao23, co23, rfl⟩ := Kd.R_slice HO_4.out; have hcz24_0 : w21.cell? ⟨gb744, 0, none⟩ = some (.slice none 0 0) := (blk_cell BK744.out 0).trans rfl; have hfz24_0 := blk_frozen BK744.out 0)))
           refine bodyPost_ret (results_ct rfl _ _ gb744 26 #[.slice none 0 0] (0, 0) _ rfl ax149 Tryz.underlying26 rfl (by kernel_rfl)) rfl ?_
           exact ⟨_, ax21, ax29, aL⟩
          ·rw [if_neg c20] at H
           have c20b0 := decide_eq_false c20; have c20b1 : decide (12 < x4_1.length) = false := decide_eq_false (by omega); clear c20; have H' := am H; clear H; have p10 : 0 ≤ (x15_1 : Int) := of_decide_eq_true ax23; have q10 : x15_1 < (a0.size : Int) := of_decide_eq_true ax23; have hx10 := bt_at a0 x15_1; replace p10 := eq_true p10; replace q10 := eq_true q10
           go_wp2_with (first | ((with_reducible refine gate_builtin (b := .append) (xs := #[.tmp 25, .tmp 27]) rfl ?_); (try (refine gate_guard (by rfl) ?_; dsimp only)); at_builtin; refine Kd.R_append Kd.string (w0 := w) w.heap.size rfl (.tmp 25) (.tmp 27) 31 9 (.string ⟨#[]⟩) 16 rfl Tryz.underlying31 info9 rfl (by decide) (by omega) u6 x6_1 x5_1 [.string x5_1] (fun _ => True) (fun _ => False) rfl rfl ?aP (fun _ hk => hk.elim) ?aF ?aO ?aB ?aS ?aL ?_; (case aP => exact rfl); (case aB => exact aL); (case aF => exact ax27); (case aO => exact (rX HO_6)); (case aS => exact ax28); (case aL => exact ax148); intro v752 w25 ho hb hg hat; rw [← Ny751.out] at ho; have n0_ := am (Kd.R_over' (rX HO_4) (Kd.R_typed (rX HO_6)) (by decide) hg); have n1_ := am (blk_grown (g := gb744) (o := .cells #[.slice none 0 0] 26 (0, 0)) aU hg (Kd.R_ne HO_6.out BK744.out (by decide))); have n2_ := am (hb); have n3_ := am (ho); clear HO_4; clear BK744; clear HB; clear HO_6; have HO_4 := n0_; have BK744 := n1_; have HB := n2_; have HO753 := n3_; clear n0_ n1_ n2_ n3_; clear ho hb hg hat; obtain ⟨Ao26, co26, rfl⟩ := Kd.R_slice HO753.out; obtain ⟨Ao27, co27, rfl⟩ := Kd.R_slice HO_4.out))
           repeat (go_quiet (fail); try go_wp2_with (first | ((with_reducible refine gate_builtin (b := .append) (xs := #[.tmp 25, .tmp 27]) rfl ?_); (try (refine gate_guard (by rfl) ?_; dsimp only)); at_builtin; refine Kd.R_append Kd.string (w0 := w) w.heap.size rfl (.tmp 25) (.tmp 27) 31 9 (.string ⟨#[]⟩) 16 rfl Tryz.underlying31 info9 rfl (by decide) (by omega) u6 x6_1 x5_1 [.string x5_1] (fun _ => True) (fun _ => False) rfl rfl ?aP (fun _ hk => hk.elim) ?aF ?aO ?aB ?aS ?aL ?_; (case aP => exact rfl); (case aB => exact aL); (case aF => exact ax27); (case aO => exact (rX HO_6)); (case aS => exact ax28); (case aL => exact ax148); intro v752 w25 ho hb hg hat; rw [← Ny751.out] at ho; have n0_ := am (Kd.R_over' (rX HO_4) (Kd.R_typed (rX HO_6)) (by decide) hg); have n1_ := am (blk_grown (g := gb744) (o := .cells #[.slice none 0 0] 26 (0, 0)) aU hg (Kd.R_ne HO_6.out BK744.out (by decide))); have n2_ := am (hb); have n3_ := am (ho); clear HO_4; clear BK744; clear HB; clear HO_6; have HO_4 := n0_; have BK744 := n1_; have HB := n2_; have HO753 := n3_; clear n0_ n1_ n2_ n3_; clear ho hb hg hat; obtain ⟨Ao26, co26, rfl⟩ := Kd.R_slice HO753.out; obtain ⟨Ao27, co27, rfl⟩ := Kd.R_slice HO_4.out)))
           go_roundg k1
           case measure => have := HK1.out; omega
           case rel => exact ⟨(x4_1), (x5_1), (y751), (wrap64 (x15_1 + 1)), ax18, ax18, H', ⟨by have := HK1.out; omega⟩, ⟨aU⟩, ⟨aU⟩, ⟨aU⟩, ⟨aL⟩⟩
       ·rw [if_neg c12] at H
        exact absurd H (by simp)
      ·rw [if_neg c11] at H
       have c11b0 := beq_eq_false_iff_ne.mpr c11; have c11b1 := bne_iff_ne.mpr c11
       by_cases c28 : (bt a0 x15_1) = 40
       ·rw [if_pos c28] at H
        have c28b0 := beq_iff_eq.mpr c28; have c28b1 := bne_eq_false_iff_eq.mpr c28; clear c28
        by_cases c29 : x4_1.length < 17592186044416
        ·rw [if_pos c29] at H
         have LMc29 := am c29; clear c29; obtain ⟨y754, hy754⟩ : ∃ y_ : List Int, y_ = (x4_1 ++ [(x5_1.size : Int)]) := ⟨_, rfl⟩
         replace H : (if (x5_1.size : Int) > 12 then (some (([] : List (S74)), false)) else (if (x6_1.length : Int) > 40 then (some (([] : List (S74)), false)) else (if (y754.length : Int) > 12 then (some (([] : List (S74)), false)) else (impl_ParseTrie.l0 k1 a0 y754 x5_1 x6_1 (a0.size : Int) (wrap64 (x15_1 + 1)))))) = some (r1, r2) := by first | (rw [hy754]; with_reducible exact H) | (have H2_ := (Option.bind_some _ _).symm.trans H; rw [hy754]; with_reducible exact H2_) | (have H2_ := (Option.bind_some _ _).symm.trans H; with_reducible exact H2_) | with_reducible exact H | (rw [hy754]; exact H) | exact H
         have Ny754 := am hy754; clear hy754
         by_cases c30 : (x5_1.size : Int) > 12
         ·rw [if_pos c30] at H
          have c30b0 := decide_eq_true c30; have c30b1 : decide (12 < x5_1.size) = true := decide_eq_true (by omega); clear c30; simp only [Option.some.injEq, Prod.mk.injEq] at H; obtain ⟨rfl, rfl⟩ := H; have p10 : 0 ≤ (x15_1 : Int) := of_decide_eq_true ax23; have q10 : x15_1 < (a0.size : Int) := of_decide_eq_true ax23; have hx10 := bt_at a0 x15_1; replace p10 := eq_true p10; replace q10 := eq_true q10
          go_wp2_with (first | ((with_reducible refine gate_builtin (b := .append) (xs := #[.tmp 32, .tmp 35]) rfl ?_); (try (refine gate_guard (by rfl) ?_; dsimp only)); at_builtin; refine Kd.R_append (Kd.int .i64) (w0 := w) w.heap.size rfl (.tmp 32) (.tmp 35) 42 3 (.int .i64 0) 8 rfl Tryz.underlying42 info3 rfl (by decide) (by omega) u4 x4_1 (x5_1.size : Int) [.int .i64 (x5_1.size : Int)] (fun _ => True) (fun _ => False) rfl rfl ?aP (fun _ hk => hk.elim) ?aF ?aO ?aB ?aS ?aL ?_; (case aP => exact rfl); (case aB => exact aL); (case aF => exact ax27); (case aO => exact (rX HO_4)); (case aS => exact ax28); (case aL => exact ax150); intro v755 w31 ho hb hg hat; rw [← Ny754.out] at ho; have n0_ := am (blk_grown (g := gb744) (o := .cells #[.slice none 0 0] 26 (0, 0)) aU hg (Kd.R_ne HO_4.out BK744.out (by decide))); have n1_ := am (hb); have n2_ := am (ho); clear BK744; clear HB; clear HO_4; have BK744 := n0_; have HB := n1_; have HO756 := n2_; clear n0_ n1_ n2_; clear ho hb hg hat; obtain ⟨hcz32_0, hfz32_0⟩ := bz (.slice none 0 0) BK744))
          repeat (go_quiet (fail); try go_wp2_with (first | ((with_reducible refine gate_builtin (b := .append) (xs := #[.tmp 32, .tmp 35]) rfl ?_); (try (refine gate_guard (by rfl) ?_; dsimp only)); at_builtin; refine Kd.R_append (Kd.int .i64) (w0 := w) w.heap.size rfl (.tmp 32) (.tmp 35) 42 3 (.int .i64 0) 8 rfl Tryz.underlying42 info3 rfl (by decide) (by omega) u4 x4_1 (x5_1.size : Int) [.int .i64 (x5_1.size : Int)] (fun _ => True) (fun _ => False) rfl rfl ?aP (fun _ hk => hk.elim) ?aF ?aO ?aB ?aS ?aL ?_; (case aP => exact rfl); (case aB => exact aL); (case aF => exact ax27); (case aO => exact (rX HO_4)); (case aS => exact ax28); (case aL => exact ax150); intro v755 w31 ho hb hg hat; rw [← Ny754.out] at ho; have n0_ := am (blk_grown (g := gb744) (o := .cells #[.slice none 0 0] 26 (0, 0)) aU hg (Kd.R_ne HO_4.out BK744.out (by decide))); have n1_ := am (hb); have n2_ := am (ho); clear BK744; clear HB; clear HO_4; have BK744 := n0_; have HB := n1_; have HO756 := n2_; clear n0_ n1_ n2_; clear ho hb hg hat; have hcz32_0 : w31.cell? ⟨gb744, 0, none⟩ = some (.slice none 0 0) := (blk_cell BK744.out 0).trans rfl; have hfz32_0 := blk_frozen BK744.out 0)))
          refine bodyPost_ret (results_ct rfl _ _ gb744 26 #[.slice none 0 0] (0, 0) _ rfl ax149 Tryz.underlying26 rfl (by kernel_rfl)) rfl ?_
          exact ⟨_, ax21, ax29, aL⟩
         ·rw [if_neg c30] at H
          have c30b0 := decide_eq_false c30; have c30b1 : decide (12 < x5_1.size) = false := decide_eq_false (by omega); clear c30
          by_cases c33 : (x6_1.length : Int) > 40
          ·rw [if_pos c33] at H
           have c33b0 := decide_eq_true c33; have c33b1 : decide (40 < x6_1.length) = true := decide_eq_true (by omega); clear c33; simp only [Option.some.injEq, Prod.mk.injEq] at H; obtain ⟨rfl, rfl⟩ := H; have p10 : 0 ≤ (x15_1 : Int) := of_decide_eq_true ax23; have q10 : x15_1 < (a0.size : Int) := of_decide_eq_true ax23; have hx10 := bt_at a0 x15_1; replace p10 := eq_true p10; replace q10 := eq_true q10
           go_wp2_with (first | ((with_reducible refine gate_builtin (b := .append) (xs := #[.tmp 32, .tmp 35]) rfl ?_); (try (refine gate_guard (by rfl) ?_; dsimp only)); at_builtin; refine Kd.R_append (Kd.int .i64) (w0 := w) w.heap.size rfl (.tmp 32) (.tmp 35) 42 3 (.int .i64 0) 8 rfl Tryz.underlying42 info3 rfl (by decide) (by omega) u4 x4_1 (x5_1.size : Int) [.int .i64 (x5_1.size : Int)] (fun _ => True) (fun _ => False) rfl rfl ?aP (fun _ hk => hk.elim) ?aF ?aO ?aB ?aS ?aL ?_; (case aP => exact rfl); (case aB => exact aL); (case aF => exact ax27); (case aO => exact (rX HO_4)); (case aS => exact ax28); (case aL => exact ax150); intro v755 w34 ho hb hg hat; rw [← Ny754.out] at ho; have n0_ := am (Kd.R_over' (rX HO_6) (Kd.R_typed (rX HO_4)) (by decide) hg); have n1_ := am (blk_grown (g := gb744) (o := .cells #[.slice none 0 0] 26 (0, 0)) aU hg (Kd.R_ne HO_4.out BK744.out (by decide))); have n2_ := am (hb); have n3_ := am (ho); clear HO_6; clear BK744; clear HB; clear HO_4; have HO_6 := n0_; have BK744 := n1_; have HB := n2_; have HO756 := n3_; clear n0_ n1_ n2_ n3_; clear ho hb hg hat; obtain ⟨Ao35, co35, rfl⟩ := Kd.R_slice HO_6.out; obtain ⟨hcz36_0, hfz36_0⟩ := bz (.slice none 0 0) BK744))
           repeat (go_quiet (fail); try go_wp2_with (first | ((with_reducible refine gate_builtin (b := .append) (xs := #[.tmp 32, .tmp 35]) rfl ?_); (try (refine gate_guard (by rfl) ?_; dsimp only)); at_builtin; refine Kd.R_append (Kd.int .i64) (w0 := w) w.heap.size rfl (.tmp 32) (.tmp 35) 42 3 (.int .i64 0) 8 rfl Tryz.underlying42 info3 rfl (by decide) (by omega) u4 x4_1 (x5_1.size : Int) [.int .i64 (x5_1.size : Int)] (fun _ => True) (fun _ => False) rfl rfl ?aP (fun _ hk => hk.elim) ?aF ?aO ?aB ?aS ?aL ?_; (case aP => exact rfl); (case aB => exact aL); (case aF => exact ax27); (case aO => exact (rX HO_4)); (case aS => exact ax28); (case aL => exact ax150); intro v755 w34 ho hb hg hat; rw [← Ny754.out] at ho; have n0_ := am (Kd.R_over' (rX HO_6) (Kd.R_typed (rX HO_4)) (by decide) hg); have n1_ := am (blk_grown (g := gb744) (o := .cells #[.slice none 0 0] 26 (0, 0)) aU hg (Kd.R_ne HO_4.out BK744.out (by decide))); have n2_ := am (hb); have n3_ := am (ho); clear HO_6; clear BK744; clear HB; clear HO_4; have HO_6 := n0_; have BK744 := n1_; have HB := n2_; have HO756 := n3_; clear n0_ n1_ n2_ n3_; clear ho hb hg hat; obtain ⟨Ao35, co35, rfl⟩ := Kd.R_slice HO_6.out; have hcz36_0 : w34.cell? ⟨gb744, 0, none⟩ = some (.slice none 0 0) := (blk_cell BK744.out 0).trans rfl; have hfz36_0 := blk_frozen BK744.out 0)))
           refine bodyPost_ret (results_ct rfl _ _ gb744 26 #[.slice none 0 0] (0, 0) _ rfl ax149 Tryz.underlying26 rfl (by kernel_rfl)) rfl ?_
           exact ⟨_, ax21, ax29, aL⟩
          ·rw [if_neg c33] at H
           have c33b0 := decide_eq_false c33; have c33b1 : decide (40 < x6_1.length) = false := decide_eq_false (by omega); clear c33
           by_cases c37 : (y754.length : Int) > 12
           ·rw [if_pos c37] at H
            have c37b0 := decide_eq_true c37; have c37b1 : decide (12 < y754.length) = true := decide_eq_true (by omega); clear c37; simp only [Option.some.injEq, Prod.mk.injEq] at H; obtain ⟨rfl, rfl⟩ := H; have p10 : 0 ≤ (x15_1 : Int) := of_decide_eq_true ax23; have q10 : x15_1 < (a0.size : Int) := of_decide_eq_true ax23; have hx10 := bt_at a0 x15_1; replace p10 := eq_true p10; replace q10 := eq_true q10
            go_wp2_with (first | ((with_reducible refine gate_builtin (b := .append) (xs := #[.tmp 32, .tmp 35]) rfl ?_); (try (refine gate_guard (by rfl) ?_; dsimp only)); at_builtin; refine Kd.R_append (Kd.int .i64) (w0 := w) w.heap.size rfl (.tmp 32) (.tmp 35) 42 3 (.int .i64 0) 8 rfl Tryz.underlying42 info3 rfl (by decide) (by omega) u4 x4_1 (x5_1.size : Int) [.int .i64 (x5_1.size : Int)] (fun _ => True) (fun _ => False) rfl rfl ?aP (fun _ hk => hk.elim) ?aF ?aO ?aB ?aS ?aL ?_; (case aP => exact rfl); (case aB => exact aL); (case aF => exact ax27); (case aO => exact (rX HO_4)); (case aS => exact ax28); (case aL => exact ax150); intro v755 w38 ho hb hg hat; rw [← Ny754.out] at ho; have n0_ := am (Kd.R_over' (rX HO_6) (Kd.R_typed (rX HO_4)) (by decide) hg); have n1_ := am (blk_grown (g := gb744) (o := .cells #[.slice none 0 0] 26 (0, 0)) aU hg (Kd.R_ne HO_4.out BK744.out (by decide))); have n2_ := am (hb); have n3_ := am (ho); clear HO_6; clear BK744; clear HB; clear HO_4; have HO_6 := n0_; have BK744 := n1_; have HB := n2_; have HO756 := n3_; clear n0_ n1_ n2_ n3_; clear ho hb hg hat; obtain ⟨Ao39, co39, rfl⟩ := Kd.R_slice HO_6.out; obtain ⟨Ao40, co40, rfl⟩ := Kd.R_slice HO756.out; obtain ⟨hcz41_0, hfz41_0⟩ := bz (.slice none 0 0) BK744))
            repeat (go_quiet (fail); try go_wp2_with (first | ((with_reducible refine gate_builtin (b := .append) (xs := #[.tmp 32, .tmp 35]) rfl ?_); (try (refine gate_guard (by rfl) ?_; dsimp only)); at_builtin; refine Kd.R_append (Kd.int .i64) (w0 := w) w.heap.size rfl (.tmp 32) (.tmp 35) 42 3 (.int .i64 0) 8 rfl Tryz.underlying42 info3 rfl (by decide) (by omega) u4 x4_1 (x5_1.size : Int) [.int .i64 (x5_1.size : Int)] (fun _ => True) (fun _ => False) rfl rfl ?aP (fun _ hk => hk.elim) ?aF ?aO ?aB ?aS ?aL ?_; (case aP => exact rfl); (case aB => exact aL); (case aF => exact ax27); (case aO => exact (rX HO_4)); (case aS => exact ax28); (case aL => exact ax150); intro v755 w38 ho hb hg hat; rw [← Ny754.out] at ho; have n0_ := am (Kd.R_over' (rX HO_6) (Kd.R_typed (rX HO_4)) (by decide) hg); have n1_ := am (blk_grown (g := gb744) (o := .cells #[.slice none 0 0] 26 (0, 0)) aU hg (Kd.R_ne HO_4.out BK744.out (by decide))); have n2_ := am (hb); have n3_ := am (ho); clear HO_6; clear BK744; clear HB; clear HO_4; have HO_6 := n0_; have BK744 := n1_; have HB := n2_; have HO756 := n3_; clear n0_ n1_ n2_ n3_; clear ho hb hg hat; obtain ⟨Ao39, co39, rfl⟩ := Kd.R_slice HO_6.out; obtain ⟨Ao40, co40, rfl⟩ := Kd.R_slice HO756.out; have hcz41_0 : w38.cell? ⟨gb744, 0, none⟩ = some (.slice none 0 0) := (blk_cell BK744.out 0).trans rfl; have hfz41_0 := blk_frozen BK744.out 0)))
            refine bodyPost_ret (results_ct rfl _ _ gb744 26 #[.slice none 0 0] (0, 0) _ rfl ax149 Tryz.underlying26 rfl (by kernel_rfl)) rfl ?_
            exact ⟨_, ax21, ax29, aL⟩
           ·rw [if_neg c37] at H
            have c37b0 := decide_eq_false c37; have c37b1 : decide (12 < y754.length) = false := decide_eq_false (by omega); clear c37; have H' := am H; clear H; have p10 : 0 ≤ (x15_1 : Int) := of_decide_eq_true ax23; have q10 : x15_1 < (a0.size : Int) := of_decide_eq_true ax23; have hx10 := bt_at a0 x15_1; replace p10 := eq_true p10; replace q10 := eq_true q10
            go_wp2_with (first | ((with_reducible refine gate_builtin (b := .append) (xs := #[.tmp 32, .tmp 35]) rfl ?_); (try (refine gate_guard (by rfl) ?_; dsimp only)); at_builtin; refine Kd.R_append (Kd.int .i64) (w0 := w) w.heap.size rfl (.tmp 32) (.tmp 35) 42 3 (.int .i64 0) 8 rfl Tryz.underlying42 info3 rfl (by decide) (by omega) u4 x4_1 (x5_1.size : Int) [.int .i64 (x5_1.size : Int)] (fun _ => True) (fun _ => False) rfl rfl ?aP (fun _ hk => hk.elim) ?aF ?aO ?aB ?aS ?aL ?_; (case aP => exact rfl); (case aB => exact aL); (case aF => exact ax27); (case aO => exact (rX HO_4)); (case aS => exact ax28); (case aL => exact ax150); intro v755 w42 ho hb hg hat; rw [← Ny754.out] at ho; have n0_ := am (Kd.R_over' (rX HO_6) (Kd.R_typed (rX HO_4)) (by decide) hg); have n1_ := am (blk_grown (g := gb744) (o := .cells #[.slice none 0 0] 26 (0, 0)) aU hg (Kd.R_ne HO_4.out BK744.out (by decide))); have n2_ := am (hb); have n3_ := am (ho); clear HO_6; clear BK744; clear HB; clear HO_4; have HO_6 := n0_; have BK744 := n1_; have HB := n2_; have HO756 := n3_; clear n0_ n1_ n2_ n3_; clear ho hb hg hat; obtain ⟨Ao43, co43, rfl⟩ := Kd.R_slice HO_6.out; obtain ⟨Ao44, co44, rfl⟩ := Kd.R_slice HO756.out))
            repeat (go_quiet (fail); try go_wp2_with (first | ((with_reducible refine gate_builtin (b := .append) (xs := #[.tmp 32, .tmp 35]) rfl ?_); (try (refine gate_guard (by rfl) ?_; dsimp only)); at_builtin; refine Kd.R_append (Kd.int .i64) (w0 := w) w.heap.size rfl (.tmp 32) (.tmp 35) 42 3 (.int .i64 0) 8 rfl Tryz.underlying42 info3 rfl (by decide) (by omega) u4 x4_1 (x5_1.size : Int) [.int .i64 (x5_1.size : Int)] (fun _ => True) (fun _ => False) rfl rfl ?aP (fun _ hk => hk.elim) ?aF ?aO ?aB ?aS ?aL ?_; (case aP => exact rfl); (case aB => exact aL); (case aF => exact ax27); (case aO => exact (rX HO_4)); (case aS => exact ax28); (case aL => exact ax150); intro v755 w42 ho hb hg hat; rw [← Ny754.out] at ho; have n0_ := am (Kd.R_over' (rX HO_6) (Kd.R_typed (rX HO_4)) (by decide) hg); have n1_ := am (blk_grown (g := gb744) (o := .cells #[.slice none 0 0] 26 (0, 0)) aU hg (Kd.R_ne HO_4.out BK744.out (by decide))); have n2_ := am (hb); have n3_ := am (ho); clear HO_6; clear BK744; clear HB; clear HO_4; have HO_6 := n0_; have BK744 := n1_; have HB := n2_; have HO756 := n3_; clear n0_ n1_ n2_ n3_; clear ho hb hg hat; obtain ⟨Ao43, co43, rfl⟩ := Kd.R_slice HO_6.out; obtain ⟨Ao44, co44, rfl⟩ := Kd.R_slice HO756.out)))
            go_roundg k1
            case measure => have := HK1.out; omega
            case rel => exact ⟨(y754), (x5_1), (x6_1), (wrap64 (x15_1 + 1)), ax18, ax18, H', ⟨by have := HK1.out; omega⟩, ⟨aU⟩, ⟨aU⟩, ⟨aU⟩, ⟨aL⟩⟩
        ·exact ax8
       ·rw [if_neg c28] at H
        have c28b0 := beq_eq_false_iff_ne.mpr c28; have c28b1 := bne_iff_ne.mpr c28; have HC45 := am H; clear H; have p10 : 0 ≤ (x15_1 : Int) := of_decide_eq_true ax23; have q10 : x15_1 < (a0.size : Int) := of_decide_eq_true ax23; have hx10 := bt_at a0 x15_1; replace p10 := eq_true p10; replace q10 := eq_true q10
        go_upto_region 11 with (fail)
        repeat (go_quiet (fail); go_upto_region 11 with (fail))
        go_cut [37] (fun v37 wc => ∃ (kq : Nat) (x37_44 : Bool), v37 = .bool x37_44 ∧ Aside0 (impl_ParseTrie.j1 kq a0 x4_1 x5_1 x6_1 x15_1 (bt a0 x15_1) (a0.size : Int) x15_1 x37_44 = some (r1, r2)) ∧ Aside0 (kq ≤ k1) ∧ Aside0 (Kd.R (Kd.int .i64) 3 wc w.heap.size (fun _ => True) u4 x4_1) ∧ Aside0 (Kd.R Kd.string 9 wc w.heap.size (fun _ => True) u6 x6_1) ∧ Aside0 (wc.heap[gb744]? = some (.cells #[(.slice none 0 0)] 26 (0, 0))) ∧ Aside0 (Below w.heap.size w wc))
        case first =>
         have H := HC45.out; clear HC45
         by_cases c46 : (bt a0 x15_1) = 41
         ·rw [if_pos c46] at H
          have c46b0 := beq_iff_eq.mpr c46; have c46b1 := bne_eq_false_iff_eq.mpr c46; clear c46; (first | rw [c46b0] | (simp only [i64_w, i32_w]; rw [c46b0]) | skip); have H' := am H; clear H; obtain ⟨Ao47, co47, rfl⟩ := Kd.R_slice HO_4.out
          go_wp2
          repeat (go_quiet (fail); try go_wp2)
          go_meet
          case rel => exact ⟨_, (decide ((x4_1.length : Int) > 0)), ax18, H', ⟨ax52⟩, ⟨aU⟩, ⟨aU⟩, ⟨aU⟩, ⟨aL⟩⟩
         ·rw [if_neg c46] at H
          have c46b0 := beq_eq_false_iff_ne.mpr c46; have c46b1 := bne_iff_ne.mpr c46; (first | rw [c46b0] | (simp only [i64_w, i32_w]; rw [c46b0]) | skip); have H' := am H; clear H
          go_wp2
          repeat (go_quiet (fail); try go_wp2)
          go_meet
          case rel => exact ⟨_, (false), ax18, H', ⟨ax52⟩, ⟨aU⟩, ⟨aU⟩, ⟨aU⟩, ⟨aL⟩⟩
        case rest =>
         clear HC45; (try clear q10);(try clear p10);(try clear hx10);(try clear c28b1);(try clear c28);(try clear c28b0);(try clear c29);(try clear c11b1);(try clear c11);(try clear c11b0);(try clear c12);(try clear c9);(try clear c9b0);(try clear c8);(try clear c8b0);(try clear c7);(try clear c7b0); obtain ⟨kq, x37_44, rfl, HA, HJ44, HO_4, HO_6, BK744, HB⟩ := hcut
         cases kq with
         | zero => exact absurd HA.out (by simp [impl_ParseTrie.j1])
         | succ kj44 =>
          have H := HA.out; clear HA; simp only [impl_ParseTrie.j1] at H
          by_cases c48 : x37_44 = true
          ·subst c48
           rw [if_pos rfl] at H; obtain ⟨ji49, hji49⟩ : ∃ j_ : Int, (wrap64 ((x4_1.length : Int) - 1)) = j_ := ⟨_, rfl⟩; (first | rw [hji49] at H | simp only [hji49] at H); have hji49w : (IntKind.i64.wrap ((x4_1.length : Int) - 1)) = ji49 := (i64_w _).trans hji49
           by_cases c50 : 0 ≤ (ji49)
           ·rw [if_pos c50] at H
            have c50b0 := decide_eq_true c50; clear c50
            by_cases c51 : (ji49) < (x4_1.length : Int)
            ·rw [if_pos c51] at H
             have c51b0 := decide_eq_true c51; clear c51
             by_cases c52 : 0 ≤ (rd x4_1 (ji49))
             ·rw [if_pos c52] at H
              have c52b0 := eq_true c52; have c52b1 := decide_eq_true c52; clear c52
              by_cases c53 : (rd x4_1 (ji49)) ≤ (x5_1.size : Int)
              ·rw [if_pos c53] at H
               have c53b0 := eq_true c53; have c53b1 := decide_eq_true c53; clear c53; obtain ⟨js54, hjs54⟩ : ∃ j_ : ByteArray, (x5_1.extract 0 ((rd x4_1 (ji49)) : Int).toNat) = j_ := ⟨_, rfl⟩; (first | rw [hjs54] at H | simp only [hjs54] at H)
               by_cases c55 : (ji49) ≤ (x4_1.length : Int)
               ·rw [if_pos c55] at H
                have c55b0 := eq_true c55; have c55b1 := decide_eq_true c55; clear c55; obtain ⟨y758, hy758⟩ : ∃ y_ : List Int, y_ = (x4_1.take ((ji49) : Int).toNat) := ⟨_, rfl⟩
                replace H : (if (js54.size : Int) > 12 then (some (([] : List (S74)), false)) else (if (x6_1.length : Int) > 40 then (some (([] : List (S74)), false)) else (if (y758.length : Int) > 12 then (some (([] : List (S74)), false)) else (impl_ParseTrie.l0 kj44 a0 y758 js54 x6_1 (a0.size : Int) (wrap64 (x15_1 + 1)))))) = some (r1, r2) := by first | (rw [hy758]; with_reducible exact H) | (have H2_ := (Option.bind_some _ _).symm.trans H; rw [hy758]; with_reducible exact H2_) | (have H2_ := (Option.bind_some _ _).symm.trans H; with_reducible exact H2_) | with_reducible exact H | (rw [hy758]; exact H) | exact H
                have Ny758 := am hy758; clear hy758
                by_cases c56 : (js54.size : Int) > 12
                ·rw [if_pos c56] at H
                 have c56b0 := decide_eq_true c56; have c56b1 : decide (12 < js54.size) = true := decide_eq_true (by omega); clear c56; simp only [Option.some.injEq, Prod.mk.injEq] at H; obtain ⟨rfl, rfl⟩ := H; obtain ⟨Ao57, co57, rfl⟩ := Kd.R_slice HO_4.out; have p757 : 0 ≤ ((ji49) : Int) := of_decide_eq_true ax23; have q757 : (ji49) < (x4_1.length : Int) := of_decide_eq_true ax23; obtain ⟨ad757, e757, hx757_0⟩ := Kd.at_int (Kd.R_reads' HO_4.out).2.2 (ji49) p757 q757
                 cases e757
                 replace p757 := eq_true p757; replace q757 := eq_true q757; have q58 : ((ji49) : Int) ≤ ((x4_1.length : Int) : Int) := of_decide_eq_true ax23; obtain ⟨i058, hi058, _, hsz58, _⟩ := info_parts info3; have hcut58 := cut_to (P := Tryz.prog) 42 3 .i64 Tryz.underlying42 hi058 (some ad757) x4_1.length co57 (ji49) (of_decide_eq_true ax23) q58 (Kd.R_reads' HO_4.out).2.1; have hr58 := Kd.R_take (m := ((ji49) : Int).toNat) HO_4.out (by omega); have hy58 : y758.length = ((ji49) : Int).toNat := ax151; rw [← Ny758.out] at hr58; rw [← hy58] at hr58 hcut58; clear hy58 hi058 hsz58 HO_4; have HO760 := am hr58; clear hr58; replace q58 := eq_true q58; obtain ⟨hcz59_0, hfz59_0⟩ := bz (.slice none 0 0) BK744
                 go_wp2
                 repeat (go_quiet (fail); try go_wp2)
                 refine bodyPost_ret (results_ct rfl _ _ gb744 26 #[.slice none 0 0] (0, 0) _ rfl ax149 Tryz.underlying26 rfl (by kernel_rfl)) rfl ?_
                 exact ⟨_, ax152, ax29, aL⟩
                ·rw [if_neg c56] at H
                 have c56b0 := decide_eq_false c56; have c56b1 : decide (12 < js54.size) = false := decide_eq_false (by omega); clear c56
                 by_cases c60 : (x6_1.length : Int) > 40
                 ·rw [if_pos c60] at H
                  have c60b0 := decide_eq_true c60; have c60b1 : decide (40 < x6_1.length) = true := decide_eq_true (by omega); clear c60; simp only [Option.some.injEq, Prod.mk.injEq] at H; obtain ⟨rfl, rfl⟩ := H; obtain ⟨Ao61, co61, rfl⟩ := Kd.R_slice HO_4.out; have p757 : 0 ≤ ((ji49) : Int) := of_decide_eq_true ax23; have q757 : (ji49) < (x4_1.length : Int) := of_decide_eq_true ax23; obtain ⟨ad757, e757, hx757_0⟩ := Kd.at_int (Kd.R_reads' HO_4.out).2.2 (ji49) p757 q757
                  cases e757
                  replace p757 := eq_true p757; replace q757 := eq_true q757; have q62 : ((ji49) : Int) ≤ ((x4_1.length : Int) : Int) := of_decide_eq_true ax23; obtain ⟨i062, hi062, _, hsz62, _⟩ := info_parts info3; have hcut62 := cut_to (P := Tryz.prog) 42 3 .i64 Tryz.underlying42 hi062 (some ad757) x4_1.length co61 (ji49) (of_decide_eq_true ax23) q62 (Kd.R_reads' HO_4.out).2.1; have hr62 := Kd.R_take (m := ((ji49) : Int).toNat) HO_4.out (by omega); have hy62 : y758.length = ((ji49) : Int).toNat := ax151; rw [← Ny758.out] at hr62; rw [← hy62] at hr62 hcut62; clear hy62 hi062 hsz62 HO_4; have HO760 := am hr62; clear hr62; replace q62 := eq_true q62; obtain ⟨Ao63, co63, rfl⟩ := Kd.R_slice HO_6.out; obtain ⟨hcz64_0, hfz64_0⟩ := bz (.slice none 0 0) BK744
                  go_wp2
                  repeat (go_quiet (fail); try go_wp2)
                  refine bodyPost_ret (results_ct rfl _ _ gb744 26 #[.slice none 0 0] (0, 0) _ rfl ax149 Tryz.underlying26 rfl (by kernel_rfl)) rfl ?_
                  exact ⟨_, ax152, ax29, aL⟩
                 ·rw [if_neg c60] at H
                  have c60b0 := decide_eq_false c60; have c60b1 : decide (40 < x6_1.length) = false := decide_eq_false (by omega); clear c60
                  by_cases c65 : (y758.length : Int) > 12
                  ·rw [if_pos c65] at H
                   have c65b0 := decide_eq_true c65; have c65b1 : decide (12 < y758.length) = true := decide_eq_true (by omega); clear c65; simp only [Option.some.injEq, Prod.mk.injEq] at H; obtain ⟨rfl, rfl⟩ := H; obtain ⟨Ao66, co66, rfl⟩ := Kd.R_slice HO_4.out; have p757 : 0 ≤ ((ji49) : Int) := of_decide_eq_true ax23; have q757 : (ji49) < (x4_1.length : Int) := of_decide_eq_true ax23; obtain ⟨ad757, e757, hx757_0⟩ := Kd.at_int (Kd.R_reads' HO_4.out).2.2 (ji49) p757 q757
                   cases e757
                   replace p757 := eq_true p757; replace q757 := eq_true q757; have q67 : ((ji49) : Int) ≤ ((x4_1.length : Int) : Int) := of_decide_eq_true ax23; obtain ⟨i067, hi067, _, hsz67, _⟩ := info_parts info3; have hcut67 := cut_to (P := Tryz.prog) 42 3 .i64 Tryz.underlying42 hi067 (some ad757) x4_1.length co66 (ji49) (of_decide_eq_true ax23) q67 (Kd.R_reads' HO_4.out).2.1; have hr67 := Kd.R_take (m := ((ji49) : Int).toNat) HO_4.out (by omega); have hy67 : y758.length = ((ji49) : Int).toNat := ax151; rw [← Ny758.out] at hr67; rw [← hy67] at hr67 hcut67; clear hy67 hi067 hsz67 HO_4; have HO760 := am hr67; clear hr67; replace q67 := eq_true q67; obtain ⟨Ao68, co68, rfl⟩ := Kd.R_slice HO_6.out; obtain ⟨hcz69_0, hfz69_0⟩ := bz (.slice none 0 0) BK744
                   go_wp2
                   repeat (go_quiet (fail); try go_wp2)
                   refine bodyPost_ret (results_ct rfl _ _ gb744 26 #[.slice none 0 0] (0, 0) _ rfl ax149 Tryz.underlying26 rfl (by kernel_rfl)) rfl ?_
                   exact ⟨_, ax152, ax29, aL⟩
                  ·rw [if_neg c65] at H
                   have c65b0 := decide_eq_false c65; have c65b1 : decide (12 < y758.length) = false := decide_eq_false (by omega); clear c65; have H' := am H; clear H; obtain ⟨Ao70, co70, rfl⟩ := Kd.R_slice HO_4.out; have p757 : 0 ≤ ((ji49) : Int) := of_decide_eq_true ax23; have q757 : (ji49) < (x4_1.length : Int) := of_decide_eq_true ax23; obtain ⟨ad757, e757, hx757_0⟩ := Kd.at_int (Kd.R_reads' HO_4.out).2.2 (ji49) p757 q757
                   cases e757
                   replace p757 := eq_true p757; replace q757 := eq_true q757; have q71 : ((ji49) : Int) ≤ ((x4_1.length : Int) : Int) := of_decide_eq_true ax23; obtain ⟨i071, hi071, _, hsz71, _⟩ := info_parts info3; have hcut71 := cut_to (P := Tryz.prog) 42 3 .i64 Tryz.underlying42 hi071 (some ad757) x4_1.length co70 (ji49) (of_decide_eq_true ax23) q71 (Kd.R_reads' HO_4.out).2.1; have hr71 := Kd.R_take (m := ((ji49) : Int).toNat) HO_4.out (by omega); have hy71 : y758.length = ((ji49) : Int).toNat := ax151; rw [← Ny758.out] at hr71; rw [← hy71] at hr71 hcut71; clear hy71 hi071 hsz71 HO_4; have HO760 := am hr71; clear hr71; replace q71 := eq_true q71; obtain ⟨Ao72, co72, rfl⟩ := Kd.R_slice HO_6.out
                   go_wp2
                   repeat (go_quiet (fail); try go_wp2)
                   go_roundg kj44
                   case measure => have := HK1.out; have := HJ44.out; omega
                   case rel => exact ⟨(y758), (js54), (x6_1), (wrap64 (x15_1 + 1)), (by first | rfl | (simp; done) | (simp only [← hjs54] <;> (first | rfl | simp)) | (simp [*]; done)), ax18, H', ⟨(by have := HK1.out; have := HJ44.out; omega)⟩, ⟨aU⟩, ⟨aU⟩, ⟨aU⟩, ⟨aL⟩⟩
               ·rw [if_neg c55] at H
                exact absurd H (by simp)
              ·rw [if_neg c53] at H
               exact absurd H (by simp)
             ·rw [if_neg c52] at H
              exact absurd H (by simp)
            ·rw [if_neg c51] at H
             exact absurd H (by simp)
           ·rw [if_neg c50] at H
            exact absurd H (by simp)
          ·replace c48 := Bool.eq_false_iff.mpr c48
           subst c48; rw [if_neg (show ¬ (false = true) by decide)] at H; have HC73 := am H; clear H
           go_upto_region 14 with (fail)
           repeat (go_quiet (fail); go_upto_region 14 with (fail))
           go_cut [58] (fun v58 wc => ∃ (kq : Nat) (x58_72 : Bool), v58 = .bool x58_72 ∧ Aside0 (impl_ParseTrie.j2 kq a0 x4_1 x5_1 x6_1 x15_1 (a0.size : Int) x15_1 x58_72 = some (r1, r2)) ∧ Aside0 (kq ≤ kj44) ∧ Aside0 (Kd.R (Kd.int .i64) 3 wc w.heap.size (fun _ => True) u4 x4_1) ∧ Aside0 (Kd.R Kd.string 9 wc w.heap.size (fun _ => True) u6 x6_1) ∧ Aside0 (wc.heap[gb744]? = some (.cells #[(.slice none 0 0)] 26 (0, 0))) ∧ Aside0 (Below w.heap.size w wc))
           case first =>
            have H := HC73.out; clear HC73
            by_cases c74 : (bt a0 x15_1) ≥ 97
            ·rw [if_pos c74] at H
             have c74b0 := decide_eq_true c74; clear c74; (first | rw [c74b0] | (simp only [i64_w, i32_w]; rw [c74b0]) | skip)
             by_cases c75 : (bt a0 x15_1) ≤ 122
             ·rw [if_pos c75] at H
              have c75b0 := decide_eq_true c75; clear c75; have H' := am H; clear H; obtain ⟨Ao76, co76, rfl⟩ := Kd.R_slice HO_4.out
              go_wp2
              repeat (go_quiet (fail); try go_wp2)
              go_meet
              case rel => exact ⟨_, (decide ((x4_1.length : Int) > 0)), ax18, H', ⟨ax153⟩, ⟨aU⟩, ⟨aU⟩, ⟨aU⟩, ⟨aL⟩⟩
             ·rw [if_neg c75] at H
              have c75b0 := decide_eq_false c75; clear c75; have H' := am H; clear H
              go_wp2
              repeat (go_quiet (fail); try go_wp2)
              go_meet
              case rel => exact ⟨_, (false), ax18, H', ⟨ax153⟩, ⟨aU⟩, ⟨aU⟩, ⟨aU⟩, ⟨aL⟩⟩
            ·rw [if_neg c74] at H
             have c74b0 := decide_eq_false c74; clear c74; (first | rw [c74b0] | (simp only [i64_w, i32_w]; rw [c74b0]) | skip); have H' := am H; clear H
             go_wp2
             repeat (go_quiet (fail); try go_wp2)
             go_meet
             case rel => exact ⟨_, (false), ax18, H', ⟨ax153⟩, ⟨aU⟩, ⟨aU⟩, ⟨aU⟩, ⟨aL⟩⟩
           case rest =>
            clear HC73; (try clear c48);(try clear c50); obtain ⟨kq, x58_72, rfl, HA, HJ72, HO_4, HO_6, BK744, HB⟩ := hcut
            cases kq with
            | zero => exact absurd HA.out (by simp [impl_ParseTrie.j2])
            | succ kj72 =>
             have H := HA.out; clear HA; simp only [impl_ParseTrie.j2] at H
             by_cases c77 : x58_72 = true
             ·subst c77
              rw [if_pos rfl] at H; obtain ⟨ji78, hji78⟩ : ∃ j_ : Int, (wrap64 ((x4_1.length : Int) - 1)) = j_ := ⟨_, rfl⟩; (first | rw [hji78] at H | simp only [hji78] at H); have hji78w : (IntKind.i64.wrap ((x4_1.length : Int) - 1)) = ji78 := (i64_w _).trans hji78
              by_cases c79 : 0 ≤ (ji78)
              ·rw [if_pos c79] at H
               have c79b0 := decide_eq_true c79; clear c79
               by_cases c80 : (ji78) < (x4_1.length : Int)
               ·rw [if_pos c80] at H
                have c80b0 := decide_eq_true c80; clear c80
                by_cases c81 : 0 ≤ (rd x4_1 (ji78))
                ·rw [if_pos c81] at H
                 have c81b0 := eq_true c81; have c81b1 := decide_eq_true c81; clear c81
                 by_cases c82 : (rd x4_1 (ji78)) ≤ (x5_1.size : Int)
                 ·rw [if_pos c82] at H
                  have c82b0 := eq_true c82; have c82b1 := decide_eq_true c82; clear c82; obtain ⟨js83, hjs83⟩ : ∃ j_ : ByteArray, (x5_1.extract 0 ((rd x4_1 (ji78)) : Int).toNat) = j_ := ⟨_, rfl⟩; (first | rw [hjs83] at H | simp only [hjs83] at H)
                  by_cases c84 : 0 ≤ x15_1
                  ·rw [if_pos c84] at H
                   have c84b0 := eq_true c84; have c84b1 := decide_eq_true c84; clear c84
                   by_cases c85 : x15_1 ≤ (wrap64 (x15_1 + 1))
                   ·rw [if_pos c85] at H
                    have c85b0 := eq_true c85; have c85b1 := decide_eq_true c85
                    by_cases c86 : (wrap64 (x15_1 + 1)) ≤ (a0.size : Int)
                    ·rw [if_pos c86] at H
                     have c86b0 := eq_true c86; have c86b1 := decide_eq_true c86; clear c86; obtain ⟨js87, hjs87⟩ : ∃ j_ : ByteArray, (a0.extract (x15_1 : Int).toNat ((wrap64 (x15_1 + 1)) : Int).toNat) = j_ := ⟨_, rfl⟩; (first | rw [hjs87] at H | simp only [hjs87] at H)
                     by_cases c88 : js83.size + js87.size ≤ 9223372036854775807
                     ·rw [if_pos c88] at H
                      have c88b0 := eq_true c88; have c88b1 := decide_eq_true c88
                      try have c88b2 : (9223372036854775807 < js83.size + js87.size) = False := eq_false (Nat.not_lt.2 c88)
                      clear c88; obtain ⟨js89, hjs89⟩ : ∃ j_ : ByteArray, (js83 ++ js87) = j_ := ⟨_, rfl⟩; (first | rw [hjs89] at H | simp only [hjs89] at H)
                      by_cases c90 : (js89.size : Int) > 12
                      ·rw [if_pos c90] at H
                       have c90b0 := decide_eq_true c90; have c90b1 : decide (12 < js89.size) = true := decide_eq_true (by omega); clear c90; simp only [Option.some.injEq, Prod.mk.injEq] at H; obtain ⟨rfl, rfl⟩ := H; obtain ⟨Ao91, co91, rfl⟩ := Kd.R_slice HO_4.out; have p761 : 0 ≤ ((ji78) : Int) := of_decide_eq_true ax23; have q761 : (ji78) < (x4_1.length : Int) := of_decide_eq_true ax23; obtain ⟨ad761, e761, hx761_0⟩ := Kd.at_int (Kd.R_reads' HO_4.out).2.2 (ji78) p761 q761
                       cases e761
                       replace p761 := eq_true p761; replace q761 := eq_true q761; obtain ⟨hcz92_0, hfz92_0⟩ := bz (.slice none 0 0) BK744
                       go_wp2
                       repeat (go_quiet (fail); try go_wp2)
                       refine bodyPost_ret (results_ct rfl _ _ gb744 26 #[.slice none 0 0] (0, 0) _ rfl ax149 Tryz.underlying26 rfl (by kernel_rfl)) rfl ?_
                       exact ⟨_, ax154, ax29, aL⟩
                      ·rw [if_neg c90] at H
                       have c90b0 := decide_eq_false c90; have c90b1 : decide (12 < js89.size) = false := decide_eq_false (by omega); clear c90
                       by_cases c93 : (x6_1.length : Int) > 40
                       ·rw [if_pos c93] at H
                        have c93b0 := decide_eq_true c93; have c93b1 : decide (40 < x6_1.length) = true := decide_eq_true (by omega); clear c93; simp only [Option.some.injEq, Prod.mk.injEq] at H; obtain ⟨rfl, rfl⟩ := H; obtain ⟨Ao94, co94, rfl⟩ := Kd.R_slice HO_4.out; have p761 : 0 ≤ ((ji78) : Int) := of_decide_eq_true ax23; have q761 : (ji78) < (x4_1.length : Int) := of_decide_eq_true ax23; obtain ⟨ad761, e761, hx761_0⟩ := Kd.at_int (Kd.R_reads' HO_4.out).2.2 (ji78) p761 q761
                        cases e761
                        replace p761 := eq_true p761; replace q761 := eq_true q761; obtain ⟨Ao95, co95, rfl⟩ := Kd.R_slice HO_6.out; obtain ⟨hcz96_0, hfz96_0⟩ := bz (.slice none 0 0) BK744
                        go_wp2
                        repeat (go_quiet (fail); try go_wp2)
                        refine bodyPost_ret (results_ct rfl _ _ gb744 26 #[.slice none 0 0] (0, 0) _ rfl ax149 Tryz.underlying26 rfl (by kernel_rfl)) rfl ?_
                        exact ⟨_, ax154, ax29, aL⟩
                       ·rw [if_neg c93] at H
                        have c93b0 := decide_eq_false c93; have c93b1 : decide (40 < x6_1.length) = false := decide_eq_false (by omega); clear c93
                        by_cases c97 : (x4_1.length : Int) > 12
                        ·rw [if_pos c97] at H
                         have c97b0 := decide_eq_true c97; have c97b1 : decide (12 < x4_1.length) = true := decide_eq_true (by omega); clear c97; simp only [Option.some.injEq, Prod.mk.injEq] at H; obtain ⟨rfl, rfl⟩ := H; obtain ⟨Ao98, co98, rfl⟩ := Kd.R_slice HO_4.out; have p761 : 0 ≤ ((ji78) : Int) := of_decide_eq_true ax23; have q761 : (ji78) < (x4_1.length : Int) := of_decide_eq_true ax23; obtain ⟨ad761, e761, hx761_0⟩ := Kd.at_int (Kd.R_reads' HO_4.out).2.2 (ji78) p761 q761
                         cases e761
                         replace p761 := eq_true p761; replace q761 := eq_true q761; obtain ⟨Ao99, co99, rfl⟩ := Kd.R_slice HO_6.out; obtain ⟨hcz100_0, hfz100_0⟩ := bz (.slice none 0 0) BK744
                         go_wp2
                         repeat (go_quiet (fail); try go_wp2)
                         refine bodyPost_ret (results_ct rfl _ _ gb744 26 #[.slice none 0 0] (0, 0) _ rfl ax149 Tryz.underlying26 rfl (by kernel_rfl)) rfl ?_
                         exact ⟨_, ax154, ax29, aL⟩
                        ·rw [if_neg c97] at H
                         have c97b0 := decide_eq_false c97; have c97b1 : decide (12 < x4_1.length) = false := decide_eq_false (by omega); clear c97; have H' := am H; clear H; obtain ⟨Ao101, co101, rfl⟩ := Kd.R_slice HO_4.out; have p761 : 0 ≤ ((ji78) : Int) := of_decide_eq_true ax23; have q761 : (ji78) < (x4_1.length : Int) := of_decide_eq_true ax23; obtain ⟨ad761, e761, hx761_0⟩ := Kd.at_int (Kd.R_reads' HO_4.out).2.2 (ji78) p761 q761
                         cases e761
                         replace p761 := eq_true p761; replace q761 := eq_true q761; obtain ⟨Ao102, co102, rfl⟩ := Kd.R_slice HO_6.out
                         go_wp2
                         repeat (go_quiet (fail); try go_wp2)
                         go_roundg kj72
                         case measure => have := HK1.out; have := HJ44.out; have := HJ72.out; omega
                         case rel => exact ⟨(x4_1), (js89), (x6_1), (wrap64 (x15_1 + 1)), (by first | rfl | (simp; done) | (simp only [← hjs89] <;> (first | rfl | simp)) | (simp [*]; done)), ax18, H', ⟨(by have := HK1.out; have := HJ44.out; have := HJ72.out; omega)⟩, ⟨aU⟩, ⟨aU⟩, ⟨aU⟩, ⟨aL⟩⟩
                     ·rw [if_neg c88] at H
                      exact absurd H (by simp)
                    ·rw [if_neg c86] at H
                     exact absurd H (by simp)
                   ·rw [if_neg c85] at H
                    exact absurd H (by simp)
                  ·rw [if_neg c84] at H
                   exact absurd H (by simp)
                 ·rw [if_neg c82] at H
                  exact absurd H (by simp)
                ·rw [if_neg c81] at H
                 exact absurd H (by simp)
               ·rw [if_neg c80] at H
                exact absurd H (by simp)
              ·rw [if_neg c79] at H
               exact absurd H (by simp)
             ·replace c77 := Bool.eq_false_iff.mpr c77
              subst c77; rw [if_neg (show ¬ (false = true) by decide)] at H; simp only [Option.some.injEq, Prod.mk.injEq] at H; obtain ⟨rfl, rfl⟩ := H; obtain ⟨hcz103_0, hfz103_0⟩ := bz (.slice none 0 0) BK744
              go_wp2
              repeat (go_quiet (fail); try go_wp2)
              refine bodyPost_ret (results_ct rfl _ _ gb744 26 #[.slice none 0 0] (0, 0) _ rfl ax149 Tryz.underlying26 rfl (by kernel_rfl)) rfl ?_
              exact ⟨_, ax21, ax29, aL⟩
     ·exact ax13
    ·rw [if_neg c8] at H
     exact absurd H (by simp)
   ·rw [if_neg c7] at H
    have c7b0 := decide_eq_false c7; clear c7; obtain ⟨⟨t762, t765⟩, A104, H⟩ := bs H
    by_cases c105 : t765 = true
    ·subst c105
     rw [if_pos rfl] at H; obtain ⟨t767, A106, H⟩ := bs H
     by_cases c107 : t767.toList = a0.toList
     ·rw [if_pos c107] at H
      have c107b0 := beq_iff_eq.mpr c107; have c107b1 := bne_eq_false_iff_eq.mpr c107; clear c107; simp only [Option.some.injEq, Prod.mk.injEq] at H; obtain ⟨rfl, rfl⟩ := H; obtain ⟨Ao108, co108, rfl⟩ := Kd.R_slice HO_6.out
      go_wp2_with (first | (go_at_call 143; (with_reducible refine (impl_ofWords.calls k1 _ _ x6_1 t762 true _ ?side1 ?side2 A104.out).mono ?_); (case side1 => exact ax155); (case side2 => exact ax156); rintro e w109 ⟨v763, rfl, ho0, hb⟩; replace HO_6 := uR HO_6 hb; have HO764 := am (Kd.R_lower ho0 (bS HB)); replace BK744 := ub BK744 hb; replace HB := uS HB hb; (try clear hb ho0)) | ((with_reducible refine gt 9 ?_); (try (refine gate_guard (by rfl) ?_; dsimp only)); refine bx 9 #[.slice none 0 0] 26 ?_; intro gb766 hg w110 hbox hb; replace HO764 := uR HO764 hb; have BK766 := am (hbox); have GW766 := uH hg HB; have GE766 := uH hg HB; replace HB := uS HB hb; obtain ⟨NB744_766, NB766_744, BK744⟩ := uA hg hb BK744; clear hb hbox hg; obtain ⟨Ao111, co111, rfl⟩ := Kd.R_slice HO764.out; obtain ⟨hnb112, hnc112⟩ := nk NB766_744; obtain ⟨hcz113_0, hfz113_0⟩ := bz (.slice none 0 0) BK766) | (go_at_call 155; (with_reducible refine (impl_Trie_text.calls k1 _ _ t762 0 t767 _ ?side1 ?side2 A106.out).mono ?_); (case side1 => exact ax157); (case side2 => exact ax158); rintro e w114 ⟨rfl, hb⟩; replace HO764 := uX HO764 hb; replace BK744 := uZ BK744 hb; replace BK766 := am (blk_below (g := gb766) (o := .cells #[.slice Ao111 t762.length co111] 26 (0, 0)) aU hb); replace HB := uS HB hb; (try clear hb); obtain ⟨hcz115_0, hfz115_0⟩ := bz (.slice Ao111 t762.length co111) BK766; obtain ⟨hcz116_0, hfz116_0⟩ := bz (.slice none 0 0) BK744))
      repeat (go_quiet (fail); try go_wp2_with (first | (go_at_call 143; (with_reducible refine (impl_ofWords.calls k1 _ _ x6_1 t762 true _ ?side1 ?side2 A104.out).mono ?_); (case side1 => exact ax155); (case side2 => exact ax156); rintro e w109 ⟨v763, rfl, ho0, hb⟩; have n0_ := am (Kd.R_below (rX HO_6) hb); have n1_ := am (Kd.R_lower ho0 (bS HB)); have n2_ := uZ BK744 hb; have n3_ := uS HB hb; clear HO_6; clear BK744; clear HB; have HO_6 := n0_; have HO764 := n1_; have BK744 := n2_; have HB := n3_; clear n0_ n1_ n2_ n3_; (try clear hb ho0)) | ((with_reducible refine gt 9 ?_); (try (refine gate_guard (by rfl) ?_; dsimp only)); refine bx 9 #[.slice none 0 0] 26 ?_; intro gb766 hg w110 hbox hb; have n0_ := am (Kd.R_below (rX HO764) hb); have n1_ := uZ BK744 hb; have n2_ := uS HB hb; have n3_ := am (hbox); have n4_ := uH hg HB; have n5_ := uH hg HB; have n6_ := am ((ax159 : gb744 ≠ gb766)); have n7_ := am ((ax160 : gb766 ≠ gb744)); clear HO764; clear BK744; clear HB; have HO764 := n0_; have BK744 := n1_; have HB := n2_; have BK766 := n3_; have GW766 := n4_; have GE766 := n5_; have NB744_766 := n6_; have NB766_744 := n7_; clear n0_ n1_ n2_ n3_ n4_ n5_ n6_ n7_; clear hb hbox hg; obtain ⟨Ao111, co111, rfl⟩ := Kd.R_slice HO764.out; obtain ⟨hnb112, hnc112⟩ := nk NB766_744; have hcz113_0 : w110.cell? ⟨gb766, 0, none⟩ = some (.slice none 0 0) := (blk_cell BK766.out 0).trans rfl; have hfz113_0 := blk_frozen BK766.out 0) | (go_at_call 155; (with_reducible refine (impl_Trie_text.calls k1 _ _ t762 0 t767 _ ?side1 ?side2 A106.out).mono ?_); (case side1 => exact ax157); (case side2 => exact ax158); rintro e w114 ⟨rfl, hb⟩; have n0_ := am (Kd.R_below (rX HO764) hb); have n1_ := uZ BK744 hb; have n2_ := am (blk_below (g := gb766) (o := .cells #[.slice Ao111 t762.length co111] 26 (0, 0)) aU hb); have n3_ := uS HB hb; clear HO764; clear BK744; clear BK766; clear HB; have HO764 := n0_; have BK744 := n1_; have BK766 := n2_; have HB := n3_; clear n0_ n1_ n2_ n3_; (try clear hb); have hcz115_0 : w114.cell? ⟨gb766, 0, none⟩ = some (.slice Ao111 t762.length co111) := (blk_cell BK766.out 0).trans rfl; have hfz115_0 := blk_frozen BK766.out 0; have hcz116_0 : w114.cell? ⟨gb744, 0, none⟩ = some (.slice none 0 0) := (blk_cell BK744.out 0).trans rfl; have hfz116_0 := blk_frozen BK744.out 0)))
      refine bodyPost_ret (results_ct rfl _ _ gb744 26 #[.slice Ao111 t762.length co111] (0, 0) _ rfl ax149 Tryz.underlying26 rfl (by kernel_rfl)) rfl ?_
      exact ⟨_, ax21, aU, aL⟩
     ·rw [if_neg c107] at H
      have c107b0 := beq_eq_false_iff_ne.mpr c107; have c107b1 := bne_iff_ne.mpr c107; simp only [Option.some.injEq, Prod.mk.injEq] at H; obtain ⟨rfl, rfl⟩ := H; obtain ⟨Ao117, co117, rfl⟩ := Kd.R_slice HO_6.out
      go_wp2_with (first | (go_at_call 143; (with_reducible refine (impl_ofWords.calls k1 _ _ x6_1 t762 true _ ?side1 ?side2 A104.out).mono ?_); (case side1 => exact ax155); (case side2 => exact ax156); rintro e w118 ⟨v763, rfl, ho0, hb⟩; replace HO_6 := uR HO_6 hb; have HO764 := am (Kd.R_lower ho0 (bS HB)); replace BK744 := ub BK744 hb; replace HB := uS HB hb; (try clear hb ho0)) | ((with_reducible refine gt 9 ?_); (try (refine gate_guard (by rfl) ?_; dsimp only)); refine bx 9 #[.slice none 0 0] 26 ?_; intro gb766 hg w119 hbox hb; replace HO764 := uR HO764 hb; have BK766 := am (hbox); have GW766 := uH hg HB; have GE766 := uH hg HB; replace HB := uS HB hb; obtain ⟨NB744_766, NB766_744, BK744⟩ := uA hg hb BK744; clear hb hbox hg; obtain ⟨Ao120, co120, rfl⟩ := Kd.R_slice HO764.out; obtain ⟨hnb121, hnc121⟩ := nk NB766_744; obtain ⟨hcz122_0, hfz122_0⟩ := bz (.slice none 0 0) BK766) | (go_at_call 155; (with_reducible refine (impl_Trie_text.calls k1 _ _ t762 0 t767 _ ?side1 ?side2 A106.out).mono ?_); (case side1 => exact ax161); (case side2 => exact ax158); rintro e w123 ⟨rfl, hb⟩; replace HO764 := uX HO764 hb; replace BK744 := uZ BK744 hb; replace BK766 := am (blk_below (g := gb766) (o := .cells #[.slice Ao120 t762.length co120] 26 (0, 0)) aU hb); replace HB := uS HB hb; (try clear hb); obtain ⟨hcz124_0, hfz124_0⟩ := bz (.slice none 0 0) BK744))
      repeat (go_quiet (fail); try go_wp2_with (first | (go_at_call 143; (with_reducible refine (impl_ofWords.calls k1 _ _ x6_1 t762 true _ ?side1 ?side2 A104.out).mono ?_); (case side1 => exact ax155); (case side2 => exact ax156); rintro e w118 ⟨v763, rfl, ho0, hb⟩; have n0_ := am (Kd.R_below (rX HO_6) hb); have n1_ := am (Kd.R_lower ho0 (bS HB)); have n2_ := uZ BK744 hb; have n3_ := uS HB hb; clear HO_6; clear BK744; clear HB; have HO_6 := n0_; have HO764 := n1_; have BK744 := n2_; have HB := n3_; clear n0_ n1_ n2_ n3_; (try clear hb ho0)) | ((with_reducible refine gt 9 ?_); (try (refine gate_guard (by rfl) ?_; dsimp only)); refine bx 9 #[.slice none 0 0] 26 ?_; intro gb766 hg w119 hbox hb; have n0_ := am (Kd.R_below (rX HO764) hb); have n1_ := uZ BK744 hb; have n2_ := uS HB hb; have n3_ := am (hbox); have n4_ := uH hg HB; have n5_ := uH hg HB; have n6_ := am ((ax159 : gb744 ≠ gb766)); have n7_ := am ((ax160 : gb766 ≠ gb744)); clear HO764; clear BK744; clear HB; have HO764 := n0_; have BK744 := n1_; have HB := n2_; have BK766 := n3_; have GW766 := n4_; have GE766 := n5_; have NB744_766 := n6_; have NB766_744 := n7_; clear n0_ n1_ n2_ n3_ n4_ n5_ n6_ n7_; clear hb hbox hg; obtain ⟨Ao120, co120, rfl⟩ := Kd.R_slice HO764.out; obtain ⟨hnb121, hnc121⟩ := nk NB766_744; have hcz122_0 : w119.cell? ⟨gb766, 0, none⟩ = some (.slice none 0 0) := (blk_cell BK766.out 0).trans rfl; have hfz122_0 := blk_frozen BK766.out 0) | (go_at_call 155; (with_reducible refine (impl_Trie_text.calls k1 _ _ t762 0 t767 _ ?side1 ?side2 A106.out).mono ?_); (case side1 => exact ax161); (case side2 => exact ax158); rintro e w123 ⟨rfl, hb⟩; have n0_ := am (Kd.R_below (rX HO764) hb); have n1_ := uZ BK744 hb; have n2_ := am (blk_below (g := gb766) (o := .cells #[.slice Ao120 t762.length co120] 26 (0, 0)) aU hb); have n3_ := uS HB hb; clear HO764; clear BK744; clear BK766; clear HB; have HO764 := n0_; have BK744 := n1_; have BK766 := n2_; have HB := n3_; clear n0_ n1_ n2_ n3_; (try clear hb); have hcz124_0 : w123.cell? ⟨gb744, 0, none⟩ = some (.slice none 0 0) := (blk_cell BK744.out 0).trans rfl; have hfz124_0 := blk_frozen BK744.out 0)))
      refine bodyPost_ret (results_ct rfl _ _ gb744 26 #[.slice none 0 0] (0, 0) _ rfl ax149 Tryz.underlying26 rfl (by kernel_rfl)) rfl ?_
      exact ⟨_, ax21, ax29, aL⟩
    ·replace c105 := Bool.eq_false_iff.mpr c105
     subst c105; rw [if_neg (show ¬ (false = true) by decide)] at H; simp only [Option.some.injEq, Prod.mk.injEq] at H; obtain ⟨rfl, rfl⟩ := H; obtain ⟨Ao125, co125, rfl⟩ := Kd.R_slice HO_6.out
     go_wp2_with (first | (go_at_call 143; (with_reducible refine (impl_ofWords.calls k1 _ _ x6_1 t762 false _ ?side1 ?side2 A104.out).mono ?_); (case side1 => exact ax155); (case side2 => exact ax156); rintro e w126 ⟨v763, rfl, ho0, hb⟩; replace HO_6 := uR HO_6 hb; have HO764 := am (Kd.R_lower ho0 (bS HB)); replace BK744 := ub BK744 hb; replace HB := uS HB hb; (try clear hb ho0)) | ((with_reducible refine gt 9 ?_); (try (refine gate_guard (by rfl) ?_; dsimp only)); refine bx 9 #[.slice none 0 0] 26 ?_; intro gb766 hg w127 hbox hb; replace HO764 := uR HO764 hb; have BK766 := am (hbox); have GW766 := uH hg HB; have GE766 := uH hg HB; replace HB := uS HB hb; obtain ⟨NB744_766, NB766_744, BK744⟩ := uA hg hb BK744; clear hb hbox hg; obtain ⟨Ao128, co128, rfl⟩ := Kd.R_slice HO764.out; obtain ⟨hnb129, hnc129⟩ := nk NB766_744; obtain ⟨hcz130_0, hfz130_0⟩ := bz (.slice none 0 0) BK766; obtain ⟨hcz131_0, hfz131_0⟩ := bz (.slice none 0 0) BK744))
     repeat (go_quiet (fail); try go_wp2_with (first | (go_at_call 143; (with_reducible refine (impl_ofWords.calls k1 _ _ x6_1 t762 false _ ?side1 ?side2 A104.out).mono ?_); (case side1 => exact ax155); (case side2 => exact ax156); rintro e w126 ⟨v763, rfl, ho0, hb⟩; have n0_ := am (Kd.R_below (rX HO_6) hb); have n1_ := am (Kd.R_lower ho0 (bS HB)); have n2_ := uZ BK744 hb; have n3_ := uS HB hb; clear HO_6; clear BK744; clear HB; have HO_6 := n0_; have HO764 := n1_; have BK744 := n2_; have HB := n3_; clear n0_ n1_ n2_ n3_; (try clear hb ho0)) | ((with_reducible refine gt 9 ?_); (try (refine gate_guard (by rfl) ?_; dsimp only)); refine bx 9 #[.slice none 0 0] 26 ?_; intro gb766 hg w127 hbox hb; have n0_ := am (Kd.R_below (rX HO764) hb); have n1_ := uZ BK744 hb; have n2_ := uS HB hb; have n3_ := am (hbox); have n4_ := uH hg HB; have n5_ := uH hg HB; have n6_ := am ((ax159 : gb744 ≠ gb766)); have n7_ := am ((ax160 : gb766 ≠ gb744)); clear HO764; clear BK744; clear HB; have HO764 := n0_; have BK744 := n1_; have HB := n2_; have BK766 := n3_; have GW766 := n4_; have GE766 := n5_; have NB744_766 := n6_; have NB766_744 := n7_; clear n0_ n1_ n2_ n3_ n4_ n5_ n6_ n7_; clear hb hbox hg; obtain ⟨Ao128, co128, rfl⟩ := Kd.R_slice HO764.out; obtain ⟨hnb129, hnc129⟩ := nk NB766_744; have hcz130_0 : w127.cell? ⟨gb766, 0, none⟩ = some (.slice none 0 0) := (blk_cell BK766.out 0).trans rfl; have hfz130_0 := blk_frozen BK766.out 0; have hcz131_0 : w127.cell? ⟨gb744, 0, none⟩ = some (.slice none 0 0) := (blk_cell BK744.out 0).trans rfl; have hfz131_0 := blk_frozen BK744.out 0)))
     refine bodyPost_ret (results_ct rfl _ _ gb744 26 #[.slice none 0 0] (0, 0) _ rfl (by (with_reducible repeat (first | refine blk_drewN ?_ _ | refine blk_drew ?_ | refine blk_alloc ?_ _)); refine blk_put (cs := #[.slice none 0 0]) ?_ 0 _ rfl; (with_reducible repeat (first | refine blk_drewN ?_ _ | refine blk_drew ?_ | refine blk_alloc ?_ _)); refine blk_far ?_ NB744_766.out _; (with_reducible repeat (first | refine blk_drewN ?_ _ | refine blk_drew ?_ | refine blk_alloc ?_ _)); exact BK744.out) Tryz.underlying26 rfl (by kernel_rfl)) rfl ?_
     exact ⟨_, ax21, ax29, aL⟩

end Go.Proofs.YtcplbbflfgckbaaGreatDoor.X
namespace Go.Proofs.YtcplbbflfgckbaaGreatDoor.X
open Go.RowKit Go.Proofs.YtcplbbflfgckbaaGreatDoorW.PrintWords Go.Proofs.YtcplbbflfgckbaaGreatDoorW.PrintLast Go.Proofs.YtcplbbflfgckbaaGreatDoorW.PrintMore
attribute [local go_sem] max2_int min2_int max_two min_two max_three min_three max_four min_four   -- for this text's walks alone
set_option linter.unusedVariables false
set_option linter.unusedSimpArgs false
set_option maxHeartbeats 8000000
set_option maxRecDepth 100000

/-! ### spec_l2Parse: function 158 -/
def spec_l2Parse.l0 : Nat → ByteArray → List ByteArray → ByteArray → ByteArray → Int → Option ((List (S74)) × Bool)
 | 0, _, _, _, _, _ => none
 | k + 1, x0, x4, x5, x6, x7 => if x7 < (x0.size : Int) then (if 0 ≤ x7 then (if (bt x0 x7) = 46 then (if x5.size + x6.size ≤ 9223372036854775807 then (if x4.length < 8796093022208 then (spec_l2Parse.l0 k x0 (x4 ++ [x5 ++ x6]) x5 x6 (wrap64 (x7 + 1))) else (none)) else (none)) else (if (bt x0 x7) = 40 then (if x5.size + x6.size ≤ 9223372036854775807 then (spec_l2Parse.l0 k x0 x4 (x5 ++ x6) (⟨#[]⟩ : ByteArray) (wrap64 (x7 + 1))) else (none)) else (if (bt x0 x7) = 41 then (if x5.toList = ([] : List UInt8) then (spec_l2Parse.l0 k x0 x4 x5 (⟨#[]⟩ : ByteArray) (wrap64 (x7 + 1))) else (if 0 ≤ (wrap64 ((x5.size : Int) - 1)) then (if (wrap64 ((x5.size : Int) - 1)) ≤ (x5.size : Int) then (spec_l2Parse.l0 k x0 x4 (x5.extract 0 ((wrap64 ((x5.size : Int) - 1)) : Int).toNat) (x5.extract ((wrap64 ((x5.size : Int) - 1)) : Int).toNat x5.size) (wrap64 (x7 + 1))) else (none)) else (none))) else (if x7 ≤ (wrap64 (x7 + 1)) then (if (wrap64 (x7 + 1)) ≤ (x0.size : Int) then (spec_l2Parse.l0 k x0 x4 x5 (x0.extract (x7 : Int).toNat ((wrap64 (x7 + 1)) : Int).toNat) (wrap64 (x7 + 1))) else (none)) else (none))))) else (none)) else ((spec_l2Set.f k x4).bind fun bt775 => (if bt775.2 = true then ((spec_l2Of.f k bt775.1).bind fun t779 => ((spec_l2Text.f k t779 0).bind fun t783 => (if t783.toList = x0.toList then (some (t779, true)) else (some (([] : List (S74)), false))))) else (some (([] : List (S74)), false))))
def spec_l2Parse.f (k : Nat) (a0 : ByteArray) : Option ((List (S74)) × Bool) := if (a0.size : Int) > 1443 then (some (([] : List (S74)), false)) else (spec_l2Parse.l0 k a0 (([] : List ByteArray)) (⟨#[]⟩ : ByteArray) (⟨#[]⟩ : ByteArray) 0)
theorem spec_l2Parse.calls (k : Nat) (a0 : ByteArray) (r1 : List (S74)) (r2 : Bool) (w : World) (h : spec_l2Parse.f k a0 = some (r1, r2)) :
  Calls Tryz.prog 158 #[.string a0] w fun e w' => ∃ v0_ : Value, e = .returned (.tuple #[.agg #[v0_], .bool r2]) ∧ Kd.R k74 74 w' w.heap.size (fun _ => True) v0_ r1 ∧ Below w.heap.size w w' := by
 have hu26 := Tryz.underlying26; have HB := am (Below.refl w.heap.size w)
 unfold spec_l2Parse.f at h
 have H := h; clear h; obtain ⟨y769, hy769⟩ : ∃ y_ : List ByteArray, y_ = (([] : List ByteArray)) := ⟨_, rfl⟩
 replace H : (if (a0.size : Int) > 1443 then (some (([] : List (S74)), false)) else (spec_l2Parse.l0 k a0 y769 (⟨#[]⟩ : ByteArray) (⟨#[]⟩ : ByteArray) 0)) = some (r1, r2) := by first | (rw [hy769]; with_reducible exact H) | (have H2_ := (Option.bind_some _ _).symm.trans H; rw [hy769]; with_reducible exact H2_) | (have H2_ := (Option.bind_some _ _).symm.trans H; with_reducible exact H2_) | with_reducible exact H | (rw [hy769]; exact H) | exact H
 have Ny769 := am hy769; clear hy769
 by_cases c2 : (a0.size : Int) > 1443
 ·rw [if_pos c2] at H
  have c2b0 := decide_eq_true c2; have c2b1 : decide (1443 < a0.size) = true := decide_eq_true (by omega); clear c2; simp only [Option.some.injEq, Prod.mk.injEq] at H; obtain ⟨rfl, rfl⟩ := H
  go_enter Tryz.func158, Tryz.ntmps158
  go_wp2_with (first | ((with_reducible refine gt 2 ?_); refine bx 2 #[.slice none 0 0] 26 ?_; intro gb768 hg w3 hbox hb; have BK768 := am (hbox); have GW768 := uG hg HB; have GE768 := uG hg HB; replace HB := uB HB hb; clear hb hbox hg) | ((with_reducible refine gt 11 ?_); refine Kd.R_lit Kd.string _ 9 ?hg (N := 11) ?hd (xs := ([] : List ByteArray)) (inner := []) (ok := fun _ => True) (okp := fun _ => True) ?hr ?hp (fun _ hk => hk) trivial (Below.refl _ _) (Nat.le_refl _) (by simp) ?_; (case hd => rfl); (case hg => rfl); (case hr => exact ax20); (case hp => exact ax31); intro v770 w4 ho5 hb hg_ hnew_; clear hg_ hnew_; (first | rw [← Ny769.out] at ho5 | (simp only [Int.reduceToNat] at ho5; rw [← Ny769.out] at ho5)); have HO771 := am (Kd.R_lower ho5 (bS HB)); replace BK768 := ub BK768 hb; replace HB := uS HB hb; clear hb ho5; obtain ⟨hcz6_0, hfz6_0⟩ := bz (.slice none 0 0) BK768))
  refine bodyPost_ret (results_ct rfl _ _ gb768 26 #[.slice none 0 0] (0, 0) _ rfl ax162 Tryz.underlying26 rfl (by kernel_rfl)) rfl ?_
  exact ⟨_, ax21, ax29, aL⟩
 ·rw [if_neg c2] at H
  have c2b0 := decide_eq_false c2; have c2b1 : decide (1443 < a0.size) = false := decide_eq_false (by omega); clear c2; have H' := am H; clear H
  go_enter Tryz.func158, Tryz.ntmps158
  go_wp2_with (first | ((with_reducible refine gt 2 ?_); refine bx 2 #[.slice none 0 0] 26 ?_; intro gb768 hg w7 hbox hb; have BK768 := am (hbox); have GW768 := uG hg HB; have GE768 := uG hg HB; replace HB := uB HB hb; clear hb hbox hg) | ((with_reducible refine gt 11 ?_); refine Kd.R_lit Kd.string _ 9 ?hg (N := 11) ?hd (xs := ([] : List ByteArray)) (inner := []) (ok := fun _ => True) (okp := fun _ => True) ?hr ?hp (fun _ hk => hk) trivial (Below.refl _ _) (Nat.le_refl _) (by simp) ?_; (case hd => rfl); (case hg => rfl); (case hr => exact ax20); (case hp => exact ax31); intro v770 w8 ho9 hb hg_ hnew_; clear hg_ hnew_; (first | rw [← Ny769.out] at ho9 | (simp only [Int.reduceToNat] at ho9; rw [← Ny769.out] at ho9)); have HO771 := am (Kd.R_lower ho9 (bS HB)); replace BK768 := ub BK768 hb; replace HB := uS HB hb; clear hb ho9))
  go_loopg [4, 5, 6, 7] k (fun kq v4 v5 v6 v7 w' => ∃ (x4_1 : List ByteArray) (x5_1 : ByteArray) (x6_1 : ByteArray) (x7_1 : Int), v5 = .string x5_1 ∧ v6 = .string x6_1 ∧ v7 = .int .i64 x7_1 ∧ Aside0 (spec_l2Parse.l0 kq a0 x4_1 x5_1 x6_1 x7_1 = some (r1, r2)) ∧ Aside0 (kq ≤ k) ∧ Aside0 (Kd.R Kd.string 9 w' w.heap.size (fun _ => True) v4 x4_1) ∧ Aside0 (w'.heap[gb768]? = some (.cells #[(.slice none 0 0)] 26 (0, 0))) ∧ Aside0 (Below w.heap.size w w'))
  case atStart => exact ⟨(y769), ((⟨#[]⟩ : ByteArray)), ((⟨#[]⟩ : ByteArray)), (0), ax18, ax18, ax18, H', ⟨Nat.le_refl _⟩, ⟨aU⟩, ⟨aU⟩, ⟨aL⟩⟩
  case round =>
   clear H'; (try clear c2);(try clear c2b1);(try clear c2b0);(try clear hcz6_0);(try clear hfz6_0); obtain ⟨x4_1, x5_1, x6_1, x7_1, rfl, rfl, rfl, HA, HK1, HO_4, BK768, HB⟩ := hrel
   cases gk with
   | zero => exact absurd HA.out (by simp [spec_l2Parse.l0])
   | succ k1 =>
    have H := HA.out; clear HA; simp only [spec_l2Parse.l0] at H
    by_cases c10 : x7_1 < (a0.size : Int)
    ·rw [if_pos c10] at H
     have c10b0 := decide_eq_true c10; clear c10
     by_cases c11 : 0 ≤ x7_1
     ·rw [if_pos c11] at H
      have c11b0 := decide_eq_true c11; clear c11
      by_cases c13 : (bt a0 x7_1) = 46
      ·rw [if_pos c13] at H
       have c13b0 := beq_iff_eq.mpr c13; have c13b1 := bne_eq_false_iff_eq.mpr c13; clear c13
       by_cases c14 : x5_1.size + x6_1.size ≤ 9223372036854775807
       ·rw [if_pos c14] at H
        have c14b0 := eq_true c14; have c14b1 := decide_eq_true c14
        try have c14b2 : (9223372036854775807 < x5_1.size + x6_1.size) = False := eq_false (Nat.not_lt.2 c14)
        clear c14; obtain ⟨js15, hjs15⟩ : ∃ j_ : ByteArray, (x5_1 ++ x6_1) = j_ := ⟨_, rfl⟩; (first | rw [hjs15] at H | simp only [hjs15] at H)
        by_cases c16 : x4_1.length < 8796093022208
        ·rw [if_pos c16] at H
         have LMc16 := am c16; clear c16; obtain ⟨y772, hy772⟩ : ∃ y_ : List ByteArray, y_ = (x4_1 ++ [js15]) := ⟨_, rfl⟩
         replace H : (spec_l2Parse.l0 k1 a0 y772 x5_1 x6_1 (wrap64 (x7_1 + 1))) = some (r1, r2) := by first | (rw [hy772]; with_reducible exact H) | (have H2_ := (Option.bind_some _ _).symm.trans H; rw [hy772]; with_reducible exact H2_) | (have H2_ := (Option.bind_some _ _).symm.trans H; with_reducible exact H2_) | with_reducible exact H | (rw [hy772]; exact H) | exact H
         have Ny772 := am hy772; clear hy772; have H' := am H; clear H; have p12 : 0 ≤ (x7_1 : Int) := of_decide_eq_true ax23; have q12 : x7_1 < (a0.size : Int) := of_decide_eq_true ax23; have hx12 := bt_at a0 x7_1; replace p12 := eq_true p12; replace q12 := eq_true q12
         go_wp2_with (first | ((with_reducible refine gate_builtin (b := .append) (xs := #[.tmp 32, .tmp 36]) rfl ?_); at_builtin; refine Kd.R_append Kd.string (w0 := w) w.heap.size rfl (.tmp 32) (.tmp 36) 31 9 (.string ⟨#[]⟩) 16 rfl Tryz.underlying31 info9 rfl (by decide) (by omega) u4 x4_1 js15 [.string js15] (fun _ => True) (fun _ => False) rfl rfl ?aP (fun _ hk => hk.elim) ?aF ?aO ?aB ?aS ?aL ?_; (case aP => exact rfl); (case aB => exact aL); (case aF => exact ax27); (case aO => exact (rX HO_4)); (case aS => exact ax28); (case aL => have := LMc16.out; omega); intro v773 w17 ho hb hg hat; rw [← Ny772.out] at ho; have n0_ := am (blk_grown (g := gb768) (o := .cells #[.slice none 0 0] 26 (0, 0)) aU hg (Kd.R_ne HO_4.out BK768.out (by decide))); have n1_ := am (hb); have n2_ := am (ho); clear BK768; clear HB; clear HO_4; have BK768 := n0_; have HB := n1_; have HO774 := n2_; clear n0_ n1_ n2_; clear ho hb hg hat))
         go_roundg k1
         case measure => have := HK1.out; omega
         case rel => exact ⟨(y772), (x5_1), (x6_1), (wrap64 (x7_1 + 1)), ax18, ax18, ax18, H', ⟨by have := HK1.out; omega⟩, ⟨aU⟩, ⟨aU⟩, ⟨aL⟩⟩
        ·rw [if_neg c16] at H
         exact absurd H (by simp)
       ·exact ax3
      ·rw [if_neg c13] at H
       have c13b0 := beq_eq_false_iff_ne.mpr c13; have c13b1 := bne_iff_ne.mpr c13
       by_cases c19 : (bt a0 x7_1) = 40
       ·rw [if_pos c19] at H
        have c19b0 := beq_iff_eq.mpr c19; have c19b1 := bne_eq_false_iff_eq.mpr c19; clear c19
        by_cases c20 : x5_1.size + x6_1.size ≤ 9223372036854775807
        ·rw [if_pos c20] at H
         have c20b0 := eq_true c20; have c20b1 := decide_eq_true c20
         try have c20b2 : (9223372036854775807 < x5_1.size + x6_1.size) = False := eq_false (Nat.not_lt.2 c20)
         clear c20; obtain ⟨js21, hjs21⟩ : ∃ j_ : ByteArray, (x5_1 ++ x6_1) = j_ := ⟨_, rfl⟩; (first | rw [hjs21] at H | simp only [hjs21] at H); have H' := am H; clear H; have p12 : 0 ≤ (x7_1 : Int) := of_decide_eq_true ax23; have q12 : x7_1 < (a0.size : Int) := of_decide_eq_true ax23; have hx12 := bt_at a0 x7_1; replace p12 := eq_true p12; replace q12 := eq_true q12; have p18 : 0 ≤ (x7_1 : Int) := of_decide_eq_true ax23; have q18 : x7_1 < (a0.size : Int) := of_decide_eq_true ax23; have hx18 := bt_at a0 x7_1; replace p18 := eq_true p18; replace q18 := eq_true q18
         go_wp2
         go_roundg k1
         case measure => have := HK1.out; omega
         case rel => exact ⟨(x4_1), (js21), ((⟨#[]⟩ : ByteArray)), (wrap64 (x7_1 + 1)), (by first | rfl | (simp; done) | (simp only [← hjs21] <;> (first | rfl | simp)) | (simp [*]; done)), ax18, ax18, H', ⟨by have := HK1.out; omega⟩, ⟨aU⟩, ⟨aU⟩, ⟨aL⟩⟩
        ·rw [if_neg c20] at H
         exact absurd H (by simp)
       ·rw [if_neg c19] at H
        have c19b0 := beq_eq_false_iff_ne.mpr c19; have c19b1 := bne_iff_ne.mpr c19
        by_cases c23 : (bt a0 x7_1) = 41
        ·rw [if_pos c23] at H
         have c23b0 := beq_iff_eq.mpr c23; have c23b1 := bne_eq_false_iff_eq.mpr c23; clear c23
         by_cases c24 : x5_1.toList = ([] : List UInt8)
         ·rw [if_pos c24] at H
          have c24b0 := beq_iff_eq.mpr c24; have c24b1 := bne_eq_false_iff_eq.mpr c24; clear c24; have H' := am H; clear H; have p12 : 0 ≤ (x7_1 : Int) := of_decide_eq_true ax23; have q12 : x7_1 < (a0.size : Int) := of_decide_eq_true ax23; have hx12 := bt_at a0 x7_1; replace p12 := eq_true p12; replace q12 := eq_true q12; have p18 : 0 ≤ (x7_1 : Int) := of_decide_eq_true ax23; have q18 : x7_1 < (a0.size : Int) := of_decide_eq_true ax23; have hx18 := bt_at a0 x7_1; replace p18 := eq_true p18; replace q18 := eq_true q18; have p22 : 0 ≤ (x7_1 : Int) := of_decide_eq_true ax23; have q22 : x7_1 < (a0.size : Int) := of_decide_eq_true ax23; have hx22 := bt_at a0 x7_1; replace p22 := eq_true p22; replace q22 := eq_true q22
          go_wp2
          go_roundg k1
          case measure => have := HK1.out; omega
          case rel => exact ⟨(x4_1), (x5_1), ((⟨#[]⟩ : ByteArray)), (wrap64 (x7_1 + 1)), ax18, ax18, ax18, H', ⟨by have := HK1.out; omega⟩, ⟨aU⟩, ⟨aU⟩, ⟨aL⟩⟩
         ·rw [if_neg c24] at H
          have c24b0 := beq_eq_false_iff_ne.mpr c24; have c24b1 := bne_iff_ne.mpr c24; obtain ⟨ji25, hji25⟩ : ∃ j_ : Int, (wrap64 ((x5_1.size : Int) - 1)) = j_ := ⟨_, rfl⟩; (first | rw [hji25] at H | simp only [hji25] at H); have hji25w : (IntKind.i64.wrap ((x5_1.size : Int) - 1)) = ji25 := (i64_w _).trans hji25
          by_cases c26 : 0 ≤ (ji25)
          ·rw [if_pos c26] at H
           have c26b0 := eq_true c26; have c26b1 := decide_eq_true c26; clear c26
           by_cases c27 : (ji25) ≤ (x5_1.size : Int)
           ·rw [if_pos c27] at H
            have c27b0 := eq_true c27; have c27b1 := decide_eq_true c27; clear c27; obtain ⟨js28, hjs28⟩ : ∃ j_ : ByteArray, (x5_1.extract ((ji25) : Int).toNat x5_1.size) = j_ := ⟨_, rfl⟩; (first | rw [hjs28] at H | simp only [hjs28] at H); have c29b0 := eq_true (of_decide_eq_true ax23 : 0 ≤ (ji25)); have c30b0 := eq_true (of_decide_eq_true ax23 : (ji25) ≤ (x5_1.size : Int)); obtain ⟨js31, hjs31⟩ : ∃ j_ : ByteArray, (x5_1.extract 0 ((ji25) : Int).toNat) = j_ := ⟨_, rfl⟩; (first | rw [hjs31] at H | simp only [hjs31] at H); have H' := am H; clear H; have p12 : 0 ≤ (x7_1 : Int) := of_decide_eq_true ax23; have q12 : x7_1 < (a0.size : Int) := of_decide_eq_true ax23; have hx12 := bt_at a0 x7_1; replace p12 := eq_true p12; replace q12 := eq_true q12; have p18 : 0 ≤ (x7_1 : Int) := of_decide_eq_true ax23; have q18 : x7_1 < (a0.size : Int) := of_decide_eq_true ax23; have hx18 := bt_at a0 x7_1; replace p18 := eq_true p18; replace q18 := eq_true q18; have p22 : 0 ≤ (x7_1 : Int) := of_decide_eq_true ax23; have q22 : x7_1 < (a0.size : Int) := of_decide_eq_true ax23; have hx22 := bt_at a0 x7_1; replace p22 := eq_true p22; replace q22 := eq_true q22
            go_wp2
            go_roundg k1
            case measure => have := HK1.out; omega
            case rel => exact ⟨(x4_1), (js31), (js28), (wrap64 (x7_1 + 1)), (by first | rfl | (simp; done) | (simp only [← hjs31] <;> (first | rfl | simp)) | (simp [*]; done)), (by first | rfl | (simp; done) | (simp only [← hjs28] <;> (first | rfl | simp)) | (simp [*]; done)), ax18, H', ⟨by have := HK1.out; omega⟩, ⟨aU⟩, ⟨aU⟩, ⟨aL⟩⟩
           ·rw [if_neg c27] at H
            exact absurd H (by simp)
          ·exact ax9
        ·rw [if_neg c23] at H
         have c23b0 := beq_eq_false_iff_ne.mpr c23; have c23b1 := bne_iff_ne.mpr c23; have c32b0 := eq_true (of_decide_eq_true ax23 : 0 ≤ x7_1)
         by_cases c33 : x7_1 ≤ (wrap64 (x7_1 + 1))
         ·rw [if_pos c33] at H
          have c33b0 := eq_true c33; have c33b1 := decide_eq_true c33
          by_cases c34 : (wrap64 (x7_1 + 1)) ≤ (a0.size : Int)
          ·rw [if_pos c34] at H
           have c34b0 := eq_true c34; have c34b1 := decide_eq_true c34; clear c34; obtain ⟨js35, hjs35⟩ : ∃ j_ : ByteArray, (a0.extract (x7_1 : Int).toNat ((wrap64 (x7_1 + 1)) : Int).toNat) = j_ := ⟨_, rfl⟩; (first | rw [hjs35] at H | simp only [hjs35] at H); have H' := am H; clear H; have p12 : 0 ≤ (x7_1 : Int) := of_decide_eq_true ax23; have q12 : x7_1 < (a0.size : Int) := of_decide_eq_true ax23; have hx12 := bt_at a0 x7_1; replace p12 := eq_true p12; replace q12 := eq_true q12; have p18 : 0 ≤ (x7_1 : Int) := of_decide_eq_true ax23; have q18 : x7_1 < (a0.size : Int) := of_decide_eq_true ax23; have hx18 := bt_at a0 x7_1; replace p18 := eq_true p18; replace q18 := eq_true q18; have p22 : 0 ≤ (x7_1 : Int) := of_decide_eq_true ax23; have q22 : x7_1 < (a0.size : Int) := of_decide_eq_true ax23; have hx22 := bt_at a0 x7_1; replace p22 := eq_true p22; replace q22 := eq_true q22
           go_wp2
           go_roundg k1
           case measure => have := HK1.out; omega
           case rel => exact ⟨(x4_1), (x5_1), (js35), (wrap64 (x7_1 + 1)), ax18, (by first | rfl | (simp; done) | (simp only [← hjs35] <;> (first | rfl | simp)) | (simp [*]; done)), ax18, H', ⟨by have := HK1.out; omega⟩, ⟨aU⟩, ⟨aU⟩, ⟨aL⟩⟩
          ·rw [if_neg c34] at H
           exact absurd H (by simp)
         ·exact ax14
     ·exact ax1
    ·rw [if_neg c10] at H
     have c10b0 := decide_eq_false c10; clear c10; obtain ⟨⟨t775, t778⟩, A36, H⟩ := bs H
     by_cases c37 : t778 = true
     ·subst c37
      rw [if_pos rfl] at H; obtain ⟨t779, A38, H⟩ := bs H; obtain ⟨t783, A39, H⟩ := bs H
      by_cases c40 : t783.toList = a0.toList
      ·rw [if_pos c40] at H
       have c40b0 := beq_iff_eq.mpr c40; have c40b1 := bne_eq_false_iff_eq.mpr c40; clear c40; simp only [Option.some.injEq, Prod.mk.injEq] at H; obtain ⟨rfl, rfl⟩ := H; obtain ⟨Ao41, co41, rfl⟩ := Kd.R_slice HO_4.out
       go_wp2_with (first | ((with_reducible refine gd 65 144 ?_); refine gc 65 Tryz.func144 #[.slice Ao41 x4_1.length co41] (spec_l2Set.calls k1 _ _ x4_1 t775 true _ (rd2 HO_4) (rl HO_4) A36.out) ?_; rintro e w42 ⟨v776, rfl, ho0, hb⟩; refine ⟨_, rfl, ?_⟩; have HO777 := am (Kd.V_lower (Kd.V_mono (ok' := fun k_ => some k_ ≠ (.slice Ao41 x4_1.length co41 : Value).ownBlock ∧ k_ ≠ gb768) ho0 (fun k_ hk_ => ⟨(Kd.fresh' (Kd.R_lt (rX HO_4)) k_ hk_), (Kd.freshB (g := gb768) (o := .cells #[.slice none 0 0] 26 (0, 0)) aU k_ hk_)⟩)) (bS HB)); replace HO_4 := uR HO_4 hb; replace BK768 := ub BK768 hb; replace HB := uS HB hb; (try clear hb ho0); obtain ⟨Ao43, co43, eo43⟩ := Kd.V_slice HO777.out; subst eo43) | ((with_reducible refine gd 72 123 ?_); refine gc 72 Tryz.func123 #[.slice Ao43 t775.length co43] (spec_l2Of.calls k1 _ _ t775 t779 _ ax163 ((Kd.V_reads' HO777.out).2.1) A38.out) ?_; rintro e w44 ⟨v780, rfl, ho0, hb⟩; refine ⟨_, rfl, ?_⟩; replace HO_4 := uR HO_4 hb; replace HO777 := am (Kd.V_elder' ax164 (Kd.R_base ho0) hb); have HO781 := am (Kd.R_lower ho0 (bS HB)); replace BK768 := ub BK768 hb; replace HB := uS HB hb; (try clear hb ho0)) | ((with_reducible refine gt 10 ?_); refine bx 10 #[.slice none 0 0] 26 ?_; intro gb782 hg w45 hbox hb; replace HO781 := uR HO781 hb; have BK782 := am (hbox); have GW782 := uH hg HB; have GE782 := uH hg HB; replace HB := uS HB hb; obtain ⟨NB768_782, NB782_768, BK768⟩ := uA hg hb BK768; clear hb hbox hg; obtain ⟨Ao46, co46, rfl⟩ := Kd.R_slice HO781.out; obtain ⟨hnb47, hnc47⟩ := nk NB782_768; obtain ⟨hcz48_0, hfz48_0⟩ := bz (.slice none 0 0) BK782) | ((with_reducible refine gd 74 156 ?_); refine gc 74 Tryz.func156 #[.agg #[.slice Ao46 t779.length co46], .int .i64 0] (spec_l2Text.calls k1 _ _ t779 0 t783 _ (rd2 HO781) (rl HO781) A39.out) ?_; rintro e w49 ⟨rfl, hb⟩; refine ⟨_, rfl, ?_⟩; replace HO781 := uX HO781 hb; replace BK768 := uZ BK768 hb; replace BK782 := am (blk_below (g := gb782) (o := .cells #[.slice Ao46 t779.length co46] 26 (0, 0)) aU hb); replace HB := uS HB hb; (try clear hb); obtain ⟨hcz50_0, hfz50_0⟩ := bz (.slice Ao46 t779.length co46) BK782; obtain ⟨hcz51_0, hfz51_0⟩ := bz (.slice none 0 0) BK768))
       refine bodyPost_ret (results_ct rfl _ _ gb768 26 #[.slice Ao46 t779.length co46] (0, 0) _ rfl ax162 Tryz.underlying26 rfl (by kernel_rfl)) rfl ?_
       exact ⟨_, ax21, aU, aL⟩
      ·rw [if_neg c40] at H
       have c40b0 := beq_eq_false_iff_ne.mpr c40; have c40b1 := bne_iff_ne.mpr c40; simp only [Option.some.injEq, Prod.mk.injEq] at H; obtain ⟨rfl, rfl⟩ := H; obtain ⟨Ao52, co52, rfl⟩ := Kd.R_slice HO_4.out
       go_wp2_with (first | ((with_reducible refine gd 65 144 ?_); refine gc 65 Tryz.func144 #[.slice Ao52 x4_1.length co52] (spec_l2Set.calls k1 _ _ x4_1 t775 true _ (rd2 HO_4) (rl HO_4) A36.out) ?_; rintro e w53 ⟨v776, rfl, ho0, hb⟩; refine ⟨_, rfl, ?_⟩; have HO777 := am (Kd.V_lower (Kd.V_mono (ok' := fun k_ => some k_ ≠ (.slice Ao52 x4_1.length co52 : Value).ownBlock ∧ k_ ≠ gb768) ho0 (fun k_ hk_ => ⟨(Kd.fresh' (Kd.R_lt (rX HO_4)) k_ hk_), (Kd.freshB (g := gb768) (o := .cells #[.slice none 0 0] 26 (0, 0)) aU k_ hk_)⟩)) (bS HB)); replace HO_4 := uR HO_4 hb; replace BK768 := ub BK768 hb; replace HB := uS HB hb; (try clear hb ho0); obtain ⟨Ao54, co54, eo54⟩ := Kd.V_slice HO777.out; subst eo54) | ((with_reducible refine gd 72 123 ?_); refine gc 72 Tryz.func123 #[.slice Ao54 t775.length co54] (spec_l2Of.calls k1 _ _ t775 t779 _ ax163 ((Kd.V_reads' HO777.out).2.1) A38.out) ?_; rintro e w55 ⟨v780, rfl, ho0, hb⟩; refine ⟨_, rfl, ?_⟩; replace HO_4 := uR HO_4 hb; replace HO777 := am (Kd.V_elder' ax164 (Kd.R_base ho0) hb); have HO781 := am (Kd.R_lower ho0 (bS HB)); replace BK768 := ub BK768 hb; replace HB := uS HB hb; (try clear hb ho0)) | ((with_reducible refine gt 10 ?_); refine bx 10 #[.slice none 0 0] 26 ?_; intro gb782 hg w56 hbox hb; replace HO781 := uR HO781 hb; have BK782 := am (hbox); have GW782 := uH hg HB; have GE782 := uH hg HB; replace HB := uS HB hb; obtain ⟨NB768_782, NB782_768, BK768⟩ := uA hg hb BK768; clear hb hbox hg; obtain ⟨Ao57, co57, rfl⟩ := Kd.R_slice HO781.out; obtain ⟨hnb58, hnc58⟩ := nk NB782_768; obtain ⟨hcz59_0, hfz59_0⟩ := bz (.slice none 0 0) BK782) | ((with_reducible refine gd 74 156 ?_); refine gc 74 Tryz.func156 #[.agg #[.slice Ao57 t779.length co57], .int .i64 0] (spec_l2Text.calls k1 _ _ t779 0 t783 _ (rd2 HO781) (rl HO781) A39.out) ?_; rintro e w60 ⟨rfl, hb⟩; refine ⟨_, rfl, ?_⟩; replace HO781 := uX HO781 hb; replace BK768 := uZ BK768 hb; replace BK782 := am (blk_below (g := gb782) (o := .cells #[.slice Ao57 t779.length co57] 26 (0, 0)) aU hb); replace HB := uS HB hb; (try clear hb); obtain ⟨hcz61_0, hfz61_0⟩ := bz (.slice none 0 0) BK768))
       refine bodyPost_ret (results_ct rfl _ _ gb768 26 #[.slice none 0 0] (0, 0) _ rfl ax162 Tryz.underlying26 rfl (by kernel_rfl)) rfl ?_
       exact ⟨_, ax21, ax29, aL⟩
     ·replace c37 := Bool.eq_false_iff.mpr c37
      subst c37; rw [if_neg (show ¬ (false = true) by decide)] at H; simp only [Option.some.injEq, Prod.mk.injEq] at H; obtain ⟨rfl, rfl⟩ := H; obtain ⟨Ao62, co62, rfl⟩ := Kd.R_slice HO_4.out
      go_wp2_with (first | ((with_reducible refine gd 65 144 ?_); refine gc 65 Tryz.func144 #[.slice Ao62 x4_1.length co62] (spec_l2Set.calls k1 _ _ x4_1 t775 false _ (rd2 HO_4) (rl HO_4) A36.out) ?_; rintro e w63 ⟨v776, rfl, ho0, hb⟩; refine ⟨_, rfl, ?_⟩; have HO777 := am (Kd.V_lower (Kd.V_mono (ok' := fun k_ => some k_ ≠ (.slice Ao62 x4_1.length co62 : Value).ownBlock ∧ k_ ≠ gb768) ho0 (fun k_ hk_ => ⟨(Kd.fresh' (Kd.R_lt (rX HO_4)) k_ hk_), (Kd.freshB (g := gb768) (o := .cells #[.slice none 0 0] 26 (0, 0)) aU k_ hk_)⟩)) (bS HB)); replace HO_4 := uR HO_4 hb; replace BK768 := ub BK768 hb; replace HB := uS HB hb; (try clear hb ho0); obtain ⟨hcz64_0, hfz64_0⟩ := bz (.slice none 0 0) BK768))
      refine bodyPost_ret (results_ct rfl _ _ gb768 26 #[.slice none 0 0] (0, 0) _ rfl ax162 Tryz.underlying26 rfl (by kernel_rfl)) rfl ?_
      exact ⟨_, ax21, ax29, aL⟩

/-! ### spec_ParseTrie: function 68 -/
def spec_ParseTrie.f (k : Nat) (a0 : ByteArray) : Option ((List (S74)) × Bool) := (spec_l2Parse.f k a0).bind fun bt785 => (some (bt785.1, bt785.2))
theorem spec_ParseTrie.calls (k : Nat) (a0 : ByteArray) (r1 : List (S74)) (r2 : Bool) (w : World) (h : spec_ParseTrie.f k a0 = some (r1, r2)) :
  Calls Tryz.prog 68 #[.string a0] w fun e w' => ∃ v0_ : Value, e = .returned (.tuple #[.agg #[v0_], .bool r2]) ∧ Kd.R k74 74 w' w.heap.size (fun _ => True) v0_ r1 ∧ Below w.heap.size w w' := by
 have hu26 := Tryz.underlying26; have HB := am (Below.refl w.heap.size w)
 unfold spec_ParseTrie.f at h
 have H := h; clear h; obtain ⟨⟨t785, t788⟩, A2, H⟩ := bs H; simp only [Option.some.injEq, Prod.mk.injEq] at H; obtain ⟨rfl, rfl⟩ := H
 go_enter Tryz.func68, Tryz.ntmps68
 go_wp2_with (first | ((with_reducible refine gt 2 ?_); refine bx 2 #[.slice none 0 0] 26 ?_; intro gb784 hg w3 hbox hb; have BK784 := am (hbox); have GW784 := uG hg HB; have GE784 := uG hg HB; replace HB := uB HB hb; clear hb hbox hg) | ((with_reducible refine gd 5 158 ?_); refine gc 5 Tryz.func158 #[.string a0] (spec_l2Parse.calls k a0 t785 t788 _ A2.out) ?_; rintro e w4 ⟨v786, rfl, ho0, hb⟩; refine ⟨_, rfl, ?_⟩; have HO787 := am (Kd.R_lower ho0 (bS HB)); replace BK784 := ub BK784 hb; replace HB := uS HB hb; (try clear hb ho0); obtain ⟨Ao5, co5, rfl⟩ := Kd.R_slice HO787.out; obtain ⟨hcz6_0, hfz6_0⟩ := bz (.slice none 0 0) BK784))
 refine bodyPost_ret (results_ct rfl _ _ gb784 26 #[.slice Ao5 t785.length co5] (0, 0) _ rfl (by (with_reducible repeat (first | refine blk_drewN ?_ _ | refine blk_drew ?_ | refine blk_alloc ?_ _)); refine blk_put (cs := #[.slice none 0 0]) ?_ 0 _ rfl; (with_reducible repeat (first | refine blk_drewN ?_ _ | refine blk_drew ?_ | refine blk_alloc ?_ _)); exact BK784.out) Tryz.underlying26 rfl (by kernel_rfl)) rfl ?_
 exact ⟨_, ax21, aU, aL⟩

end Go.Proofs.YtcplbbflfgckbaaGreatDoor.X

-- By gen.py (the session's own program over the kit's printer): functions of the program, each with its contract. Lean checks it.
import Derived.Test.YtcplbbflfgckbaaGreatDoorProg
import Derived.Below
import Derived.Deep.Draws
import Derived.Deep.AppendLies
import Derived.Maps.AppendAt
import Derived.OwnWalk
import Derived.Laws.BytesArg
import Derived.Laws.MakeOwn
import Derived.Laws.OwnMore
import Derived.Deep.OwnRows
import Derived.Tactics
import Derived.Lib.ConvBytes
import Derived.Laws.Slices
import Derived.WalkKit
import Derived.KernelRfl
import Derived.RowKit3
import Derived.Deep.LoopGhost
import Derived.Deep.QuietTactic
import Derived.BigQuiet
import Derived.WideLaws
import Derived.Deep.DeepCutAuto
import Derived.Deep.CutBlock
import Derived.Deep.RegionHeld3
import Derived.Laws.Rows
import Derived.Lib.AppendStr
import Derived.ArgAppend
import Derived.Laws.IdiomCopy
import Derived.OrdersHeld
import Derived.Laws.BitsLemmas
import Derived.RowKit
import Derived.Test.YtcplbbflfgckbaaGreatDoorShelf
import Derived.Test.YtcplbbflfgckbaaGreatDoorK
import Derived.Test.YtcplbbflfgckbaaGreatDoorBase
import Derived.Test.YtcplbbflfgckbaaGreatDoorMaps
import Derived.Test.YtcplbbflfgckbaaGreatDoorRg
import Derived.Test.YtcplbbflfgckbaaGreatDoorA
namespace Go.Proofs.YtcplbbflfgckbaaGreatDoor.X
open Go.RowKit Go.Proofs.YtcplbbflfgckbaaGreatDoorW.PrintWords Go.Proofs.YtcplbbflfgckbaaGreatDoorW.PrintLast Go.Proofs.YtcplbbflfgckbaaGreatDoorW.PrintMore
attribute [local go_sem] max2_int min2_int max_two min_two max_three min_three max_four min_four   -- for this text's walks alone
set_option linter.unusedVariables false
set_option linter.unusedSimpArgs false

def errW : Option Int → Value
 | none => .nilIface
 | some c => .iface 0 (.int .i64 c)
theorem errW_none : errW none = .nilIface := rfl
theorem errW_some (c : Int) : errW (some c) = .iface 0 (.int .i64 c) := rfl

theorem info3 : (Tryz.prog.info? 3).map (fun i => (i.zero, i.size, i.bytes)) = some (some (.int .i64 0), 1, 8) := by kernel_rfl
theorem info9 : (Tryz.prog.info? 9).map (fun i => (i.zero, i.size, i.bytes)) = some (some (.string ⟨#[]⟩), 1, 16) := by kernel_rfl
theorem info74 : (Tryz.prog.info? 74).map (fun i => (i.zero, i.size, i.bytes)) = some (some (.agg #[(.int .i64 0), (.int .i64 0), (.bool false)]), 3, 24) := by kernel_rfl
-- the values' own types
/-! #### struct type 74 -/
structure S74 where
 f0 : Int
 f1 : Int
 f2 : Bool
def z74 : S74 := ⟨(0 : Int), (0 : Int), false⟩
def k74 : Kd S74 := Kd.iso (Kd.pair (Kd.int .i64) (Kd.pair (Kd.int .i64) Kd.bool)) (fun x : S74 => (x.f0, x.f1, x.f2))
theorem k74_open {w : World} {x : S74} {cs : List Value} (h : k74.K w x cs) : cs = [.int .i64 x.f0, .int .i64 x.f1, .bool x.f2] := by
 obtain ⟨_, _, rfl, rfl, ⟨_, _, rfl, rfl, rfl⟩⟩ := h
 exact rfl
theorem k74_openM {w : World} {base : Nat} {ok : Nat → Prop} {x : S74} {cs : List Value} (h : k74.M w base ok x cs) : cs = [.int .i64 x.f0, .int .i64 x.f1, .bool x.f2] := by
 obtain ⟨_, _, rfl, rfl, ⟨_, _, rfl, rfl, rfl⟩⟩ := h
 exact rfl
theorem k74_mkM (w : World) (base : Nat) (ok : Nat → Prop) (x : S74)  : k74.M w base ok x [.int .i64 x.f0, .int .i64 x.f1, .bool x.f2] := ⟨[.int .i64 x.f0], [.int .i64 x.f1, .bool x.f2], rfl, rfl, ⟨[.int .i64 x.f1], [.bool x.f2], rfl, rfl, rfl⟩⟩
def rd_T74 (xs : List S74) (i : Int) : S74 := xs.getD i.toNat z74
theorem at_T74 {w : World} {A : Option Addr} {n : Nat} {xs : List S74} (h : Kd.C k74 w A n xs) (i : Int) (h0 : 0 ≤ i) (h1 : i < n) : ∃ ad , A = some ad ∧ w.cell? (ad.add (i.toNat * 3)) = some (.int .i64 (rd_T74 xs i).f0) ∧ w.cell? ⟨(ad.add (i.toNat * 3)).block, (ad.add (i.toNat * 3)).off + 1, none⟩ = some (.int .i64 (rd_T74 xs i).f1) ∧ w.cell? ⟨(ad.add (i.toNat * 3)).block, (ad.add (i.toNat * 3)).off + 2, none⟩ = some (.bool (rd_T74 xs i).f2) := by
 obtain ⟨ad, c, e, _, hK, hc0⟩ := Kd.C_get h z74 i h0 h1; have hc : ∀ j u, c[j]? = some u → w.cell? (ad.add (i.toNat * 3 + j)) = some u := hc0; obtain rfl := k74_open hK
 exact ⟨ad, e, hc 0 _ rfl, (by rw [← add_field _ _ 1 (by omega)]; exact hc 1 _ rfl), (by rw [← add_field _ _ 2 (by omega)]; exact hc 2 _ rfl)⟩

end Go.Proofs.YtcplbbflfgckbaaGreatDoor.X
namespace Go.Proofs.YtcplbbflfgckbaaGreatDoor.X
open Go.RowKit Go.Proofs.YtcplbbflfgckbaaGreatDoorW.PrintWords Go.Proofs.YtcplbbflfgckbaaGreatDoorW.PrintLast Go.Proofs.YtcplbbflfgckbaaGreatDoorW.PrintMore
attribute [local go_sem] max2_int min2_int max_two min_two max_three min_three max_four min_four   -- for this text's walks alone
set_option linter.unusedVariables false
set_option linter.unusedSimpArgs false
set_option maxHeartbeats 8000000
set_option maxRecDepth 100000

/-! ### impl_in: function 129 -/
def impl_in.f (a0 : Int) (a1 : Int) (a2 : Int) : Option (Bool) := if a0 ≥ a1 then (some (decide (a0 ≤ a2))) else (some false)
theorem impl_in.calls (a0 : Int) (a1 : Int) (a2 : Int) (r : Bool) (w : World) (h : impl_in.f a0 a1 a2 = some r) :
  Calls Tryz.prog 129 #[.int .i64 a0, .int .i64 a1, .int .i64 a2] w fun e w' => e = .returned (.bool r) ∧ Drawn0 w w' := by
 unfold impl_in.f at h
 have H := h; clear h
 by_cases c4 : a0 ≥ a1
 ·rw [if_pos c4] at H
  have c4b0 := decide_eq_true c4; clear c4; obtain rfl := Option.some.inj H
  go_enter Tryz.func129, Tryz.ntmps129
  go_wp2
  go_ret
  exact ⟨ax18, ax19⟩
 ·rw [if_neg c4] at H
  have c4b0 := decide_eq_false c4; clear c4; obtain rfl := Option.some.inj H
  go_enter Tryz.func129, Tryz.ntmps129
  go_wp2
  go_ret
  exact ⟨ax18, ax19⟩

/-! ### impl_letter: function 188 -/
def impl_letter.f (a0 : Int) : Option (ByteArray) := some (strOfNums (([(wrap64 (97 + a0)) % 256] : List Int)))
theorem impl_letter.calls (a0 : Int) (r : ByteArray) (w : World) (h : impl_letter.f a0 = some r) :
  Calls Tryz.prog 188 #[.int .i64 a0] w fun e w' => e = .returned (.string r) ∧ Below w.heap.size w w' := by
 have HB := am (Below.refl w.heap.size w)
 unfold impl_letter.f at h
 have H := h; clear h; obtain ⟨y101, hy101⟩ : ∃ y_ : List Int, y_ = (([(wrap64 (97 + a0)) % 256] : List Int)) := ⟨_, rfl⟩
 replace H : (some (strOfNums y101)) = some r := by first | (rw [hy101]; with_reducible exact H) | (have H2_ := (Option.bind_some _ _).symm.trans H; rw [hy101]; with_reducible exact H2_) | (have H2_ := (Option.bind_some _ _).symm.trans H; with_reducible exact H2_) | with_reducible exact H | (rw [hy101]; exact H) | exact H
 have Ny101 := am hy101; clear hy101; obtain rfl := Option.some.inj H
 go_enter Tryz.func188, Tryz.ntmps188
 go_wp2_with (first | ((with_reducible refine gt 6 ?_); refine Kd.R_lit (Kd.int .u8) _ 5 ?hg (N := 6) ?hd (xs := ([(wrap64 (97 + a0)) % 256] : List Int)) (inner := [.int .u8 ((wrap64 (97 + a0)) % 256)]) (ok := fun _ => True) (okp := fun _ => True) ?hr ?hp (fun _ hk => hk) trivial (Below.refl _ _) (Nat.le_refl _) (by simp) ?_; (case hd => rfl); (case hg => rfl); (case hr => exact ax20); (case hp => exact (Reps.one (show Kd.M (Kd.int .u8) _ _ _ ((wrap64 (97 + a0)) % 256) [.int .u8 ((wrap64 (97 + a0)) % 256)] from rfl) (Reps.none _ _))); intro v102 w2 ho3 hb hg_ hnew_; clear hg_ hnew_; (first | rw [← Ny101.out] at ho3 | (simp only [Int.reduceToNat] at ho3; rw [← Ny101.out] at ho3)); have HO103 := uL ho3 HB; replace HB := uB HB hb; clear hb ho3; have hcv4 := own_string (P := Tryz.prog) Tryz.underlying22 Tryz.underlying5 Tryz.underlying9 (Kd.own_of_R HO103.out)))
 go_ret
 exact ⟨ax21, aL⟩

/-! ### impl_Trie_prefixes: function 164 -/
def impl_Trie_prefixes.l0 : Nat → List ByteArray → List (S74) → Int → Int → Option (List ByteArray × Bool)
 | 0, _, _, _, _ => none
 | k + 1, x4, x15, x16, x17 => if x17 < x16 then (if 0 ≤ x17 then (if x17 < (x15.length : Int) then ((impl_in.f ((rd_T74 x15 x17).f1) 0 x17).bind fun t115 => (if t115 = true then ((impl_in.f ((rd_T74 x15 x17).f0) 0 25).bind fun t116 => (if t116 = true then (if 0 ≤ ((rd_T74 x15 x17).f1) then (if ((rd_T74 x15 x17).f1) < (x4.length : Int) then ((impl_letter.f ((rd_T74 x15 x17).f0)).bind fun t118 => (if (rdOf ByteArray.empty x4 ((rd_T74 x15 x17).f1)).size + t118.size ≤ 9223372036854775807 then (if x4.length < 8796093022208 then (impl_Trie_prefixes.l0 k (x4 ++ [(rdOf ByteArray.empty x4 ((rd_T74 x15 x17).f1)) ++ t118]) x15 x16 (wrap64 (x17 + 1))) else (none)) else (none))) else (none)) else (none)) else (some (([] : List ByteArray), false)))) else (some (([] : List ByteArray), false)))) else (none)) else (none)) else (some (x4, true))
def impl_Trie_prefixes.f (k : Nat) (l0_0 : List (S74)) : Option (List ByteArray × Bool) := (impl_in.f (l0_0.length : Int) 1 481).bind fun t108 => (if t108 = true then (if 1 ≤ (l0_0.length : Int) then ((some (l0_0.drop 1 : List (S74))).bind fun y109 => (impl_Trie_prefixes.l0 k (([(⟨#[]⟩ : ByteArray)] : List ByteArray)) y109 (y109.length : Int) 0)) else (none)) else (some (([] : List ByteArray), false)))
def impl_Trie_prefixes.T9 : Bool × List (List Nat × List Nat) := (true, [([], []), ([], []), ([], []), ([2], [2]), ([1, 3], [1, 3]), ([4], [4]), ([], []), ([6], [6]), ([7], [7]), ([5, 8], [5, 8]), ([9], [9]), ([0, 10, 8], [0, 10]), ([11, 11, 0, 1, 2, 3, 4, 5, 6, 7, 8, 9, 10, 11], [0, 1, 11])])
def impl_Trie_prefixes.B9 : List Nat := [0, 0, 0, 4, 14, 30, 0, 64, 192, 510, 1022, 2047, 4095]
theorem impl_Trie_prefixes.tab9 : rtab .any (opsOf Tryz.f164 9) = impl_Trie_prefixes.T9 := by kernel_rfl
theorem impl_Trie_prefixes.bits9 : waitsOk impl_Trie_prefixes.T9.2 impl_Trie_prefixes.B9 = true := by kernel_rfl
theorem impl_Trie_prefixes.calls (k : Nat) (A0_0 : Option Addr) (c0_0 : Nat) (l0_0 : List (S74)) (r1 : List ByteArray) (r2 : Bool) (w : World) (hr0_0 : Kd.C k74 w A0_0 l0_0.length l0_0) (hc0_0 : l0_0.length ≤ c0_0) (h : impl_Trie_prefixes.f k l0_0 = some (r1, r2)) :
  Calls Tryz.prog 164 #[.agg #[.slice A0_0 l0_0.length c0_0]] w fun e w' => ∃ v0_ : Value, e = .returned (.tuple #[v0_, .bool r2]) ∧ Kd.R Kd.string 9 w' w.heap.size (fun _ => True) v0_ r1 ∧ Below w.heap.size w w' := by
 have hu26 := Tryz.underlying26; have hu74 := Tryz.underlying74; have HR0_0 := am hr0_0; have HC0_0 := am hc0_0; clear hr0_0 hc0_0; have HB := am (Below.refl w.heap.size w)
 unfold impl_Trie_prefixes.f at h
 have H := h; clear h; obtain ⟨y105, hy105⟩ : ∃ y_ : List ByteArray, y_ = (([(⟨#[]⟩ : ByteArray)] : List ByteArray)) := ⟨_, rfl⟩
 replace H : ((impl_in.f (l0_0.length : Int) 1 481).bind fun t108 => (if t108 = true then (if 1 ≤ (l0_0.length : Int) then ((some (l0_0.drop 1 : List (S74))).bind fun y109 => (impl_Trie_prefixes.l0 k y105 y109 (y109.length : Int) 0)) else (none)) else (some (([] : List ByteArray), false)))) = some (r1, r2) := by first | (rw [hy105]; with_reducible exact H) | (have H2_ := (Option.bind_some _ _).symm.trans H; rw [hy105]; with_reducible exact H2_) | (have H2_ := (Option.bind_some _ _).symm.trans H; with_reducible exact H2_) | with_reducible exact H | (rw [hy105]; exact H) | exact H
 have Ny105 := am hy105; clear hy105; obtain ⟨t108, A2, H⟩ := bs H
 by_cases c3 : t108 = true
 ·subst c3
  rw [if_pos rfl] at H
  by_cases c4 : 1 ≤ (l0_0.length : Int)
  ·rw [if_pos c4] at H
   have c4b0 := eq_true c4; have c4b1 := decide_eq_true c4; clear c4; obtain ⟨y109, hy109⟩ : ∃ y_ : List (S74), y_ = (l0_0.drop 1) := ⟨_, rfl⟩
   replace H : (impl_Trie_prefixes.l0 k y105 y109 (y109.length : Int) 0) = some (r1, r2) := by first | (rw [hy109]; with_reducible exact H) | (have H2_ := (Option.bind_some _ _).symm.trans H; rw [hy109]; with_reducible exact H2_) | (have H2_ := (Option.bind_some _ _).symm.trans H; with_reducible exact H2_) | with_reducible exact H | (rw [hy109]; exact H) | exact H
   have Ny109 := am hy109; clear hy109; have H' := am H; clear H
   go_enter Tryz.func164, Tryz.ntmps164
   go_wp2_with (first | ((with_reducible refine gt 1 ?_); refine bx 1 #[.slice A0_0 l0_0.length c0_0] 26 ?_; intro gb104 hg w5 hbox hb; have BK104 := am (hbox); have GW104 := uG hg HB; have GE104 := uG hg HB; replace HB := uB HB hb; clear hb hbox hg) | ((with_reducible refine gt 7 ?_); refine Kd.R_lit Kd.string _ 9 ?hg (N := 7) ?hd (xs := ([(⟨#[]⟩ : ByteArray)] : List ByteArray)) (inner := [.string (⟨#[]⟩ : ByteArray)]) (ok := fun _ => True) (okp := fun _ => True) ?hr ?hp (fun _ hk => hk) trivial (Below.refl _ _) (Nat.le_refl _) (by simp) ?_; (case hd => rfl); (case hg => rfl); (case hr => exact ax20); (case hp => exact ax22); intro v106 w6 ho7 hb hg_ hnew_; clear hg_ hnew_; (first | rw [← Ny105.out] at ho7 | (simp only [Int.reduceToNat] at ho7; rw [← Ny105.out] at ho7)); have HO107 := am (Kd.R_lower ho7 (bS HB)); replace BK104 := ub BK104 hb; replace HB := uS HB hb; clear hb ho7; obtain ⟨hcz8_0, hfz8_0⟩ := bz (.slice A0_0 l0_0.length c0_0) BK104) | ((with_reducible refine gd 11 129 ?_); refine gc 11 Tryz.func129 #[.int .i64 (l0_0.length : Int), .int .i64 1, .int .i64 481] (impl_in.calls (l0_0.length : Int) 1 481 true _ A2.out) ?_; rintro e w' ⟨rfl, ⟨nd, rfl⟩⟩; refine ⟨_, rfl, ?_⟩; have q9 : (1 : Int) ≤ ((l0_0.length : Int) : Int) := of_decide_eq_true ax23; obtain ⟨i09, hi09, _, hsz9, _⟩ := info_parts info74; have hroom9 : l0_0.length ≤ c0_0 := HC0_0.out; have hC9 : Kd.C k74 _ A0_0 l0_0.length l0_0 := HR0_0.out; have hcut9 := cut_from (P := Tryz.prog) 24 74 .i64 Tryz.underlying24 hi09 3 hsz9 A0_0 l0_0.length c0_0 1 (by omega) q9; have hr9 := Kd.C_drop (m := (1 : Int).toNat) (c := c0_0) hC9 (by omega) hroom9; obtain ⟨A9, hA9⟩ : ∃ A1, A1 = (if c0_0 = (1 : Int).toNat then A0_0 else (A0_0 : Option Addr).map (·.add ((1 : Int).toNat * 3))) := ⟨_, rfl⟩; obtain ⟨c9, hc9⟩ : ∃ c1, c1 = c0_0 - (1 : Int).toNat := ⟨_, rfl⟩; have hy9 : y109.length = l0_0.length - (1 : Int).toNat := (by rw [Ny109.out, List.length_drop] <;> omega); rw [show (l0_0).drop (1 : Int).toNat = y109 from Ny109.out.symm] at hr9; replace hr9 : Kd.C k74 _ A9 y109.length y109 := (by rw [hA9]; exact hr9); rw [← hy9, ← hA9, ← hc9] at hcut9; have HR112 := am hr9; have HC112 := am (show y109.length ≤ c9 from by rw [hy9, hc9]; exact Nat.sub_le_sub_right hroom9 _); clear hr9 hC9 hroom9 hi09 hsz9 hc9; have KY9 := am hy9; have KA9 := am hA9; clear hy9 hA9; replace q9 := eq_true q9))
   go_loopg [4, 17] k (fun kq v4 v17 w' => ∃ (x4_1 : List ByteArray) (x17_1 : Int), v17 = .int .i64 x17_1 ∧ Aside0 (impl_Trie_prefixes.l0 kq x4_1 y109 (y109.length : Int) x17_1 = some (r1, r2)) ∧ Aside0 (kq ≤ k) ∧ Aside0 (Kd.R Kd.string 9 w' w.heap.size (fun _ => True) v4 x4_1) ∧ Aside0 (Below w.heap.size w w'))
   case atStart => exact ⟨(y105), (0), ax18, H', ⟨Nat.le_refl _⟩, ⟨aU⟩, ⟨aL⟩⟩
   case round =>
    clear H'; (try clear hcz8_0);(try clear hfz8_0);(try clear q9);(try clear c9);(try clear c1);(try clear c4);(try clear c4b1);(try clear c4b0);(try clear c3); obtain ⟨x4_1, x17_1, rfl, HA, HK1, HO_4, HB⟩ := hrel
    cases gk with
    | zero => exact absurd HA.out (by simp [impl_Trie_prefixes.l0])
    | succ k1 =>
     have H := HA.out; clear HA; simp only [impl_Trie_prefixes.l0] at H
     by_cases c10 : x17_1 < (y109.length : Int)
     ·rw [if_pos c10] at H
      have c10b0 := decide_eq_true c10; clear c10
      by_cases c11 : 0 ≤ x17_1
      ·rw [if_pos c11] at H
       have c11b0 := decide_eq_true c11; clear c11
       by_cases c12 : x17_1 < (y109.length : Int)
       ·rw [if_pos c12] at H
        have c12b0 := decide_eq_true c12; clear c12; obtain ⟨t115, A13, H⟩ := bs H
        by_cases c14 : t115 = true
        ·subst c14
         rw [if_pos rfl] at H; obtain ⟨t116, A15, H⟩ := bs H
         by_cases c16 : t116 = true
         ·subst c16
          rw [if_pos rfl] at H
          by_cases c17 : 0 ≤ ((rd_T74 y109 x17_1).f1)
          ·rw [if_pos c17] at H
           have c17b0 := decide_eq_true c17; clear c17
           by_cases c18 : ((rd_T74 y109 x17_1).f1) < (x4_1.length : Int)
           ·rw [if_pos c18] at H
            have c18b0 := decide_eq_true c18; clear c18; obtain ⟨t118, A19, H⟩ := bs H
            by_cases c20 : (rdOf ByteArray.empty x4_1 ((rd_T74 y109 x17_1).f1)).size + t118.size ≤ 9223372036854775807
            ·rw [if_pos c20] at H
             have c20b0 := eq_true c20; have c20b1 := decide_eq_true c20
             try have c20b2 : (9223372036854775807 < (rdOf ByteArray.empty x4_1 ((rd_T74 y109 x17_1).f1)).size + t118.size) = False := eq_false (Nat.not_lt.2 c20)
             clear c20; obtain ⟨js21, hjs21⟩ : ∃ j_ : ByteArray, ((rdOf ByteArray.empty x4_1 ((rd_T74 y109 x17_1).f1)) ++ t118) = j_ := ⟨_, rfl⟩; (first | rw [hjs21] at H | simp only [hjs21] at H)
             by_cases c22 : x4_1.length < 8796093022208
             ·rw [if_pos c22] at H
              have LMc22 := am c22; clear c22; obtain ⟨y119, hy119⟩ : ∃ y_ : List ByteArray, y_ = (x4_1 ++ [js21]) := ⟨_, rfl⟩
              replace H : (impl_Trie_prefixes.l0 k1 y119 y109 (y109.length : Int) (wrap64 (x17_1 + 1))) = some (r1, r2) := by first | (rw [hy119]; with_reducible exact H) | (have H2_ := (Option.bind_some _ _).symm.trans H; rw [hy119]; with_reducible exact H2_) | (have H2_ := (Option.bind_some _ _).symm.trans H; with_reducible exact H2_) | with_reducible exact H | (rw [hy119]; exact H) | exact H
              have Ny119 := am hy119; clear hy119; have H' := am H; clear H; have p113 : 0 ≤ (x17_1 : Int) := of_decide_eq_true ax23; have q113 : x17_1 < (y109.length : Int) := of_decide_eq_true ax23; obtain ⟨ad113, e113, hx113_0, hx113_1, hx113_2⟩ := at_T74 HR112.out x17_1 p113 q113
              cases e113
              replace hx113_0 := uC HB hx113_0; replace hx113_1 := uC HB hx113_1; replace hx113_2 := uC HB hx113_2; replace p113 := eq_true p113; replace q113 := eq_true q113
              try go_wp2_with (first | ((with_reducible refine gt 6 ?_); refine bx 6 #[.int .i64 0, .int .i64 0, .bool false] 74 ?_; intro gb114 hg w23 hbox hb; replace HO_4 := uR HO_4 hb; have BK114 := am (hbox); have GW114 := uG hg HB; have GE114 := uG hg HB; replace HB := uB HB hb; clear hb hbox hg; have hcz24_0 := bc (.int .i64 0) BK114 0; have hcz24_1 := bc (.int .i64 0) BK114 1; have hcz24_2 := bc (.bool false) BK114 2; have hfz24_0 := blk_frozen BK114.out 0; have hfz24_1 := blk_frozen BK114.out 1; have hfz24_2 := blk_frozen BK114.out 2) | ((with_reducible refine gate_store (t := 74) (p := 6) rfl ?_); refine store_event (t := 74) (p := 6) (v := ?vo_w25) (w1 := (((w23.setCell ⟨gb114, 0, none⟩ (.int .i64 ((rd_T74 y109 x17_1).f0))).setCell ⟨gb114, 1, none⟩ (.int .i64 ((rd_T74 y109 x17_1).f1))).setCell ⟨gb114, 2, none⟩ (.bool ((rd_T74 y109 x17_1).f2)))) ?hg ?ho ?hn ?hr ?_; (case ho => rfl); (case hg => rfl); (case hn => rfl); (case hr => exact ax20); intro w25 hw; have n0_ : Aside0 (Kd.R Kd.string 9 w25 w.heap.size (fun _ => True) u4 x4_1) := ⟨(by rw [hw]; exact (by (with_reducible repeat (first | apply Kd.R_alloc | apply Kd.R_drewN | apply Kd.R_drew)); exact Kd.R_mono (Kd.R_far (p := ⟨gb114, 2, none⟩) (Kd.R_far (p := ⟨gb114, 1, none⟩) (Kd.R_far (p := ⟨gb114, 0, none⟩) (Kd.R_types HO_4.out BK114.out (by decide)) (fun _ hk => hk.2) (.int .i64 ((rd_T74 y109 x17_1).f0))) (fun _ hk => hk.2) (.int .i64 ((rd_T74 y109 x17_1).f1))) (fun _ hk => hk.2) (.bool ((rd_T74 y109 x17_1).f2))) (fun _ hk => trivial)))⟩; have n1_ : Aside0 (w25.heap[gb114]? = some (.cells #[.int .i64 ((rd_T74 y109 x17_1).f0), .int .i64 ((rd_T74 y109 x17_1).f1), .bool ((rd_T74 y109 x17_1).f2)] 74 (0, 0))) := ⟨ax24⟩; have n2_ : Aside0 (Below w.heap.size w w25) := ⟨ax25⟩; clear hw; clear HO_4; clear BK114; clear HB; have HO_4 := n0_; have BK114 := n1_; have HB := n2_; clear n0_ n1_ n2_; have hcz26_0 := bc (.int .i64 ((rd_T74 y109 x17_1).f0)) BK114 0; have hcz26_1 := bc (.int .i64 ((rd_T74 y109 x17_1).f1)) BK114 1; have hcz26_2 := bc (.bool ((rd_T74 y109 x17_1).f2)) BK114 2; have hfz26_0 := blk_frozen BK114.out 0; have hfz26_1 := blk_frozen BK114.out 1; have hfz26_2 := blk_frozen BK114.out 2) | ((with_reducible refine gd 25 129 ?_); refine gc 25 Tryz.func129 #[.int .i64 ((rd_T74 y109 x17_1).f1), .int .i64 0, .int .i64 x17_1] (impl_in.calls ((rd_T74 y109 x17_1).f1) 0 x17_1 true _ A13.out) ?_; rintro e w' ⟨rfl, ⟨nd, rfl⟩⟩; refine ⟨_, rfl, ?_⟩) | (go_at_call 129; (with_reducible refine (impl_in.calls ((rd_T74 y109 x17_1).f0) 0 25 true _ A15.out).mono ?_); rintro e w' ⟨rfl, ⟨nd, rfl⟩⟩))
              (try (rw [drewN_self w25]; generalize hq_ : World.drewN w25 _ = w25; have n0_ := qR HO_4 hq_; have n1_ := qB BK114 hq_; have n2_ := qL HB hq_; clear HO_4 BK114 HB hq_; have HO_4 := n0_; have BK114 := n1_; have HB := n2_; clear n0_ n1_ n2_)); replace HO_4 := am (Kd.R_drew HO_4.out); replace BK114 := am (blk_drew BK114.out); replace HB := am (below_drew1 HB.out); obtain ⟨Ao28, co28, eo28⟩ := Kd.R_slice HO_4.out; (first | subst eo28 | (injection eo28 with f1_ f2_ f3_; have f4_ := f1_.symm; have f5_ := f3_.symm; clear f1_ f2_ f3_; subst f4_; subst f5_)); have p117 : 0 ≤ (((rd_T74 y109 x17_1).f1) : Int) := of_decide_eq_true ax23; have q117 : ((rd_T74 y109 x17_1).f1) < (x4_1.length : Int) := of_decide_eq_true ax23; obtain ⟨ad117, e117, hx117_0⟩ := Kd.at_string (Kd.R_reads' HO_4.out).2.2 ((rd_T74 y109 x17_1).f1) p117 q117
              cases e117
              replace p117 := eq_true p117; replace q117 := eq_true q117; refine start_ (n := 13) (S := fun w' => w'.cell? ⟨gb114, 0, none⟩ = some (.int .i64 ((rd_T74 y109 x17_1).f0)) ∧ w'.cell? ⟨gb114, 1, none⟩ = some (.int .i64 ((rd_T74 y109 x17_1).f1)) ∧ w'.cell? ⟨gb114, 2, none⟩ = some (.bool ((rd_T74 y109 x17_1).f2)) ∧ w'.cell? (ad117.add (((rd_T74 y109 x17_1).f1)).toNat) = some (.string (rdOf ByteArray.empty x4_1 ((rd_T74 y109 x17_1).f1)))) (ds := [10, 11]) (ob 13 0) (by kernel_rfl) rfl rfl ⟨(blk_cell BK114.out 0).trans rfl, (blk_cell BK114.out 1).trans rfl, (blk_cell BK114.out 2).trans rfl, hx117_0⟩ (fun hHeld => ?_); refine with_tabW impl_Trie_prefixes.tab9 impl_Trie_prefixes.bits9 (fun HT_ HW_ => ?_); generalize w25.drew = w27 at HO_4 BK114 HB hx117_0 hHeld ⊢; refine pu 0 33 ?_; refine pu 1 34 ?_; refine pu 2 35 ?_; refine pu 6 39 ?_; refine tk 3 36 ?_; refine pu 4 37 ?_; refine tk 5 38 ?_; refine tk 7 40 ?_; refine one_ (i := 8) (N := some 41) (ob 13 511) rfl rfl (one_of HT_.out (by kernel_rfl)) (by decide) (fun K hK => ?_); refine goes_ Tryz.func188 (by kernel_rfl) rfl #[.int .i64 ((rd_T74 y109 x17_1).f0)] (by rfl) rfl rfl ax26 ?_
              with_reducible refine (impl_letter.calls ((rd_T74 y109 x17_1).f0) t118 _ A19.out).mono ?_
              rintro e w29 ⟨rfl, hb⟩; have HS3_ := (hb.cell (World.block_lt_of_cell? _ _ (hHeld.2.2.2))).trans (hHeld.2.2.2); refine ⟨_, rfl, ?_⟩; replace HO_4 := uR HO_4 hb; replace BK114 := ub BK114 hb; replace HB := uS HB hb; (try clear hb); (try clear hb2); (try clear hk); (try clear hi); refine hK.out _ _ ⟨(blk_cell BK114.out 0).trans rfl, (blk_cell BK114.out 1).trans rfl, (blk_cell BK114.out 2).trans rfl, HS3_⟩ (fun hHeld => ?_); clear hK K; refine nm 41 ?_; refine pu 9 42 ?_; refine last_ (i := 10) (N := some 43) (ob 13 2047) rfl rfl (one_of HT_.out (by kernel_rfl)) (by decide) (fun K hK => ?_); refine value_ (w1 := ?_) (v := ?_) (by rfl) rfl ?_ ?_
              rotate_left 2
              ·go_simp
               constructor
               ·rfl
               ·rfl
              refine hK.out _ _ ?_; clear hK K; refine nm 43 ?_; refine last_ (i := 11) (N := some 44) (ob 13 4095) rfl rfl (one_of HT_.out (by kernel_rfl)) (by decide) (fun K hK => ?_); refine Kd.R_append_step Kd.string (w0 := w) w.heap.size (by rfl) (.tmp 33) (.tmp 43) 31 9 (.string ⟨#[]⟩) 16 rfl Tryz.underlying31 info9 rfl (by decide) (by omega) (.slice (some ad117) x4_1.length co28) x4_1 js21 [.string js21] (fun _ => True) (fun _ => False) rfl rfl ?aP (fun _ hk => hk.elim) ?aF ?aO ?aB ?aS ?aL ?_
              (case aP => exact rfl)
              (case aB => exact aL)
              (case aF => exact ax27)
              (case aO => exact (rX HO_4))
              (case aS => exact ax28)
              (case aL => have := LMc22.out; omega)
              intro v120 w30 ho hb hg hat; rw [← Ny119.out] at ho; have n0_ := am (blk_grown (g := gb114) (o := .cells #[.int .i64 ((rd_T74 y109 x17_1).f0), .int .i64 ((rd_T74 y109 x17_1).f1), .bool ((rd_T74 y109 x17_1).f2)] 74 (0, 0)) aU hg (Kd.R_ne HO_4.out BK114.out (by decide))); have n1_ := am (hb); have n2_ := am (ho); clear BK114; clear HB; clear HO_4; have BK114 := n0_; have HB := n1_; have HO121 := n2_; clear n0_ n1_ n2_; clear ho hb hg hat; refine hK.out _ _ ?_; clear hK K; refine nm 44 ?_; refine pu 12 4 ?_; refine dn ?_
              try go_wp2
              go_roundg k1
              case measure => have := HK1.out; omega
              case rel => exact ⟨(y119), (wrap64 (x17_1 + 1)), ax18, H', ⟨by have := HK1.out; omega⟩, ⟨aU⟩, ⟨aL⟩⟩
             ·rw [if_neg c22] at H
              exact absurd H (by simp)
            ·rw [if_neg c20] at H
             exact absurd H (by simp)
           ·rw [if_neg c18] at H
            exact absurd H (by simp)
          ·rw [if_neg c17] at H
           exact absurd H (by simp)
         ·replace c16 := Bool.eq_false_iff.mpr c16
          subst c16; rw [if_neg (show ¬ (false = true) by decide)] at H; simp only [Option.some.injEq, Prod.mk.injEq] at H; obtain ⟨rfl, rfl⟩ := H; have p113 : 0 ≤ (x17_1 : Int) := of_decide_eq_true ax23; have q113 : x17_1 < (y109.length : Int) := of_decide_eq_true ax23; obtain ⟨ad113, e113, hx113_0, hx113_1, hx113_2⟩ := at_T74 HR112.out x17_1 p113 q113
          cases e113
          replace hx113_0 := uC HB hx113_0; replace hx113_1 := uC HB hx113_1; replace hx113_2 := uC HB hx113_2; replace p113 := eq_true p113; replace q113 := eq_true q113
          go_wp2_with (first | ((with_reducible refine gt 6 ?_); refine bx 6 #[.int .i64 0, .int .i64 0, .bool false] 74 ?_; intro gb114 hg w31 hbox hb; have BK114 := am (hbox); have GW114 := uG hg HB; have GE114 := uG hg HB; replace HB := uB HB hb; clear hb hbox hg; have hcz32_0 := bc (.int .i64 0) BK114 0; have hcz32_1 := bc (.int .i64 0) BK114 1; have hcz32_2 := bc (.bool false) BK114 2; have hfz32_0 := blk_frozen BK114.out 0; have hfz32_1 := blk_frozen BK114.out 1; have hfz32_2 := blk_frozen BK114.out 2) | ((with_reducible refine gate_store (t := 74) (p := 6) rfl ?_); refine store_event (t := 74) (p := 6) (v := ?vo_w33) (w1 := (((w31.setCell ⟨gb114, 0, none⟩ (.int .i64 ((rd_T74 y109 x17_1).f0))).setCell ⟨gb114, 1, none⟩ (.int .i64 ((rd_T74 y109 x17_1).f1))).setCell ⟨gb114, 2, none⟩ (.bool ((rd_T74 y109 x17_1).f2)))) ?hg ?ho ?hn ?hr ?_; (case ho => rfl); (case hg => rfl); (case hn => rfl); (case hr => exact ax20); intro w33 hw; have n0_ : Aside0 (w33.heap[gb114]? = some (.cells #[.int .i64 ((rd_T74 y109 x17_1).f0), .int .i64 ((rd_T74 y109 x17_1).f1), .bool ((rd_T74 y109 x17_1).f2)] 74 (0, 0))) := ⟨ax24⟩; have n1_ : Aside0 (Below w.heap.size w w33) := ⟨ax25⟩; clear hw; clear BK114; clear HB; have BK114 := n0_; have HB := n1_; clear n0_ n1_; have hcz34_0 := bc (.int .i64 ((rd_T74 y109 x17_1).f0)) BK114 0; have hcz34_1 := bc (.int .i64 ((rd_T74 y109 x17_1).f1)) BK114 1; have hcz34_2 := bc (.bool ((rd_T74 y109 x17_1).f2)) BK114 2; have hfz34_0 := blk_frozen BK114.out 0; have hfz34_1 := blk_frozen BK114.out 1; have hfz34_2 := blk_frozen BK114.out 2) | ((with_reducible refine gd 25 129 ?_); refine gc 25 Tryz.func129 #[.int .i64 ((rd_T74 y109 x17_1).f1), .int .i64 0, .int .i64 x17_1] (impl_in.calls ((rd_T74 y109 x17_1).f1) 0 x17_1 true _ A13.out) ?_; rintro e w' ⟨rfl, ⟨nd, rfl⟩⟩; refine ⟨_, rfl, ?_⟩) | (go_at_call 129; (with_reducible refine (impl_in.calls ((rd_T74 y109 x17_1).f0) 0 25 false _ A15.out).mono ?_); rintro e w' ⟨rfl, ⟨nd, rfl⟩⟩))
          go_ret2
          exact ⟨_, ax21, ax29, aL⟩
        ·replace c14 := Bool.eq_false_iff.mpr c14
         subst c14; rw [if_neg (show ¬ (false = true) by decide)] at H; simp only [Option.some.injEq, Prod.mk.injEq] at H; obtain ⟨rfl, rfl⟩ := H; have p113 : 0 ≤ (x17_1 : Int) := of_decide_eq_true ax23; have q113 : x17_1 < (y109.length : Int) := of_decide_eq_true ax23; obtain ⟨ad113, e113, hx113_0, hx113_1, hx113_2⟩ := at_T74 HR112.out x17_1 p113 q113
         cases e113
         replace hx113_0 := uC HB hx113_0; replace hx113_1 := uC HB hx113_1; replace hx113_2 := uC HB hx113_2; replace p113 := eq_true p113; replace q113 := eq_true q113
         go_wp2_with (first | ((with_reducible refine gt 6 ?_); refine bx 6 #[.int .i64 0, .int .i64 0, .bool false] 74 ?_; intro gb114 hg w35 hbox hb; have BK114 := am (hbox); have GW114 := uG hg HB; have GE114 := uG hg HB; replace HB := uB HB hb; clear hb hbox hg; have hcz36_0 := bc (.int .i64 0) BK114 0; have hcz36_1 := bc (.int .i64 0) BK114 1; have hcz36_2 := bc (.bool false) BK114 2; have hfz36_0 := blk_frozen BK114.out 0; have hfz36_1 := blk_frozen BK114.out 1; have hfz36_2 := blk_frozen BK114.out 2) | ((with_reducible refine gate_store (t := 74) (p := 6) rfl ?_); refine store_event (t := 74) (p := 6) (v := ?vo_w37) (w1 := (((w35.setCell ⟨gb114, 0, none⟩ (.int .i64 ((rd_T74 y109 x17_1).f0))).setCell ⟨gb114, 1, none⟩ (.int .i64 ((rd_T74 y109 x17_1).f1))).setCell ⟨gb114, 2, none⟩ (.bool ((rd_T74 y109 x17_1).f2)))) ?hg ?ho ?hn ?hr ?_; (case ho => rfl); (case hg => rfl); (case hn => rfl); (case hr => exact ax20); intro w37 hw; have n0_ : Aside0 (w37.heap[gb114]? = some (.cells #[.int .i64 ((rd_T74 y109 x17_1).f0), .int .i64 ((rd_T74 y109 x17_1).f1), .bool ((rd_T74 y109 x17_1).f2)] 74 (0, 0))) := ⟨ax24⟩; have n1_ : Aside0 (Below w.heap.size w w37) := ⟨ax25⟩; clear hw; clear BK114; clear HB; have BK114 := n0_; have HB := n1_; clear n0_ n1_; have hcz38_0 := bc (.int .i64 ((rd_T74 y109 x17_1).f0)) BK114 0; have hcz38_1 := bc (.int .i64 ((rd_T74 y109 x17_1).f1)) BK114 1; have hcz38_2 := bc (.bool ((rd_T74 y109 x17_1).f2)) BK114 2; have hfz38_0 := blk_frozen BK114.out 0; have hfz38_1 := blk_frozen BK114.out 1; have hfz38_2 := blk_frozen BK114.out 2) | ((with_reducible refine gd 25 129 ?_); refine gc 25 Tryz.func129 #[.int .i64 ((rd_T74 y109 x17_1).f1), .int .i64 0, .int .i64 x17_1] (impl_in.calls ((rd_T74 y109 x17_1).f1) 0 x17_1 false _ A13.out) ?_; rintro e w' ⟨rfl, ⟨nd, rfl⟩⟩; refine ⟨_, rfl, ?_⟩))
         go_ret2
         exact ⟨_, ax21, ax29, aL⟩
       ·rw [if_neg c12] at H
        exact absurd H (by simp)
      ·exact ax1
     ·rw [if_neg c10] at H
      have c10b0 := decide_eq_false c10; clear c10; simp only [Option.some.injEq, Prod.mk.injEq] at H; obtain ⟨rfl, rfl⟩ := H
      go_wp2
      go_ret2
      exact ⟨_, ax21, aU, aL⟩
  ·exact ax2
 ·replace c3 := Bool.eq_false_iff.mpr c3
  subst c3; rw [if_neg (show ¬ (false = true) by decide)] at H; simp only [Option.some.injEq, Prod.mk.injEq] at H; obtain ⟨rfl, rfl⟩ := H
  go_enter Tryz.func164, Tryz.ntmps164
  go_wp2_with (first | ((with_reducible refine gt 1 ?_); refine bx 1 #[.slice A0_0 l0_0.length c0_0] 26 ?_; intro gb104 hg w39 hbox hb; have BK104 := am (hbox); have GW104 := uG hg HB; have GE104 := uG hg HB; replace HB := uB HB hb; clear hb hbox hg) | ((with_reducible refine gt 7 ?_); refine Kd.R_lit Kd.string _ 9 ?hg (N := 7) ?hd (xs := ([(⟨#[]⟩ : ByteArray)] : List ByteArray)) (inner := [.string (⟨#[]⟩ : ByteArray)]) (ok := fun _ => True) (okp := fun _ => True) ?hr ?hp (fun _ hk => hk) trivial (Below.refl _ _) (Nat.le_refl _) (by simp) ?_; (case hd => rfl); (case hg => rfl); (case hr => exact ax20); (case hp => exact ax22); intro v106 w40 ho41 hb hg_ hnew_; clear hg_ hnew_; (first | rw [← Ny105.out] at ho41 | (simp only [Int.reduceToNat] at ho41; rw [← Ny105.out] at ho41)); have HO107 := am (Kd.R_lower ho41 (bS HB)); replace BK104 := ub BK104 hb; replace HB := uS HB hb; clear hb ho41; obtain ⟨hcz42_0, hfz42_0⟩ := bz (.slice A0_0 l0_0.length c0_0) BK104) | ((with_reducible refine gd 11 129 ?_); refine gc 11 Tryz.func129 #[.int .i64 (l0_0.length : Int), .int .i64 1, .int .i64 481] (impl_in.calls (l0_0.length : Int) 1 481 false _ A2.out) ?_; rintro e w' ⟨rfl, ⟨nd, rfl⟩⟩; refine ⟨_, rfl, ?_⟩))
  go_ret2
  exact ⟨_, ax21, ax29, aL⟩

/-! ### impl_Trie_words: function 125 -/
def impl_Trie_words.l0 : Nat → List ByteArray → List ByteArray → List (S74) → Int → Int → Option (List ByteArray)
 | 0, _, _, _, _, _ => none
 | k + 1, x3, x5, x15, x16, x17 => if x17 < x16 then (if 0 ≤ x17 then (if x17 < (x15.length : Int) then (if (rd_T74 x15 x17).f2 = true then (if x17 < (x3.length : Int) then (if x5.length < 8796093022208 then (impl_Trie_words.l0 k x3 (x5 ++ [rdOf ByteArray.empty x3 x17]) x15 x16 (wrap64 (x17 + 1))) else (none)) else (none)) else (impl_Trie_words.l0 k x3 x5 x15 x16 (wrap64 (x17 + 1)))) else (none)) else (none)) else (some x5)
def impl_Trie_words.f (k : Nat) (l0_0 : List (S74)) : Option (List ByteArray) := (impl_Trie_prefixes.f k l0_0).bind fun bt123 => (impl_Trie_words.l0 k bt123.1 (([] : List ByteArray)) l0_0 (l0_0.length : Int) 0)
theorem impl_Trie_words.calls (k : Nat) (A0_0 : Option Addr) (c0_0 : Nat) (l0_0 : List (S74)) (r : List ByteArray) (w : World) (hr0_0 : Kd.C k74 w A0_0 l0_0.length l0_0) (hc0_0 : l0_0.length ≤ c0_0) (h : impl_Trie_words.f k l0_0 = some r) :
  Calls Tryz.prog 125 #[.agg #[.slice A0_0 l0_0.length c0_0]] w fun e w' => ∃ v0_ : Value, e = .returned (v0_) ∧ Kd.R Kd.string 9 w' w.heap.size (fun _ => True) v0_ r ∧ Below w.heap.size w w' := by
 have hu26 := Tryz.underlying26; have hu74 := Tryz.underlying74; have HR0_0 := am hr0_0; have HC0_0 := am hc0_0; clear hr0_0 hc0_0; have HB := am (Below.refl w.heap.size w)
 unfold impl_Trie_words.f at h
 have H := h; clear h; obtain ⟨⟨t123, t126⟩, A2, H⟩ := bs H; obtain ⟨y127, hy127⟩ : ∃ y_ : List ByteArray, y_ = (([] : List ByteArray)) := ⟨_, rfl⟩
 replace H : (impl_Trie_words.l0 k t123 y127 l0_0 (l0_0.length : Int) 0) = some r := by first | (rw [hy127]; with_reducible exact H) | (have H2_ := (Option.bind_some _ _).symm.trans H; rw [hy127]; with_reducible exact H2_) | (have H2_ := (Option.bind_some _ _).symm.trans H; with_reducible exact H2_) | with_reducible exact H | (rw [hy127]; exact H) | exact H
 have Ny127 := am hy127; clear hy127; have H' := am H; clear H
 go_enter Tryz.func125, Tryz.ntmps125
 go_wp2_with (first | ((with_reducible refine gt 1 ?_); refine bx 1 #[.slice A0_0 l0_0.length c0_0] 26 ?_; intro gb122 hg w3 hbox hb; have BK122 := am (hbox); have GW122 := uG hg HB; have GE122 := uG hg HB; replace HB := uB HB hb; clear hb hbox hg; obtain ⟨hcz4_0, hfz4_0⟩ := bz (.slice A0_0 l0_0.length c0_0) BK122) | ((with_reducible refine gd 10 164 ?_); refine gc 10 Tryz.func164 #[.agg #[.slice A0_0 l0_0.length c0_0]] (impl_Trie_prefixes.calls k _ _ l0_0 t123 t126 _ ax30 (HC0_0.out) A2.out) ?_; rintro e w5 ⟨v124, rfl, ho0, hb⟩; refine ⟨_, rfl, ?_⟩; have HO125 := am (Kd.R_lower ho0 (bS HB)); replace BK122 := ub BK122 hb; replace HB := uS HB hb; (try clear hb ho0)) | ((with_reducible refine gt 13 ?_); refine Kd.R_lit Kd.string _ 9 ?hg (N := 13) ?hd (xs := ([] : List ByteArray)) (inner := []) (ok := fun _ => True) (okp := fun _ => True) ?hr ?hp (fun _ hk => hk) trivial (Below.refl _ _) (Nat.le_refl _) (by simp) ?_; (case hd => rfl); (case hg => rfl); (case hr => exact ax20); (case hp => exact ax31); intro v128 w6 ho7 hb hg_ hnew_; clear hg_ hnew_; (first | rw [← Ny127.out] at ho7 | (simp only [Int.reduceToNat] at ho7; rw [← Ny127.out] at ho7)); have HO129 := am (Kd.R_lower (Kd.R_new' ho7 (Kd.R_lt (rX HO125))) (bS HB)); replace HO125 := am (Kd.R_elder' (rX HO125) (Kd.R_base ho7) hb); replace BK122 := ub BK122 hb; replace HB := uS HB hb; clear hb ho7; obtain ⟨hcz8_0, hfz8_0⟩ := bz (.slice A0_0 l0_0.length c0_0) BK122))
 go_loopg [5, 17] k (fun kq v5 v17 w' => ∃ (x5_1 : List ByteArray) (x17_1 : Int), v17 = .int .i64 x17_1 ∧ Aside0 (impl_Trie_words.l0 kq t123 x5_1 l0_0 (l0_0.length : Int) x17_1 = some r) ∧ Aside0 (kq ≤ k) ∧ Aside0 (Kd.R Kd.string 9 w' w.heap.size (fun k_ => some k_ ≠ (v5 : Value).ownBlock) v124 t123) ∧ Aside0 (Kd.R Kd.string 9 w' w.heap.size (fun k_ => some k_ ≠ (v124 : Value).ownBlock) v5 x5_1) ∧ Aside0 (w'.heap[gb122]? = some (.cells #[(.slice A0_0 l0_0.length c0_0)] 26 (0, 0))) ∧ Aside0 (Below w.heap.size w w'))
 case atStart => exact ⟨(y127), (0), ax18, H', ⟨Nat.le_refl _⟩, ⟨(by (with_reducible repeat (first | apply Kd.R_alloc | apply Kd.R_drewN | apply Kd.R_drew)); exact Kd.R_mono HO125.out (fun _ hk => hk.2))⟩, ⟨(by (with_reducible repeat (first | apply Kd.R_alloc | apply Kd.R_drewN | apply Kd.R_drew)); exact Kd.R_mono HO129.out (fun _ hk => hk.2))⟩, ⟨aU⟩, ⟨aL⟩⟩
 case round =>
  clear H'; (try clear hcz4_0);(try clear hfz4_0);(try clear hcz8_0);(try clear hfz8_0); obtain ⟨x5_1, x17_1, rfl, HA, HK1, HO_3, HO_5, BK122, HB⟩ := hrel
  cases gk with
  | zero => exact absurd HA.out (by simp [impl_Trie_words.l0])
  | succ k1 =>
   have H := HA.out; clear HA; simp only [impl_Trie_words.l0] at H
   by_cases c9 : x17_1 < (l0_0.length : Int)
   ·rw [if_pos c9] at H
    have c9b0 := decide_eq_true c9; clear c9
    by_cases c10 : 0 ≤ x17_1
    ·rw [if_pos c10] at H
     have c10b0 := decide_eq_true c10; clear c10
     by_cases c11 : x17_1 < (l0_0.length : Int)
     ·rw [if_pos c11] at H
      have c11b0 := decide_eq_true c11; clear c11; obtain ⟨bq12, hbq12⟩ : ∃ b_ : Bool, b_ = ((rd_T74 l0_0 x17_1).f2) := ⟨_, rfl⟩
      replace H : (if bq12 = true then (if x17_1 < (t123.length : Int) then (if x5_1.length < 8796093022208 then (impl_Trie_words.l0 k1 t123 (x5_1 ++ [rdOf ByteArray.empty t123 x17_1]) l0_0 (l0_0.length : Int) (wrap64 (x17_1 + 1))) else (none)) else (none)) else (impl_Trie_words.l0 k1 t123 x5_1 l0_0 (l0_0.length : Int) (wrap64 (x17_1 + 1)))) = some r := by rw [← hbq12] at H; exact H
      have Nbq12 := am hbq12; clear hbq12
      by_cases c13 : bq12 = true
      ·subst c13
       rw [if_pos rfl] at H
       by_cases c14 : x17_1 < (t123.length : Int)
       ·rw [if_pos c14] at H
        have c14b0 := decide_eq_true c14; clear c14
        by_cases c15 : x5_1.length < 8796093022208
        ·rw [if_pos c15] at H
         have LMc15 := am c15; clear c15; obtain ⟨y133, hy133⟩ : ∃ y_ : List ByteArray, y_ = (x5_1 ++ [rdOf ByteArray.empty t123 x17_1]) := ⟨_, rfl⟩
         replace H : (impl_Trie_words.l0 k1 t123 y133 l0_0 (l0_0.length : Int) (wrap64 (x17_1 + 1))) = some r := by first | (rw [hy133]; with_reducible exact H) | (have H2_ := (Option.bind_some _ _).symm.trans H; rw [hy133]; with_reducible exact H2_) | (have H2_ := (Option.bind_some _ _).symm.trans H; with_reducible exact H2_) | with_reducible exact H | (rw [hy133]; exact H) | exact H
         have Ny133 := am hy133; clear hy133; have H' := am H; clear H; have p130 : 0 ≤ (x17_1 : Int) := of_decide_eq_true ax23; have q130 : x17_1 < (l0_0.length : Int) := of_decide_eq_true ax23; obtain ⟨ad130, e130, hx130_0, hx130_1, hx130_2⟩ := at_T74 HR0_0.out x17_1 p130 q130; (try rw [← Nbq12.out] at hx130_2)
         cases e130
         replace hx130_0 := uC HB hx130_0; replace hx130_1 := uC HB hx130_1; replace hx130_2 := uC HB hx130_2; replace p130 := eq_true p130; replace q130 := eq_true q130
         go_wp2_with (first | ((with_reducible refine gt 7 ?_); refine bx 7 #[.int .i64 0, .int .i64 0, .bool false] 74 ?_; intro gb131 hg w16 hbox hb; replace HO_3 := uR HO_3 hb; replace HO_5 := uR HO_5 hb; have BK131 := am (hbox); have GW131 := uH hg HB; have GE131 := uH hg HB; replace HB := uS HB hb; obtain ⟨NB122_131, NB131_122, BK122⟩ := uA hg hb BK122; clear hb hbox hg; obtain ⟨hnb17, hnc17⟩ := nk NB131_122; have hcz18_0 := bc (.int .i64 0) BK131 0; have hcz18_1 := bc (.int .i64 0) BK131 1; have hcz18_2 := bc (.bool false) BK131 2; have hfz18_0 := blk_frozen BK131.out 0; have hfz18_1 := blk_frozen BK131.out 1; have hfz18_2 := blk_frozen BK131.out 2; obtain ⟨Ao19, co19, rfl⟩ := Kd.R_slice HO_3.out; have p132 : 0 ≤ (x17_1 : Int) := of_decide_eq_true ax23; have q132 : x17_1 < (t123.length : Int) := of_decide_eq_true ax23; obtain ⟨ad132, e132, hx132_0⟩ := Kd.at_string (Kd.R_reads' HO_3.out).2.2 x17_1 p132 q132; cases e132; have hn132_0 : ad132.block ≠ gb131 := Kd.own_blk (Kd.R_ne HO_3.out BK131.out (by decide)); have hn132_1 : ad132.block ≠ gb131 := Kd.own_blk (Kd.R_ne HO_3.out BK131.out (by decide)); have hn132_2 : ad132.block ≠ gb131 := Kd.own_blk (Kd.R_ne HO_3.out BK131.out (by decide)); replace hx132_0 := (cell_far (p := ⟨gb131, 0, none⟩) (by first | (rw [add_block]; exact hn132_0) | (show (Addr.add _ _).block ≠ _; rw [add_block]; exact hn132_0) | exact hn132_0) (.int .i64 ((rd_T74 l0_0 x17_1).f0))).trans hx132_0; replace hx132_0 := (cell_far (p := ⟨gb131, 1, none⟩) (by first | (rw [add_block]; exact hn132_1) | (show (Addr.add _ _).block ≠ _; rw [add_block]; exact hn132_1) | exact hn132_1) (.int .i64 ((rd_T74 l0_0 x17_1).f1))).trans hx132_0; replace hx132_0 := (cell_far (p := ⟨gb131, 2, none⟩) (by first | (rw [add_block]; exact hn132_2) | (show (Addr.add _ _).block ≠ _; rw [add_block]; exact hn132_2) | exact hn132_2) (.bool true)).trans hx132_0; clear hn132_0; clear hn132_1; clear hn132_2; replace p132 := eq_true p132; replace q132 := eq_true q132) | ((with_reducible refine gate_builtin (b := .append) (xs := #[.tmp 24, .tmp 29]) rfl ?_); at_builtin; refine Kd.R_append Kd.string (w0 := w) w.heap.size rfl (.tmp 24) (.tmp 29) 31 9 (.string ⟨#[]⟩) 16 rfl Tryz.underlying31 info9 rfl (by decide) (by omega) u5 x5_1 (rdOf ByteArray.empty t123 x17_1) [.string (rdOf ByteArray.empty t123 x17_1)] (fun k_ => some k_ ≠ (.slice (some ad132) t123.length co19 : Value).ownBlock) (fun _ => False) rfl ax20 ?aP (fun _ hk => hk.elim) ?aF ?aO ?aB ?aS ?aL ?_; (case aP => exact rfl); (case aB => exact aL); (case aF => exact (fun k_ hk => Kd.fresh' (Kd.R_lt (rX HO_3)) k_ hk)); (case aO => exact (by (with_reducible repeat (first | apply Kd.R_alloc | apply Kd.R_drewN | apply Kd.R_drew)); exact Kd.R_mono (Kd.R_far (p := ⟨gb131, 2, none⟩) (Kd.R_far (p := ⟨gb131, 1, none⟩) (Kd.R_far (p := ⟨gb131, 0, none⟩) (Kd.R_types HO_5.out BK131.out (by decide)) (fun _ hk => hk.2) (.int .i64 ((rd_T74 l0_0 x17_1).f0))) (fun _ hk => hk.2) (.int .i64 ((rd_T74 l0_0 x17_1).f1))) (fun _ hk => hk.2) (.bool true)) (fun _ hk => hk.1))); (case aS => exact ax28); (case aL => have := LMc15.out; omega); intro v134 w20 ho hb hg hat; rw [← Ny133.out] at ho; have n0_ := am (Kd.R_after (ok := (fun _ => True)) (by (with_reducible repeat (first | apply Kd.R_alloc | apply Kd.R_drewN | apply Kd.R_drew)); exact Kd.R_mono (Kd.R_far (p := ⟨gb131, 2, none⟩) (Kd.R_far (p := ⟨gb131, 1, none⟩) (Kd.R_far (p := ⟨gb131, 0, none⟩) (Kd.R_types HO_3.out BK131.out (by decide)) (fun _ hk => hk.2) (.int .i64 ((rd_T74 l0_0 x17_1).f0))) (fun _ hk => hk.2) (.int .i64 ((rd_T74 l0_0 x17_1).f1))) (fun _ hk => hk.2) (.bool true)) (fun _ hk => ⟨trivial, hk.1⟩)) hg hat); have n1_ := am (blk_grown (g := gb122) (o := .cells #[.slice (some ad130) l0_0.length c0_0] 26 (0, 0)) aU hg (Kd.R_ne HO_5.out BK122.out (by decide))); have n2_ := am (blk_grown (g := gb131) (o := .cells #[.int .i64 ((rd_T74 l0_0 x17_1).f0), .int .i64 ((rd_T74 l0_0 x17_1).f1), .bool true] 74 (0, 0)) aU hg (Kd.R_ne HO_5.out BK131.out (by decide))); have n3_ := am (hb); have n4_ := am (ho); clear HO_3; clear BK122; clear BK131; clear HB; clear HO_5; have HO_3 := n0_; have BK122 := n1_; have BK131 := n2_; have HB := n3_; have HO135 := n4_; clear n0_ n1_ n2_ n3_ n4_; clear ho hb hg hat))
         go_roundg k1
         case measure => have := HK1.out; omega
         case rel => exact ⟨(y133), (wrap64 (x17_1 + 1)), ax18, H', ⟨by have := HK1.out; omega⟩, ⟨ax32⟩, ⟨aU⟩, ⟨aU⟩, ⟨aL⟩⟩
        ·rw [if_neg c15] at H
         exact absurd H (by simp)
       ·exact ax3
      ·replace c13 := Bool.eq_false_iff.mpr c13
       subst c13; rw [if_neg (show ¬ (false = true) by decide)] at H; have H' := am H; clear H; have p130 : 0 ≤ (x17_1 : Int) := of_decide_eq_true ax23; have q130 : x17_1 < (l0_0.length : Int) := of_decide_eq_true ax23; obtain ⟨ad130, e130, hx130_0, hx130_1, hx130_2⟩ := at_T74 HR0_0.out x17_1 p130 q130; (try rw [← Nbq12.out] at hx130_2)
       cases e130
       replace hx130_0 := uC HB hx130_0; replace hx130_1 := uC HB hx130_1; replace hx130_2 := uC HB hx130_2; replace p130 := eq_true p130; replace q130 := eq_true q130
       go_wp2_with (first | ((with_reducible refine gt 7 ?_); refine bx 7 #[.int .i64 0, .int .i64 0, .bool false] 74 ?_; intro gb131 hg w21 hbox hb; replace HO_3 := uR HO_3 hb; replace HO_5 := uR HO_5 hb; have BK131 := am (hbox); have GW131 := uH hg HB; have GE131 := uH hg HB; replace HB := uS HB hb; obtain ⟨NB122_131, NB131_122, BK122⟩ := uA hg hb BK122; clear hb hbox hg; obtain ⟨hnb22, hnc22⟩ := nk NB131_122; have hcz23_0 := bc (.int .i64 0) BK131 0; have hcz23_1 := bc (.int .i64 0) BK131 1; have hcz23_2 := bc (.bool false) BK131 2; have hfz23_0 := blk_frozen BK131.out 0; have hfz23_1 := blk_frozen BK131.out 1; have hfz23_2 := blk_frozen BK131.out 2))
       go_roundg k1
       case measure => have := HK1.out; omega
       case rel => exact ⟨(x5_1), (wrap64 (x17_1 + 1)), ax18, H', ⟨by have := HK1.out; omega⟩, ⟨(by (with_reducible repeat (first | apply Kd.R_alloc | apply Kd.R_drewN | apply Kd.R_drew)); exact Kd.R_mono (Kd.R_far (p := ⟨gb131, 2, none⟩) (Kd.R_far (p := ⟨gb131, 1, none⟩) (Kd.R_far (p := ⟨gb131, 0, none⟩) (Kd.R_types HO_3.out BK131.out (by decide)) (fun _ hk => hk.2) (.int .i64 ((rd_T74 l0_0 x17_1).f0))) (fun _ hk => hk.2) (.int .i64 ((rd_T74 l0_0 x17_1).f1))) (fun _ hk => hk.2) (.bool false)) (fun _ hk => hk.1))⟩, ⟨(by (with_reducible repeat (first | apply Kd.R_alloc | apply Kd.R_drewN | apply Kd.R_drew)); exact Kd.R_mono (Kd.R_far (p := ⟨gb131, 2, none⟩) (Kd.R_far (p := ⟨gb131, 1, none⟩) (Kd.R_far (p := ⟨gb131, 0, none⟩) (Kd.R_types HO_5.out BK131.out (by decide)) (fun _ hk => hk.2) (.int .i64 ((rd_T74 l0_0 x17_1).f0))) (fun _ hk => hk.2) (.int .i64 ((rd_T74 l0_0 x17_1).f1))) (fun _ hk => hk.2) (.bool false)) (fun _ hk => hk.1))⟩, ⟨aU⟩, ⟨aL⟩⟩
     ·exact ax1
    ·exact ax4
   ·rw [if_neg c9] at H
    have c9b0 := decide_eq_false c9; clear c9; obtain rfl := Option.some.inj H
    go_wp2
    go_ret
    exact ⟨_, ax21, aU, aL⟩

/-! ### slices_IndexFunc_string_string: function 205: a contract of our own -/
abbrev slices_IndexFunc_string_string.f (a0 : List ByteArray) (F : ByteArray → Option Bool) : Option Int := G.idxM F a0
theorem slices_IndexFunc_string_string.calls (A : Option Addr) (c : Nat) (l : List ByteArray) (F : ByteArray → Option Bool) (r : Int) (w : World) (hr : Kd.C Kd.string w A l.length l) (hc : l.length ≤ c)
  {g : Nat} {fs lb : Array Value} (eg : ∀ args w, (callFunc g args).run Tryz.prog w = .ok (.enter g args) w) (hp : G.PredF Tryz.prog g fs lb Value.string F l w) (h : slices_IndexFunc_string_string.f l F = some r) :
  Calls Tryz.prog 205 #[.slice A l.length c, .func (.func g) fs lb] w fun e w' => e = .returned (.int .i64 r) ∧ Below w.heap.size w w' := by
 have hlen := hr.2.1
 have hall := fun i x hx hj => G.idxM_all h i x hx hj
 have hnone := G.idxM_none h; clear h; have HALL := am hall; have HNONE := am hnone; clear hall hnone
 go_enter Tryz.func205, Tryz.ntmps205
 go_wp2
 go_loopg [5, 8] l.length (fun gg _ s8 wr => ∃ kk : Nat, kk ≤ l.length ∧ l.length - kk ≤ gg ∧ s8 = .int .i64 kk ∧ Aside0 (Below w.heap.size w wr) ∧ Aside0 (∀ (j : Nat) y, j < kk → l[j]? = some y → F y = some false))
 case atStart => exact ⟨0, Nat.zero_le _, by omega, rfl, ⟨Below.refl _ _⟩, ⟨fun j y hj => absurd hj (Nat.not_lt_zero _)⟩⟩
 case round =>
  obtain ⟨kk, hkk, hg, rfl, HB, HA⟩ := hrel
  by_cases hlt : kk < l.length
  ·have hltz : (kk : Int) < (l.length : Int) := by omega
   obtain ⟨ad, rfl, hcell⟩ := Kd.at_string (Kd.C_below hr HB.out) (kk : Int) (by omega) (by omega)
   have hx : l[kk]? = some (rdOf ByteArray.empty l kk) := by simp [rd, rdOf, List.getD, List.getElem?_eq_getElem hlt]
   obtain ⟨q, hq, hqr⟩ := HALL.out kk _ hx HA.out; have hcall := hp _ (List.mem_of_getElem? hx) wr HB.out q hq; generalize rdOf ByteArray.empty l kk = y at hcell hx hcall hq; simp only [Int.toNat_natCast] at hcell; have HX := am hx; have HQR := am hqr; have HQ := am hq; clear hx hp hr hq hqr
   cases q with
   | true =>
    have hrk := HQR.out rfl; have HRK := am hrk; clear hrk
    go_wp2_with (go_at_fn g; refine hcall.mono ?_; rintro e w' ⟨rfl, hb⟩)
    go_ret
    exact ⟨by rw [HRK.out]; rfl, HB.out.trans (hb.mono HB.out.size)⟩
   | false =>
    go_wp2_with (go_at_fn g; refine hcall.mono ?_; rintro e w' ⟨rfl, hb⟩)
    go_roundg (l.length - (kk + 1))
    case measure => omega
    case rel =>
     refine ⟨kk + 1, by omega, by omega, by go_num, ⟨HB.out.trans (hb.mono HB.out.size)⟩, ⟨fun j z hj hz => ?_⟩⟩
     by_cases e : j = kk
     ·subst e; rw [HX.out] at hz; cases hz; exact HQ.out
     ·exact HA.out j z (by omega) hz
  ·have hltz : ¬ (kk : Int) < (l.length : Int) := by omega
   have hend : r = -1 := HNONE.out (fun i x hx => HA.out i x (by have := (List.getElem?_eq_some_iff.1 hx).1; omega) hx); have HE := am hend; clear hend hp hr
   go_wp2
   go_ret
   exact ⟨by rw [HE.out]; rfl, HB.out⟩

/-! ### slices_ContainsFunc_string_string: function 140: a contract of our own -/
abbrev slices_ContainsFunc_string_string.f (a0 : List ByteArray) (F : ByteArray → Option Bool) : Option Bool := G.anyM F a0
theorem slices_ContainsFunc_string_string.calls (A : Option Addr) (c : Nat) (l : List ByteArray) (F : ByteArray → Option Bool) (r : Bool) (w : World) (hr : Kd.C Kd.string w A l.length l) (hc : l.length ≤ c)
  {g : Nat} {fs lb : Array Value} (eg : ∀ args w, (callFunc g args).run Tryz.prog w = .ok (.enter g args) w) (hp : G.PredF Tryz.prog g fs lb Value.string F l w) (h : slices_ContainsFunc_string_string.f l F = some r) :
  Calls Tryz.prog 140 #[.slice A l.length c, .func (.func g) fs lb] w fun e w' => e = .returned (.bool r) ∧ Below w.heap.size w w' := by
 obtain ⟨i, hi⟩ := G.idx_of_anyM h; have hri : r = decide (i ≥ 0) := Option.some.inj (h.symm.trans (G.anyM_of_idx hi).2); have HR := am hri; have HC := am (And.intro hr (And.intro hc (And.intro hp hi))); clear hr hc hp h hri hi
 go_enter Tryz.func140, Tryz.ntmps140
 go_wp2_with (go_at_call 205; refine (slices_IndexFunc_string_string.calls A c l F i _ HC.out.1 HC.out.2.1 eg HC.out.2.2.1 HC.out.2.2.2).mono ?_; rintro e w' ⟨rfl, hb⟩)
 go_ret
 exact ⟨by rw [HR.out]; rfl, hb⟩

end Go.Proofs.YtcplbbflfgckbaaGreatDoor.X
namespace Go.Proofs.YtcplbbflfgckbaaGreatDoor.X
open Go.RowKit Go.Proofs.YtcplbbflfgckbaaGreatDoorW.PrintWords Go.Proofs.YtcplbbflfgckbaaGreatDoorW.PrintLast Go.Proofs.YtcplbbflfgckbaaGreatDoorW.PrintMore
attribute [local go_sem] max2_int min2_int max_two min_two max_three min_three max_four min_four   -- for this text's walks alone
set_option linter.unusedVariables false
set_option linter.unusedSimpArgs false
set_option maxHeartbeats 8000000
set_option maxRecDepth 100000

/-! ### cmp_isNaN_string: function 222 -/
def cmp_isNaN_string.f (a0 : ByteArray) : Option (Bool) := some (a0.toList != a0.toList)
theorem cmp_isNaN_string.calls (a0 : ByteArray) (r : Bool) (w : World) (h : cmp_isNaN_string.f a0 = some r) :
  Calls Tryz.prog 222 #[.string a0] w fun e w' => e = .returned (.bool r) ∧ Drawn0 w w' := by
 unfold cmp_isNaN_string.f at h
 have H := h; clear h; obtain rfl := Option.some.inj H
 go_enter Tryz.func222, Tryz.ntmps222
 go_wp2
 go_ret
 exact ⟨ax18, ax19⟩

/-! ### cmp_Less_string: function 208 -/
def cmp_Less_string.f (a0 : ByteArray) (a1 : ByteArray) : Option (Bool) := (cmp_isNaN_string.f a0).bind fun t136 => (if t136 = true then ((cmp_isNaN_string.f a1).bind fun t137 => (if t137 = true then (some (Op.bytesLess a0.toList a1.toList)) else (some true))) else (some (Op.bytesLess a0.toList a1.toList)))
theorem cmp_Less_string.calls (a0 : ByteArray) (a1 : ByteArray) (r : Bool) (w : World) (h : cmp_Less_string.f a0 a1 = some r) :
  Calls Tryz.prog 208 #[.string a0, .string a1] w fun e w' => e = .returned (.bool r) ∧ Drawn0 w w' := by
 unfold cmp_Less_string.f at h
 have H := h; clear h; obtain ⟨t136, A3, H⟩ := bs H
 by_cases c4 : t136 = true
 ·subst c4
  rw [if_pos rfl] at H; obtain ⟨t137, A5, H⟩ := bs H
  by_cases c6 : t137 = true
  ·subst c6
   rw [if_pos rfl] at H; obtain rfl := Option.some.inj H
   go_enter Tryz.func208, Tryz.ntmps208
   go_wp2_with (first | ((with_reducible refine gd 6 222 ?_); refine gc 6 Tryz.func222 #[.string a0] (cmp_isNaN_string.calls a0 true _ A3.out) ?_; rintro e w' ⟨rfl, ⟨nd, rfl⟩⟩; refine ⟨_, rfl, ?_⟩) | (go_at_call 222; (with_reducible refine (cmp_isNaN_string.calls a1 true _ A5.out).mono ?_); rintro e w' ⟨rfl, ⟨nd, rfl⟩⟩))
   go_ret
   exact ⟨ax18, ax19⟩
  ·replace c6 := Bool.eq_false_iff.mpr c6
   subst c6; rw [if_neg (show ¬ (false = true) by decide)] at H; obtain rfl := Option.some.inj H
   go_enter Tryz.func208, Tryz.ntmps208
   go_wp2_with (first | ((with_reducible refine gd 6 222 ?_); refine gc 6 Tryz.func222 #[.string a0] (cmp_isNaN_string.calls a0 true _ A3.out) ?_; rintro e w' ⟨rfl, ⟨nd, rfl⟩⟩; refine ⟨_, rfl, ?_⟩) | (go_at_call 222; (with_reducible refine (cmp_isNaN_string.calls a1 false _ A5.out).mono ?_); rintro e w' ⟨rfl, ⟨nd, rfl⟩⟩))
   go_ret
   exact ⟨ax18, ax19⟩
 ·replace c4 := Bool.eq_false_iff.mpr c4
  subst c4; rw [if_neg (show ¬ (false = true) by decide)] at H; obtain rfl := Option.some.inj H
  go_enter Tryz.func208, Tryz.ntmps208
  go_wp2_with (first | ((with_reducible refine gd 6 222 ?_); refine gc 6 Tryz.func222 #[.string a0] (cmp_isNaN_string.calls a0 false _ A3.out) ?_; rintro e w' ⟨rfl, ⟨nd, rfl⟩⟩; refine ⟨_, rfl, ?_⟩))
  go_ret
  exact ⟨ax18, ax19⟩

/-! ### slices_isNaN_string: function 209 -/
def slices_isNaN_string.f (a0 : ByteArray) : Option (Bool) := some (a0.toList != a0.toList)
theorem slices_isNaN_string.calls (a0 : ByteArray) (r : Bool) (w : World) (h : slices_isNaN_string.f a0 = some r) :
  Calls Tryz.prog 209 #[.string a0] w fun e w' => e = .returned (.bool r) ∧ Drawn0 w w' := by
 unfold slices_isNaN_string.f at h
 have H := h; clear h; obtain rfl := Option.some.inj H
 go_enter Tryz.func209, Tryz.ntmps209
 go_wp2
 go_ret
 exact ⟨ax18, ax19⟩

/-! ### slices_BinarySearch_string_string: function 169 -/
def slices_BinarySearch_string_string.l0 : Nat → List ByteArray → ByteArray → Int → Int → Int → Option (Int × Bool)
 | 0, _, _, _, _, _ => none
 | k + 1, x0, x1, x6, x7, x8 => if x7 < x8 then (if 0 ≤ (wrap64 ((IntKind.u64.wrap (wrap64 (x7 + x8))) / 2)) then (if (wrap64 ((IntKind.u64.wrap (wrap64 (x7 + x8))) / 2)) < (x0.length : Int) then ((cmp_Less_string.f (rdOf ByteArray.empty x0 (wrap64 ((IntKind.u64.wrap (wrap64 (x7 + x8))) / 2))) x1).bind fun t139 => (if t139 = true then (slices_BinarySearch_string_string.l0 k x0 x1 x6 (wrap64 ((wrap64 ((IntKind.u64.wrap (wrap64 (x7 + x8))) / 2)) + 1)) x8) else (slices_BinarySearch_string_string.l0 k x0 x1 x6 x7 (wrap64 ((IntKind.u64.wrap (wrap64 (x7 + x8))) / 2))))) else (none)) else (none)) else (if x7 < x6 then (if 0 ≤ x7 then (if x7 < (x0.length : Int) then (if (rdOf ByteArray.empty x0 x7).toList = x1.toList then (some (x7, true)) else ((slices_isNaN_string.f (rdOf ByteArray.empty x0 x7)).bind fun t142 => (if t142 = true then ((slices_isNaN_string.f x1).bind fun t143 => (some (x7, t143))) else (some (x7, false))))) else (none)) else (none)) else (some (x7, false)))
def slices_BinarySearch_string_string.f (k : Nat) (l0 : List ByteArray) (a1 : ByteArray) : Option (Int × Bool) := slices_BinarySearch_string_string.l0 k l0 a1 (l0.length : Int) 0 (l0.length : Int)
theorem slices_BinarySearch_string_string.calls (k : Nat) (A0 : Option Addr) (c0 : Nat) (l0 : List ByteArray) (a1 : ByteArray) (r1 : Int) (r2 : Bool) (w : World) (hr0 : Kd.C Kd.string w A0 l0.length l0) (hc0 : l0.length ≤ c0) (h : slices_BinarySearch_string_string.f k l0 a1 = some (r1, r2)) :
  Calls Tryz.prog 169 #[.slice A0 l0.length c0, .string a1] w fun e w' => e = .returned (.tuple #[.int .i64 r1, .bool r2]) ∧ Drawn0 w w' := by
 have HR0 := am hr0; have HC0 := am hc0; clear hr0 hc0
 unfold slices_BinarySearch_string_string.f at h
 have H := h; clear h; have H' := am H; clear H
 go_enter Tryz.func169, Tryz.ntmps169
 go_wp2
 go_loopg [7, 8] k (fun kq v7 v8 w' => ∃ (x7_1 : Int) (x8_1 : Int), v7 = .int .i64 x7_1 ∧ v8 = .int .i64 x8_1 ∧ Aside0 (slices_BinarySearch_string_string.l0 kq l0 a1 (l0.length : Int) x7_1 x8_1 = some (r1, r2)) ∧ Aside0 (kq ≤ k) ∧ Drawn0 w w')
 case atStart => exact ⟨(0), ((l0.length : Int)), ax18, ax18, H', ⟨Nat.le_refl _⟩, by repeat (first | exact Drawn0.refl _ | apply Drawn0.step)⟩
 case round =>
  clear H'; obtain ⟨x7_1, x8_1, rfl, rfl, HA, HK1, ⟨m1, rfl⟩⟩ := hrel
  cases gk with
  | zero => exact absurd HA.out (by simp [slices_BinarySearch_string_string.l0])
  | succ k1 =>
   have H := HA.out; clear HA; simp only [slices_BinarySearch_string_string.l0] at H
   by_cases c3 : x7_1 < x8_1
   ·rw [if_pos c3] at H
    have c3b0 := decide_eq_true c3; clear c3; obtain ⟨ji4, hji4⟩ : ∃ j_ : Int, (wrap64 ((IntKind.u64.wrap (wrap64 (x7_1 + x8_1))) / 2)) = j_ := ⟨_, rfl⟩; (first | rw [hji4] at H | simp only [hji4] at H); have hji4w : (IntKind.i64.wrap ((IntKind.u64.wrap (wrap64 (x7_1 + x8_1))) / 2)) = ji4 := (i64_w _).trans hji4
    by_cases c5 : 0 ≤ (ji4)
    ·rw [if_pos c5] at H
     have c5b0 := decide_eq_true c5; clear c5
     by_cases c6 : (ji4) < (l0.length : Int)
     ·rw [if_pos c6] at H
      have c6b0 := decide_eq_true c6; clear c6; obtain ⟨t139, A7, H⟩ := bs H
      by_cases c8 : t139 = true
      ·subst c8
       rw [if_pos rfl] at H; have H' := am H; clear H; have p138 : 0 ≤ ((ji4) : Int) := of_decide_eq_true ax23; have q138 : (ji4) < (l0.length : Int) := of_decide_eq_true ax23; obtain ⟨ad138, e138, hx138_0⟩ := Kd.at_string HR0.out (ji4) p138 q138
       cases e138
       replace p138 := eq_true p138; replace q138 := eq_true q138
       go_wp2_with (first | ((with_reducible refine gate_callee (f := 208) rfl ?_); refine goesL_ (some 27) rfl rfl Tryz.func208 (by kernel_rfl) rfl #[.string (rdOf ByteArray.empty l0 (ji4)), .string a1] rfl ax33 ?_; (with_reducible refine (cmp_Less_string.calls (rdOf ByteArray.empty l0 (ji4)) a1 true _ A7.out).mono ?_); rintro e w' ⟨rfl, ⟨nd, rfl⟩⟩; refine ⟨_, rfl, ?_⟩))
       go_roundg k1
       case measure => have := HK1.out; omega
       case rel => exact ⟨(wrap64 ((ji4) + 1)), (x8_1), ax34, ax18, H', ⟨by have := HK1.out; omega⟩, ax19⟩
      ·replace c8 := Bool.eq_false_iff.mpr c8
       subst c8; rw [if_neg (show ¬ (false = true) by decide)] at H; have H' := am H; clear H; have p138 : 0 ≤ ((ji4) : Int) := of_decide_eq_true ax23; have q138 : (ji4) < (l0.length : Int) := of_decide_eq_true ax23; obtain ⟨ad138, e138, hx138_0⟩ := Kd.at_string HR0.out (ji4) p138 q138
       cases e138
       replace p138 := eq_true p138; replace q138 := eq_true q138
       go_wp2_with (first | ((with_reducible refine gate_callee (f := 208) rfl ?_); refine goesL_ (some 27) rfl rfl Tryz.func208 (by kernel_rfl) rfl #[.string (rdOf ByteArray.empty l0 (ji4)), .string a1] rfl ax33 ?_; (with_reducible refine (cmp_Less_string.calls (rdOf ByteArray.empty l0 (ji4)) a1 false _ A7.out).mono ?_); rintro e w' ⟨rfl, ⟨nd, rfl⟩⟩; refine ⟨_, rfl, ?_⟩))
       go_roundg k1
       case measure => have := HK1.out; omega
       case rel => exact ⟨(x7_1), (ji4), ax18, ax34, H', ⟨by have := HK1.out; omega⟩, ax19⟩
     ·exact ax5
    ·exact ax6
   ·rw [if_neg c3] at H
    have c3b0 := decide_eq_false c3; clear c3
    by_cases c9 : x7_1 < (l0.length : Int)
    ·rw [if_pos c9] at H
     have c9b0 := decide_eq_true c9; clear c9
     by_cases c10 : 0 ≤ x7_1
     ·rw [if_pos c10] at H
      have c10b0 := decide_eq_true c10; clear c10
      by_cases c11 : x7_1 < (l0.length : Int)
      ·rw [if_pos c11] at H
       have c11b0 := decide_eq_true c11; clear c11
       by_cases c12 : (rdOf ByteArray.empty l0 x7_1).toList = a1.toList
       ·rw [if_pos c12] at H
        have c12b0 := beq_iff_eq.mpr c12; have c12b1 := bne_eq_false_iff_eq.mpr c12; clear c12; simp only [Option.some.injEq, Prod.mk.injEq] at H; obtain ⟨rfl, rfl⟩ := H; have p140 : 0 ≤ (x7_1 : Int) := of_decide_eq_true ax23; have q140 : x7_1 < (l0.length : Int) := of_decide_eq_true ax23; obtain ⟨ad140, e140, hx140_0⟩ := Kd.at_string HR0.out x7_1 p140 q140
        cases e140
        replace p140 := eq_true p140; replace q140 := eq_true q140
        go_wp2
        go_ret2
        exact ⟨ax18, ax19⟩
       ·rw [if_neg c12] at H
        have c12b0 := beq_eq_false_iff_ne.mpr c12; have c12b1 := bne_iff_ne.mpr c12; obtain ⟨t142, A13, H⟩ := bs H
        by_cases c14 : t142 = true
        ·subst c14
         rw [if_pos rfl] at H; obtain ⟨t143, A15, H⟩ := bs H; simp only [Option.some.injEq, Prod.mk.injEq] at H; obtain ⟨rfl, rfl⟩ := H; have p140 : 0 ≤ (x7_1 : Int) := of_decide_eq_true ax23; have q140 : x7_1 < (l0.length : Int) := of_decide_eq_true ax23; obtain ⟨ad140, e140, hx140_0⟩ := Kd.at_string HR0.out x7_1 p140 q140
         cases e140
         replace p140 := eq_true p140; replace q140 := eq_true q140; have p141 : 0 ≤ (x7_1 : Int) := of_decide_eq_true ax23; have q141 : x7_1 < (l0.length : Int) := of_decide_eq_true ax23; obtain ⟨ad141, e141, hx141_0⟩ := Kd.at_string HR0.out x7_1 p141 q141; obtain rfl : ad140 = ad141 := (by injection e141); replace p141 := eq_true p141; replace q141 := eq_true q141
         go_wp2_with (first | (go_at_call 209; (with_reducible refine (slices_isNaN_string.calls (rdOf ByteArray.empty l0 x7_1) true _ A13.out).mono ?_); rintro e w' ⟨rfl, ⟨nd, rfl⟩⟩) | (go_at_call 209; (with_reducible refine (slices_isNaN_string.calls a1 t143 _ A15.out).mono ?_); rintro e w' ⟨rfl, ⟨nd, rfl⟩⟩))
         go_ret2
         exact ⟨ax18, ax19⟩
        ·replace c14 := Bool.eq_false_iff.mpr c14
         subst c14; rw [if_neg (show ¬ (false = true) by decide)] at H; simp only [Option.some.injEq, Prod.mk.injEq] at H; obtain ⟨rfl, rfl⟩ := H; have p140 : 0 ≤ (x7_1 : Int) := of_decide_eq_true ax23; have q140 : x7_1 < (l0.length : Int) := of_decide_eq_true ax23; obtain ⟨ad140, e140, hx140_0⟩ := Kd.at_string HR0.out x7_1 p140 q140
         cases e140
         replace p140 := eq_true p140; replace q140 := eq_true q140; have p141 : 0 ≤ (x7_1 : Int) := of_decide_eq_true ax23; have q141 : x7_1 < (l0.length : Int) := of_decide_eq_true ax23; obtain ⟨ad141, e141, hx141_0⟩ := Kd.at_string HR0.out x7_1 p141 q141; obtain rfl : ad140 = ad141 := (by injection e141); replace p141 := eq_true p141; replace q141 := eq_true q141
         go_wp2_with (first | (go_at_call 209; (with_reducible refine (slices_isNaN_string.calls (rdOf ByteArray.empty l0 x7_1) false _ A13.out).mono ?_); rintro e w' ⟨rfl, ⟨nd, rfl⟩⟩))
         go_ret2
         exact ⟨ax18, ax19⟩
      ·exact ax1
     ·exact ax4
    ·rw [if_neg c9] at H
     have c9b0 := decide_eq_false c9; clear c9; simp only [Option.some.injEq, Prod.mk.injEq] at H; obtain ⟨rfl, rfl⟩ := H
     go_wp2
     go_ret2
     exact ⟨ax18, ax19⟩

/-! ### impl_set: function 206: a contract of our own -/
section
open Go.Shelf Go.Sort
attribute [local go_sem] Oper.semAt_some
/-- slices.Values's closure, for every loop body that keeps what lay below the call's begin. -/
theorem impl_set.values1 (F : Fence) (n : Nat) (h7 : F.fn 245) (hro : F.round = none) (hn : 1 ≤ n) (l Bs : Nat) (A : Option Addr) (cap : Nat) (zs : List ByteArray) (w0 : World) (hC : Kd.string.C w0 A zs.length zs) (J Jx : List ByteArray → World → Prop)
  (hY : ∀ pre x W, J pre W → pre.length < zs.length → YieldAt F (n - 1) Tryz.prog l #[.string x] W fun e W' =>
   (e = .returned (.bool true) ∧ J (pre ++ [x]) W' ∧ Below w0.heap.size W W') ∨ (e = .returned (.bool false) ∧ Jx (pre ++ [x]) W'))
  (W : World) (hW : Below w0.heap.size w0 W) (hBs : W.cell? ⟨Bs, 0, none⟩ = some (.slice A zs.length cap)) (h0 : J [] W) :
  CallsIn F n Tryz.prog 245 #[.func (.yield l) #[] #[], .pointer (some ⟨Bs, 0, none⟩)] W fun e W' => (∃ v, e = .returned v) ∧
   ((∃ ys, ys = zs ∧ J ys W') ∨ (∃ pre, pre <+: zs ∧ Jx pre W')) := by
 have hlen := hC.2.1; refine callsIn_of_wp Tryz.func245 rfl h7 ?_ hro; simp only [Tryz.ntmps245, List.size_toArray, List.length_cons, List.length_nil, Nat.reduceAdd, Nat.reduceSub, Array.replicate_succ, Array.replicate_zero, List.push_toArray, List.append_toArray, List.nil_append, List.cons_append]
 gi_wp2
 gi_loopw [7] (fun i wr => ∃ k : Nat, k ≤ zs.length ∧ i = .int .i64 k ∧ J (zs.take k) wr ∧ Below w0.heap.size w0 wr)
  (fun i _ => zs.length - (intOf i).toNat)
 case atStart => exact ⟨0, Nat.zero_le _, rfl, h0, hW⟩
 case round =>
  obtain ⟨k, hk, rfl, hJs, hB⟩ := hrel
  by_cases hlt : k < zs.length
  ·obtain ⟨ad, rfl, hcell⟩ := Kd.at_string (Kd.C_below hC hB) (k : Int) (by omega) (by omega)
   have hx : zs.take (k + 1) = zs.take k ++ [rdOf ByteArray.empty zs (k : Int)] := by
    rw [List.take_succ_eq_append_getElem hlt]; congr 1; simp [rdOf, List.getD, List.getElem?_eq_getElem hlt]
   generalize rdOf ByteArray.empty zs (k : Int) = y at hx hcell; simp only [Int.toNat_natCast] at hcell; obtain ⟨fn, tmps, assign, body, hy, hR⟩ := hY _ y wr hJs (by rw [List.length_take]; omega); have HX := am hx; have HC := am hC; clear hx hC
   gi_wp2
   refine hR.mono ?_; rintro e W3 (⟨rfl, hJ3, hk3⟩ | ⟨rfl, hJx3⟩)
   ·gi_wp2
    go_roundw
    case rel => exact ⟨k + 1, by omega, by simp, by rw [HX.out]; exact hJ3, hB.trans hk3⟩
    case measure => simp [intOf]; omega
   ·gi_wp2
    refine bodyPost_ret (results_none rfl _ _ _) rfl ?_
    exact ⟨⟨_, rfl⟩, .inr ⟨_, by rw [← HX.out]; exact List.take_prefix _ _, hJx3⟩⟩
  ·obtain rfl : k = zs.length := by omega
   gi_wp2
   go_end0
   exact ⟨⟨_, rfl⟩, .inl ⟨_, rfl, by rw [List.take_length] at hJs; exact hJs⟩⟩
theorem impl_set.values (a : Option Addr) (len cap : Nat) (w : World) :
  Calls Tryz.prog 221 #[.slice a len cap] w fun e w' => e = .returned (.func (.func 245) #[] #[.pointer (some ⟨w.heap.size, 0, none⟩)]) ∧ w' = w.alloc (.cells #[.slice a len cap] 31) := by
 go_enter Tryz.func221, Tryz.ntmps221
 go_wp2
 go_ret
 exact ⟨rfl, rfl⟩
theorem impl_set.infoE : (Tryz.prog.info? 9).map (fun i => (i.zero, i.size, i.bytes)) = some (some (.string ⟨#[]⟩), 1, 16) := by kernel_rfl
theorem impl_set.appendSeq (Bs : Nat) (A : Option Addr) (cap : Nat) (zs : List ByteArray) (hmax : zs.length * 16 ≤ 140737488351232) (w0 w : World) (hC : Kd.string.C w0 A zs.length zs) (hw : Below w0.heap.size w0 w) (hlt : Bs < w.heap.size) (hBs : w.cell? ⟨Bs, 0, none⟩ = some (.slice A zs.length cap)) :
  CallsIn Fence.wide 4 Tryz.prog 258 #[.slice none 0 0, .func (.func 245) #[] #[.pointer (some ⟨Bs, 0, none⟩)]] w fun e W' => ∃ v, e = .returned v ∧ W'.ownsRow w.heap.size 9 1 v zs.length (zs.map Value.string) ∧ (v = .slice none 0 0 ↔ zs = []) ∧ Below w.heap.size w W' := by
 have h1 : 1 ≤ 4 := by omega
 have hro : Fence.wide.round = none := rfl; obtain ⟨i0, hi, hz0, hz1, hz2⟩ := info_parts impl_set.infoE; refine callsIn_of_wp_marks Tryz.func258 rfl trivial ?_ rfl; simp only [Tryz.ntmps258, List.size_toArray, List.length_cons, List.length_nil, Nat.reduceAdd, Nat.reduceSub, Array.replicate_succ, Array.replicate_zero, List.push_toArray, List.append_toArray, List.nil_append, List.cons_append]
 gi_wp2
 have bO := Boxed.new w 31 (.slice none 0 0); have hB0 : Below w.heap.size w (w.alloc (.cells #[.slice none 0 0] 31)) := (Below.refl _ w).alloc (Nat.le_refl _) _
 have hstops : SeqStopsK Fence.wide 3 Tryz.prog 245 #[.pointer (some ⟨Bs, 0, none⟩)] (fun x : ByteArray => #[Value.string x]) (Below w0.heap.size) (fun ys => ys = zs) (fun pre => pre <+: zs) zs.length w := fun l J Jx W hW _ _ hY h0 =>
  impl_set.values1 Fence.wide 3 trivial rfl (by omega) l Bs A cap zs w0 hC J Jx hY W (hw.trans (hW.mono hw.size)) ((hW.cell (p := ⟨Bs, 0, none⟩) hlt).trans hBs) h0
 refine wpIn_rangeFunc_ownG hro h1 (gf := 245) (lb := #[.pointer (some ⟨Bs, 0, none⟩)]) rfl trivial (enters_of Tryz.func245 (by kernel_rfl) rfl)
  hstops belowK_t (belowK_b (by have := hw.size; simp; omega)) hB0 (fun _ => rfl)
  (fun pre W => (∃ v, Boxed W w.heap.size 31 v ∧ W.ownsRow w.heap.size 9 1 v pre.length (pre.map Value.string) ∧ (v = .slice none 0 0 ↔ pre = [])) ∧ Below w.heap.size w W)
  (fun _ _ _ => False)
  (OwnFrom.and (Own.from (holdsRow_own w.heap.size w.heap.size 31 9 1 (fun pre => pre.length) (fun pre => pre.map Value.string) (fun pre v => v = .slice none 0 0 ↔ pre = [])) _) (ownFrom_below (Nat.le_refl _) (by simp; try omega)))
  (fun _ _ _ _ _ hs _ _ => hs)
  ⟨⟨_, bO, World.ownsRow_nil _ _ _ _, by simp⟩, hB0⟩
  (fun x => { tmps := #[.slice none 0 0, .func (.func 245) #[] #[.pointer (some ⟨Bs, 0, none⟩)], .pointer (some ⟨w.heap.size, 0, none⟩), undef, .slice none 0 0, .string x, .func (.func 245) #[] #[.pointer (some ⟨Bs, 0, none⟩)], .string x, undef, undef, undef, undef, undef], defers := [] }) ?assign ?body ?done ?stop
 case assign =>
  intro l x W K hK
  gi_wp2
  exact hK
 case body =>
  rintro l pre x W ⟨⟨v, hv, hrow, hnil⟩, hB⟩ hlt; have hc := hv.cell
  gi_wp2_with (gi_at_builtin; refine wpListIn_append_own _ rfl _ _ 31 rfl w.heap.size 9 i0 (.string ⟨#[]⟩) 1 16 Tryz.underlying31 hi hz0 hz1 hz2 rfl (by decide) _ _ _ rfl (hrow.alloc _) ⟨W.heap.size, 0, none⟩ 1 1 [.string x] rfl rfl (cell_one_new _ _ _) (by simp [Value.oneCell']) (by unfold maxLen; omega) (by omega) (by have := hB.size; simp; omega) ?_; intro v' w1 hown' hgrow _; obtain ⟨g', cap', rfl⟩ := ownsRow_succ hown'; obtain ⟨hv1, hv2, hr2, hk2, hb2⟩ := hv.appended (by decide) hrow hB.size (Nat.le_refl _) hown' hgrow; have hc1 := hv1.cell; have hf1 := hv1.frozen)
  exact ⟨hk2.from _, hb2.mono hw.size, ⟨_, hv2, by simpa using hr2, by simp⟩, hB.trans hb2⟩
 case done =>
  rintro D ys W hD rfl ⟨⟨v, hv, hrow, hnil⟩, hB⟩ hK; have hc := hv.cell
  gi_wp2
  refine ⟨by simp, .inl ⟨_, _, rfl, run_takeDeferred hK, ?_⟩⟩
  exact ⟨_, results_tmp rfl _ _ _, v, rfl, ownsRow_putObj hrow _ hK rfl, hnil, hB.trans (belowK_b (w := w) (Nat.le_refl _) W D _ _ (by simp at hD; omega) hK rfl rfl)⟩
 case stop =>
  rintro D c pre W _ _ h _
  exact h.elim
theorem impl_set.collect (Bs : Nat) (A : Option Addr) (cap : Nat) (zs : List ByteArray) (hmax : zs.length * 16 ≤ 140737488351232) (w0 w : World) (hC : Kd.string.C w0 A zs.length zs) (hw : Below w0.heap.size w0 w) (hlt : Bs < w.heap.size) (hBs : w.cell? ⟨Bs, 0, none⟩ = some (.slice A zs.length cap)) :
  Calls Tryz.prog 243 #[.func (.func 245) #[] #[.pointer (some ⟨Bs, 0, none⟩)]] w fun e W' => ∃ v, e = .returned v ∧ W'.ownsRow w.heap.size 9 1 v zs.length (zs.map Value.string) ∧ (v = .slice none 0 0 ↔ zs = []) ∧ Below w.heap.size w W' := by
 have hap := callsIn_wide.1 (impl_set.appendSeq Bs A cap zs hmax w0 w hC hw hlt hBs)
 go_enter Tryz.func243, Tryz.ntmps243
 go_wp2_with (go_at_call 258; refine hap.mono ?_; rintro e W ⟨v, rfl, hrow, hnil, hb⟩)
 go_ret
 exact ⟨v, rfl, hrow, hnil, hb⟩
/-- What the set of words is: sorted, each once. -/
def impl_set.setOf (l : List ByteArray) : List ByteArray := (Lib.compact ((l.map (·.data.toList)).mergeSort fun x y => decide (x ≤ y))).map (fun s => (⟨s.toArray⟩ : ByteArray))
theorem impl_set.own_base {W : World} {base base' : Nat} {e : TypeId} {size : Nat} {v : Value} {k : Nat} {xs : List Value} (h : W.ownsRow base e size v k xs) (hb : base' ≤ base) : W.ownsRow base' e size v k xs :=
 ⟨h.1, h.2.imp id fun ⟨g, cap, cur, h1, h2, h3⟩ => ⟨g, cap, cur, h1, Nat.le_trans hb h2, h3⟩⟩
def impl_set.f (l0 : List ByteArray) : Option (List ByteArray) := if l0.length * 16 ≤ 140737488351232 then some (impl_set.setOf l0) else none
theorem impl_set.own_left {w w1 : World} {e : TypeId} {g cap n nn q : Nat} {os : Array Obj} {ss : List (List UInt8)} (hown : w1.ownsRow w.heap.size e 1 (.slice (some ⟨g, 0, none⟩) n cap) n (ss.map encStr)) (hbel : Below w.heap.size w w1) (hbg : w.heap.size ≤ g) (hlen : ss.length = n) :
  (putRow encStr (Sort.ahead (grow (putRow encStr (Sort.ahead w1 nn) g 0 (ss.mergeSort fun x y => decide (x ≤ y)).toArray) os) q) g 0 (Lib.compact (ss.mergeSort fun x y => decide (x ≤ y)) ++ List.replicate (n - (Lib.compact (ss.mergeSort fun x y => decide (x ≤ y))).length) []).toArray).ownsRow w.heap.size e 1 (.slice (some ⟨g, 0, none⟩) (Lib.compact (ss.mergeSort fun x y => decide (x ≤ y))).length cap) (Lib.compact (ss.mergeSort fun x y => decide (x ≤ y))).length ((Lib.compact (ss.mergeSort fun x y => decide (x ≤ y))).map encStr) ∧
  Below w.heap.size w (putRow encStr (Sort.ahead (grow (putRow encStr (Sort.ahead w1 nn) g 0 (ss.mergeSort fun x y => decide (x ≤ y)).toArray) os) q) g 0 (Lib.compact (ss.mergeSort fun x y => decide (x ≤ y)) ++ List.replicate (n - (Lib.compact (ss.mergeSort fun x y => decide (x ≤ y))).length) []).toArray) := by
 have hl2 : (ss.mergeSort fun x y => decide (x ≤ y)).length = ss.length := List.length_mergeSort ss; have hle := Lib.compact_length_le (ss.mergeSort fun x y => decide (x ≤ y)); subst hlen
 rcases hown.2 with ⟨h0, _⟩ | ⟨g', cap', cur, hv, hbase, hb, h1, h2, h3, h4⟩
 ·cases h0
 cases hv
 have hs := ownsRow_sorted (n := nn) (os := os) (ts := ss.mergeSort fun x y => decide (x ≤ y)) hl2 hbase hb h1 h2 h3; have hc := Lib.ownsRow_putRow (q := q) (k := (Lib.compact (ss.mergeSort fun x y => decide (x ≤ y))).length) (ys := Lib.compact (ss.mergeSort fun x y => decide (x ≤ y)) ++ List.replicate (ss.length - (Lib.compact (ss.mergeSort fun x y => decide (x ≤ y))).length) []) hs (by simp; omega) (by omega); rw [List.take_left] at hc
 exact ⟨hc, Lib.below_putRow (hbel.grown (grownBy_sorted _) hbel.size (fun j hj => by cases hj; exact hbase)) hbg⟩
theorem impl_set.calls (A : Option Addr) (c : Nat) (l0 r : List ByteArray) (w : World) (hr : Kd.string.C w A l0.length l0) (hc : l0.length ≤ c) (h : impl_set.f l0 = some r) :
  Calls Tryz.prog 206 #[.slice A l0.length c] w fun e w' => ∃ v0_ : Value, e = .returned v0_ ∧ Kd.R Kd.string 9 w' w.heap.size (fun _ => True) v0_ r ∧ Below w.heap.size w w' := by
 unfold impl_set.f at h
 by_cases hm : l0.length * 16 ≤ 140737488351232
 case neg => rw [if_neg hm] at h; cases h
 rw [if_pos hm] at h; obtain rfl := Option.some.inj h; clear h; have hB1 : Below w.heap.size w (w.alloc (.cells #[.slice A l0.length c] 31)) := (Below.refl _ w).alloc (Nat.le_refl _) _; have hcol := impl_set.collect w.heap.size A c l0 hm w (w.alloc (.cells #[.slice A l0.length c] 31)) hr hB1 (by simp) ((blk_cell (blk_new w (.cells #[.slice A l0.length c] 31)) 0).trans rfl); have X0 := am hr; clear hr; obtain ⟨ss, hss⟩ : ∃ ss, ss = l0.map (·.data.toList) := ⟨_, rfl⟩
 have hssl : ss.length = l0.length := by rw [hss]; simp
 have hsv : l0.map Value.string = ss.map encStr := by rw [hss, List.map_map]; rfl
 rw [hsv] at hcol
 have HSET : impl_set.setOf l0 = (Lib.compact (ss.mergeSort fun x y => decide (x ≤ y))).map (fun s => (⟨s.toArray⟩ : ByteArray)) := by unfold impl_set.setOf; rw [hss]
 have X1 := am HSET
 have hnil0 : l0 = [] ↔ ss = [] := by rw [hss]; simp
 have X2 := am hnil0; clear hss hsv HSET hnil0
 -- slices.Sorted, over what is collected
 have hsorted : Calls Tryz.prog 220 #[.func (.func 245) #[] #[.pointer (some ⟨w.heap.size, 0, none⟩)]] (w.alloc (.cells #[.slice A l0.length c] 31)) fun e W' =>
   (e = .returned (.slice none 0 0) ∧ ss = [] ∧ Below w.heap.size w W') ∨ (∃ (w1 : World) (g cap nn : Nat) (os : Array Obj), e = .returned (.slice (some ⟨g, 0, none⟩) ss.length cap) ∧ w1.ownsRow w.heap.size 9 1 (.slice (some ⟨g, 0, none⟩) ss.length cap) ss.length (ss.map encStr) ∧ Below w.heap.size w w1 ∧ w.heap.size ≤ g ∧ g < w1.heap.size ∧ ss.length ≤ cap ∧ Holds encStr w1 g 0 ss.toArray ∧ W' = grow (putRow encStr (Sort.ahead w1 nn) g 0 (ss.mergeSort fun x y => decide (x ≤ y)).toArray) os) := by
  go_enter Tryz.func220, Tryz.ntmps220
  go_wp2_with (go_at_call 243; refine hcol.mono ?_; rintro e W ⟨v, rfl, hrow, hnil, hb⟩)
  by_cases hv : v = .slice none 0 0
  ·have he := X2.out.1 (hnil.1 hv)
   subst hv; have hb2 : Below w.heap.size w W := hB1.trans (hb.mono (by simp)); have Y := am (And.intro he hb2); clear he hb hb2 hrow hnil; have hs0 := Tryz.slices_Sort_string_none none 0 W
   go_wp2_with (go_at_call 244; refine hs0.mono ?_; rintro e w' ⟨rfl, rfl⟩)
   go_ret
   exact .inl ⟨rfl, Y.out.1, Y.out.2⟩
  ·rw [← hssl] at hrow
   obtain ⟨g, cap, rfl, hbg, hgl, hncap, hcm, hlen2, hH⟩ := Lib.holds_of_ownsRow hrow hv; have hsort := Tryz.slices_Sort_string g 0 cap ss W hH hgl (by omega); have Y := am (And.intro (impl_set.own_base (base' := w.heap.size) hrow (by simp)) (And.intro (hB1.trans (hb.mono (by simp))) (And.intro (show w.heap.size ≤ g by simp at hbg; omega) (And.intro hgl (And.intro hncap hH))))); clear hrow hv hnil hb hbg hgl hncap hcm hH hlen2
   go_wp2_with (go_at_call 244; refine hsort.mono ?_; rintro e w2 ⟨rfl, nn, os, rfl⟩)
   go_ret
   exact .inr ⟨W, g, cap, nn, os, by rw [hssl]; rfl, Y.out.1, Y.out.2.1, Y.out.2.2.1, Y.out.2.2.2.1, Y.out.2.2.2.2.1, Y.out.2.2.2.2.2, rfl⟩
 have hcall : Calls Tryz.prog 220 #[.func (.func 245) #[] #[.pointer (some ⟨w.heap.size, 0, none⟩)]] (w.alloc (.cells #[.slice A l0.length c] 31)) fun e W' =>
   ∃ v, e = .returned v ∧ Calls Tryz.prog 219 #[v] W' fun e w' => ∃ v0_ : Value, e = .returned v0_ ∧ Kd.R Kd.string 9 w' w.heap.size (fun _ => True) v0_ (impl_set.setOf l0) ∧ Below w.heap.size w w' := by
  refine hsorted.mono ?_; rintro e W' (⟨rfl, he, hb⟩ | ⟨w1, g, cap, nn, os, rfl, hown, hb1, hbg, hgl, hncap, hH, rfl⟩)
  ·refine ⟨_, rfl, ?_⟩
   have h0 := Tryz.slices_Compact_string_empty none 0 W'; refine h0.mono ?_; rintro e w' ⟨rfl, rfl⟩; refine ⟨_, rfl, ?_, hb⟩; rw [X1.out, he]; rw [show Lib.compact (([] : List (List UInt8)).mergeSort fun x y => decide (x ≤ y)) = [] by rw [List.mergeSort_nil]; rfl]
   exact Kd.R_nil _ _ _ _ _
  ·refine ⟨_, rfl, ?_⟩
   have hl2 : (ss.mergeSort fun x y => decide (x ≤ y)).length = ss.length := List.length_mergeSort ss
   have hH2 : Holds encStr (grow (putRow encStr (Sort.ahead w1 nn) g 0 (ss.mergeSort fun x y => decide (x ≤ y)).toArray) os) g 0 (ss.mergeSort fun x y => decide (x ≤ y)).toArray :=
    holds_grow encStr _ os g 0 _ (by simpa [putRow, mapBlock, Sort.ahead] using hgl) (holds_putRow encStr _ g 0 _ _ (holds_ahead encStr w1 nn g 0 _ hH) (by simp))
   have hcomp := Tryz.slices_Compact_string g 0 cap (ss.mergeSort fun x y => decide (x ≤ y)) _ hH2 (by omega) (by omega); rw [hl2] at hcomp; refine hcomp.mono ?_; rintro e w3 ⟨rfl, q, rfl⟩; obtain ⟨h1, h2⟩ := impl_set.own_left (q := q) (nn := nn) (os := os) hown hb1 hbg rfl; refine ⟨_, rfl, ?_, h2⟩; rw [X1.out]; refine Kd.R_of_own (h1 := fun _ => rfl) ?_ (fun _ _ => trivial)
   have e1 : encs Value.string ((Lib.compact (ss.mergeSort fun x y => decide (x ≤ y))).map (fun s => (⟨s.toArray⟩ : ByteArray))) = (Lib.compact (ss.mergeSort fun x y => decide (x ≤ y))).map encStr := by
    simp [encs, encStr]
   rw [e1, List.length_map]
   exact h1
 clear hcol hsorted; have X3 := am hB1; clear hB1
 go_enter Tryz.func206, Tryz.ntmps206
 go_wp2_with (first
  | (go_at_call 221; refine (impl_set.values _ _ _ _).mono ?_; rintro e w' ⟨rfl, rfl⟩)
  | (go_at_call 220; refine hcall.mono ?_; rintro e w' ⟨v, rfl, hcomp⟩; clear hcall)
  | (go_at_call 219; refine hcomp.mono ?_; rintro e w' ⟨v3, rfl, h1, h2⟩; clear hcomp))
 go_ret
 exact ⟨v3, rfl, h1, h2⟩
end

end Go.Proofs.YtcplbbflfgckbaaGreatDoor.X
namespace Go.Proofs.YtcplbbflfgckbaaGreatDoor.X
open Go.RowKit Go.Proofs.YtcplbbflfgckbaaGreatDoorW.PrintWords Go.Proofs.YtcplbbflfgckbaaGreatDoorW.PrintLast Go.Proofs.YtcplbbflfgckbaaGreatDoorW.PrintMore
attribute [local go_sem] max2_int min2_int max_two min_two max_three min_three max_four min_four   -- for this text's walks alone
set_option linter.unusedVariables false
set_option linter.unusedSimpArgs false
set_option maxHeartbeats 8000000
set_option maxRecDepth 100000

/-! ### impl_trieOf: function 150 -/
mutual
def impl_trieOf.l0 : Nat → List ByteArray → List ByteArray → List ByteArray → Int → Int → Option ((List (S74)))
 | 0, _, _, _, _, _ => none
 | k + 1, x0, x3, x15, x16, x17 => if x17 < x16 then (if 0 ≤ x17 then (if x17 < (x15.length : Int) then (impl_trieOf.l1 k x0 x3 (rdOf ByteArray.empty x15 x17) x15 x16 x17 ((rdOf ByteArray.empty x15 x17).size : Int) 0) else (none)) else (none)) else ((impl_set.f x3).bind fun t152 => (impl_trieOf.l2 k x0 t152 (t152.length : Int) 0 ([] : List (ByteArray × Int)) ([] : List (S74))))
def impl_trieOf.l1 : Nat → List ByteArray → List ByteArray → ByteArray → List ByteArray → Int → Int → Int → Int → Option ((List (S74)))
 | 0, _, _, _, _, _, _, _, _ => none
 | k + 1, x0, x3, x5, x15, x16, x17, x22, x23 => if x23 < x22 then (if 0 ≤ (wrap64 (x23 + 1)) then (if (wrap64 (x23 + 1)) ≤ (x5.size : Int) then (if x3.length < 8796093022208 then (impl_trieOf.l1 k x0 (x3 ++ [x5.extract 0 ((wrap64 (x23 + 1)) : Int).toNat]) x5 x15 x16 x17 x22 (wrap64 (x23 + 1))) else (none)) else (none)) else (none)) else (impl_trieOf.l0 k x0 x3 x15 x16 (wrap64 (x17 + 1)))
def impl_trieOf.l2 : Nat → List ByteArray → List ByteArray → Int → Int → List (ByteArray × Int) → List (S74) → Option ((List (S74)))
 | 0, _, _, _, _, _, _ => none
 | k + 1, x0, x39, x40, x41, x156000, x157000 => if x41 < x40 then (if 0 ≤ x41 then (if x41 < (x39.length : Int) then (if x156000.length < 9223372036854775807 then (if (rdOf ByteArray.empty x39 x41).size ≤ 9223372036854775807 then (if -9223372036854775808 ≤ x41 then (if x41 ≤ 9223372036854775807 then ((some ((rdOf ByteArray.empty x39 x41, x41) :: x156000 : List (ByteArray × Int))).bind fun y158 => ((slices_BinarySearch_string_string.f k x0 (rdOf ByteArray.empty x39 x41)).bind fun bt159 => (if (rdOf ByteArray.empty x39 x41).toList = ([] : List UInt8) then (if x157000.length < 5864062014805 then (impl_trieOf.l2 k x0 x39 x40 (wrap64 (x41 + 1)) y158 (x157000 ++ [(⟨(-1), (-1), bt159.2⟩ : S74)])) else (none)) else (if 0 ≤ (wrap64 (((rdOf ByteArray.empty x39 x41).size : Int) - 1)) then (if (wrap64 (((rdOf ByteArray.empty x39 x41).size : Int) - 1)) < ((rdOf ByteArray.empty x39 x41).size : Int) then (if (wrap64 (((rdOf ByteArray.empty x39 x41).size : Int) - 1)) ≤ ((rdOf ByteArray.empty x39 x41).size : Int) then (if ((rdOf ByteArray.empty x39 x41).extract 0 ((wrap64 (((rdOf ByteArray.empty x39 x41).size : Int) - 1)) : Int).toNat).size ≤ 9223372036854775807 then (if x157000.length < 5864062014805 then (impl_trieOf.l2 k x0 x39 x40 (wrap64 (x41 + 1)) y158 (x157000 ++ [(⟨((bt (rdOf ByteArray.empty x39 x41) (wrap64 (((rdOf ByteArray.empty x39 x41).size : Int) - 1))) - 97) % 256, G.mapGet y158 ((rdOf ByteArray.empty x39 x41).extract 0 ((wrap64 (((rdOf ByteArray.empty x39 x41).size : Int) - 1)) : Int).toNat), bt159.2⟩ : S74)])) else (none)) else (none)) else (none)) else (none)) else (none))))) else (none)) else (none)) else (none)) else (none)) else (none)) else (none)) else (some x157000)
end
def impl_trieOf.f (k : Nat) (l0 : List ByteArray) : Option ((List (S74))) := impl_trieOf.l0 k l0 (([(⟨#[]⟩ : ByteArray)] : List ByteArray)) l0 (l0.length : Int) 0
def impl_trieOf.T20 : Bool × List (List Nat × List Nat) := (true, [([], []), ([], []), ([1], [1]), ([2], [2]), ([0, 3], [0, 3]), ([4], [4]), ([5], [5]), ([], []), ([], []), ([], []), ([9], [9]), ([10], [10]), ([8, 11], [8, 11]), ([7, 12], [7, 12]), ([0, 1, 2, 3, 4, 5, 6], []), ([14, 6, 0, 1, 2, 3, 4, 5, 6], [6, 14]), ([0, 1, 2, 3, 4, 5, 6, 7, 8, 9, 10, 11, 12, 13, 14, 15], []), ([16, 13, 15, 0, 1, 2, 3, 4, 5, 6, 7, 8, 9, 10, 11, 12, 13, 14, 15], [13, 16])])
def impl_trieOf.B20 : List Nat := [0, 0, 2, 6, 15, 31, 63, 0, 0, 0, 512, 1536, 3840, 8064, 127, 16511, 65535, 131071]
theorem impl_trieOf.tab20 : rtab .any (opsOf Tryz.f150 20) = impl_trieOf.T20 := by kernel_rfl
theorem impl_trieOf.bits20 : waitsOk impl_trieOf.T20.2 impl_trieOf.B20 = true := by kernel_rfl
theorem impl_trieOf.calls (k : Nat) (A0 : Option Addr) (c0 : Nat) (l0 : List ByteArray) (r : List (S74)) (w : World) (hr0 : Kd.C Kd.string w A0 l0.length l0) (hc0 : l0.length ≤ c0) (h : impl_trieOf.f k l0 = some r) :
  Calls Tryz.prog 150 #[.slice A0 l0.length c0] w fun e w' => ∃ v0_ : Value, e = .returned (.agg #[v0_]) ∧ Kd.R k74 74 w' w.heap.size (fun _ => True) v0_ r ∧ Below w.heap.size w w' := by
 have hu26 := Tryz.underlying26; have hu74 := Tryz.underlying74; have HR0 := am hr0; have HC0 := am hc0; clear hr0 hc0; have HB := am (Below.refl w.heap.size w)
 unfold impl_trieOf.f at h
 have H := h; clear h; obtain ⟨y145, hy145⟩ : ∃ y_ : List ByteArray, y_ = (([(⟨#[]⟩ : ByteArray)] : List ByteArray)) := ⟨_, rfl⟩
 replace H : (impl_trieOf.l0 k l0 y145 l0 (l0.length : Int) 0) = some r := by first | (rw [hy145]; with_reducible exact H) | (have H2_ := (Option.bind_some _ _).symm.trans H; rw [hy145]; with_reducible exact H2_) | (have H2_ := (Option.bind_some _ _).symm.trans H; with_reducible exact H2_) | with_reducible exact H | (rw [hy145]; exact H) | exact H
 have Ny145 := am hy145; clear hy145; have H' := am H; clear H
 go_enter Tryz.func150, Tryz.ntmps150
 go_wp2_with (first | ((with_reducible refine gt 2 ?_); refine bx 2 #[.slice none 0 0] 26 ?_; intro gb144 hg w2 hbox hb; have BK144 := am (hbox); have GW144 := uG hg HB; have GE144 := uG hg HB; replace HB := uB HB hb; clear hb hbox hg) | ((with_reducible refine gt 14 ?_); refine Kd.R_lit Kd.string _ 9 ?hg (N := 14) ?hd (xs := ([(⟨#[]⟩ : ByteArray)] : List ByteArray)) (inner := [.string (⟨#[]⟩ : ByteArray)]) (ok := fun _ => True) (okp := fun _ => True) ?hr ?hp (fun _ hk => hk) trivial (Below.refl _ _) (Nat.le_refl _) (by simp) ?_; (case hd => rfl); (case hg => rfl); (case hr => exact ax20); (case hp => exact ax22); intro v146 w3 ho4 hb hg_ hnew_; clear hg_ hnew_; (first | rw [← Ny145.out] at ho4 | (simp only [Int.reduceToNat] at ho4; rw [← Ny145.out] at ho4)); have HO147 := am (Kd.R_lower ho4 (bS HB)); replace BK144 := ub BK144 hb; replace HB := uS HB hb; clear hb ho4))
 go_loopg [3, 17] k (fun kq v3 v17 w' => ∃ (x3_1 : List ByteArray) (x17_1 : Int), v17 = .int .i64 x17_1 ∧ Aside0 (impl_trieOf.l0 kq l0 x3_1 l0 (l0.length : Int) x17_1 = some r) ∧ Aside0 (kq ≤ k) ∧ Aside0 (Kd.R Kd.string 9 w' w.heap.size (fun _ => True) v3 x3_1) ∧ Aside0 (w'.heap[gb144]? = some (.cells #[(.slice none 0 0)] 26 (0, 0))) ∧ Aside0 (Below w.heap.size w w'))
 case atStart => exact ⟨(y145), (0), ax18, H', ⟨Nat.le_refl _⟩, ⟨aU⟩, ⟨aU⟩, ⟨aL⟩⟩
 case round =>
  clear H'; obtain ⟨x3_1, x17_1, rfl, HA, HK1, HO_3, BK144, HB⟩ := hrel
  cases gk with
  | zero => exact absurd HA.out (by simp [impl_trieOf.l0])
  | succ k1 =>
   have H := HA.out; clear HA; simp only [impl_trieOf.l0] at H
   by_cases c5 : x17_1 < (l0.length : Int)
   ·rw [if_pos c5] at H
    have c5b0 := decide_eq_true c5; clear c5
    by_cases c6 : 0 ≤ x17_1
    ·rw [if_pos c6] at H
     have c6b0 := decide_eq_true c6; clear c6
     by_cases c7 : x17_1 < (l0.length : Int)
     ·rw [if_pos c7] at H
      have c7b0 := decide_eq_true c7; clear c7; have H' := am H; clear H; have p148 : 0 ≤ (x17_1 : Int) := of_decide_eq_true ax23; have q148 : x17_1 < (l0.length : Int) := of_decide_eq_true ax23; obtain ⟨ad148, e148, hx148_0⟩ := Kd.at_string HR0.out x17_1 p148 q148
      cases e148
      replace hx148_0 := uC HB hx148_0; replace p148 := eq_true p148; replace q148 := eq_true q148
      go_wp2
      go_loopg [3, 23] k1 (fun kq v3 v23 w' => ∃ (x3_2 : List ByteArray) (x23_2 : Int), v23 = .int .i64 x23_2 ∧ Aside0 (impl_trieOf.l1 kq l0 x3_2 (rdOf ByteArray.empty l0 x17_1) l0 (l0.length : Int) x17_1 ((rdOf ByteArray.empty l0 x17_1).size : Int) x23_2 = some r) ∧ Aside0 (kq ≤ k1) ∧ Aside0 (Kd.R Kd.string 9 w' w.heap.size (fun _ => True) v3 x3_2) ∧ Aside0 (w'.heap[gb144]? = some (.cells #[(.slice none 0 0)] 26 (0, 0))) ∧ Aside0 (Below w.heap.size w w'))
      case atStart => exact ⟨(x3_1), (0), ax18, H', ⟨Nat.le_refl _⟩, ⟨aU⟩, ⟨aU⟩, ⟨aL⟩⟩
      case round =>
       clear H'; (try clear q148);(try clear p148);(try clear hx148_0);(try clear c7);(try clear c7b0);(try clear c6);(try clear c6b0);(try clear c5);(try clear c5b0); obtain ⟨x3_2, x23_2, rfl, HA, HK2, HO_3, BK144, HB⟩ := hrel
       cases gk with
       | zero => exact absurd HA.out (by simp [impl_trieOf.l1])
       | succ k2 =>
        have H := HA.out; clear HA; simp only [impl_trieOf.l1] at H
        by_cases c8 : x23_2 < ((rdOf ByteArray.empty l0 x17_1).size : Int)
        ·rw [if_pos c8] at H
         have c8b0 := decide_eq_true c8; clear c8; obtain ⟨ji9, hji9⟩ : ∃ j_ : Int, (wrap64 (x23_2 + 1)) = j_ := ⟨_, rfl⟩; (first | rw [hji9] at H | simp only [hji9] at H); have hji9w : (IntKind.i64.wrap (x23_2 + 1)) = ji9 := (i64_w _).trans hji9
         by_cases c10 : 0 ≤ (ji9)
         ·rw [if_pos c10] at H
          have c10b0 := eq_true c10; have c10b1 := decide_eq_true c10; clear c10
          by_cases c11 : (ji9) ≤ ((rdOf ByteArray.empty l0 x17_1).size : Int)
          ·rw [if_pos c11] at H
           have c11b0 := eq_true c11; have c11b1 := decide_eq_true c11; clear c11; obtain ⟨js12, hjs12⟩ : ∃ j_ : ByteArray, ((rdOf ByteArray.empty l0 x17_1).extract 0 ((ji9) : Int).toNat) = j_ := ⟨_, rfl⟩; (first | rw [hjs12] at H | simp only [hjs12] at H)
           by_cases c13 : x3_2.length < 8796093022208
           ·rw [if_pos c13] at H
            have LMc13 := am c13; clear c13; obtain ⟨y149, hy149⟩ : ∃ y_ : List ByteArray, y_ = (x3_2 ++ [js12]) := ⟨_, rfl⟩
            replace H : (impl_trieOf.l1 k2 l0 y149 (rdOf ByteArray.empty l0 x17_1) l0 (l0.length : Int) x17_1 ((rdOf ByteArray.empty l0 x17_1).size : Int) ji9) = some r := by first | (rw [hy149]; with_reducible exact H) | (have H2_ := (Option.bind_some _ _).symm.trans H; rw [hy149]; with_reducible exact H2_) | (have H2_ := (Option.bind_some _ _).symm.trans H; with_reducible exact H2_) | with_reducible exact H | (rw [hy149]; exact H) | exact H
            have Ny149 := am hy149; clear hy149; have H' := am H; clear H
            go_wp2_with (first | ((with_reducible refine gate_builtin (b := .append) (xs := #[.tmp 26, .tmp 31]) rfl ?_); at_builtin; refine Kd.R_append Kd.string (w0 := w) w.heap.size rfl (.tmp 26) (.tmp 31) 31 9 (.string ⟨#[]⟩) 16 rfl Tryz.underlying31 info9 rfl (by decide) (by omega) u3 x3_2 js12 [.string js12] (fun _ => True) (fun _ => False) rfl rfl ?aP (fun _ hk => hk.elim) ?aF ?aO ?aB ?aS ?aL ?_; (case aP => exact rfl); (case aB => exact aL); (case aF => exact ax27); (case aO => exact (rX HO_3)); (case aS => exact ax28); (case aL => have := LMc13.out; omega); intro v150 w14 ho hb hg hat; rw [← Ny149.out] at ho; have n0_ := am (blk_grown (g := gb144) (o := .cells #[.slice none 0 0] 26 (0, 0)) aU hg (Kd.R_ne HO_3.out BK144.out (by decide))); have n1_ := am (hb); have n2_ := am (ho); clear BK144; clear HB; clear HO_3; have BK144 := n0_; have HB := n1_; have HO151 := n2_; clear n0_ n1_ n2_; clear ho hb hg hat))
            go_roundg k2
            case measure => have := HK1.out; have := HK2.out; omega
            case rel => exact ⟨(y149), (ji9), (by first | rfl | (simp; done) | (simp only [← hji9] <;> (first | rfl | simp)) | (simp [*]; done)), H', ⟨ax35⟩, ⟨aU⟩, ⟨aU⟩, ⟨aL⟩⟩
           ·rw [if_neg c13] at H
            exact absurd H (by simp)
          ·exact ax1
         ·exact ax4
        ·rw [if_neg c8] at H
         have c8b0 := decide_eq_false c8; clear c8; have H' := am H; clear H
         go_wp2
         go_roundg k2
         case measure => have := HK1.out; have := HK2.out; omega
         case rel => exact ⟨(x3_2), (wrap64 (x17_1 + 1)), ax18, H', ⟨ax35⟩, ⟨aU⟩, ⟨aU⟩, ⟨aL⟩⟩
     ·exact ax7
    ·exact ax5
   ·rw [if_neg c5] at H
    have c5b0 := decide_eq_false c5; clear c5; obtain ⟨t152, A15, H⟩ := bs H; have H' := am H; clear H; obtain ⟨Ao16, co16, rfl⟩ := Kd.R_slice HO_3.out
    go_wp2_with (first | ((with_reducible refine gd 36 206 ?_); refine gc 36 Tryz.func206 #[.slice Ao16 x3_1.length co16] (impl_set.calls _ _ x3_1 t152 _ (rd2 HO_3) (rl HO_3) A15.out) ?_; rintro e w17 ⟨v153, rfl, ho0, hb⟩; refine ⟨_, rfl, ?_⟩; have HO154 := am (Kd.R_lower (Kd.R_new' ho0 (Kd.R_lt (rX HO_3))) (bS HB)); replace HO_3 := am (Kd.R_elder' (rX HO_3) (Kd.R_base ho0) hb); replace BK144 := ub BK144 hb; replace HB := uS HB hb; (try clear hb ho0)) | ((with_reducible refine gt 38 ?_); refine G.mnew_event ?hg (N := 38) ?hd 9 3 ?hr ?_; (case hd => rfl); (case hg => rfl); (case hr => first | rfl | (go_simp; done) | (go_simp; rfl) | (simp [execOp, run_makeMap]; done)); intro gm155 hg w18 hmap hb; replace HO_3 := uR HO_3 hb; replace HO154 := uR HO154 hb; replace BK144 := ub BK144 hb; have MP155 := am (hmap); have GM155 := am ((ax36 : w.heap.size ≤ gm155)); replace HB := uS HB hb; clear hb hmap hg) | ((with_reducible refine gt 7 ?_); refine bx 7 #[.slice none 0 0] 26 ?_; intro gb156 hg w19 hbox hb; replace HO_3 := uR HO_3 hb; replace HO154 := uR HO154 hb; replace MP155 := am (G.MapIs.below (show G.MapIs Tryz.prog 9 3 _ gm155 ([] : List (ByteArray × Int)) from ax37) hb); have BK156 := am (hbox); have GW156 := uH hg HB; have GE156 := uH hg HB; replace HB := uS HB hb; obtain ⟨NB144_156, NB156_144, BK144⟩ := uA hg hb BK144; clear hb hbox hg; obtain ⟨hnb20, hnc20⟩ := nk NB156_144; obtain ⟨hcz21_0, hfz21_0⟩ := bz (.slice none 0 0) BK156; obtain ⟨Ao22, co22, rfl⟩ := Kd.R_slice HO154.out))
    go_loopg [41] k1 (fun kq v41 w' => ∃ (x41_2 : Int) (x156000_2 : List (ByteArray × Int)) (x157000_2 : List (S74)) (u157000 : Value), v41 = .int .i64 x41_2 ∧ Aside0 (impl_trieOf.l2 kq l0 t152 (t152.length : Int) x41_2 x156000_2 x157000_2 = some r) ∧ Aside0 (kq ≤ k1) ∧ Aside0 (Kd.R Kd.string 9 w' w.heap.size (fun _ => True) (.slice Ao22 t152.length co22) t152) ∧ Aside0 (Kd.R k74 74 w' w.heap.size (fun _ => True) u157000 x157000_2) ∧ Aside0 (w'.heap[gb144]? = some (.cells #[(.slice none 0 0)] 26 (0, 0))) ∧ Aside0 (w'.heap[gb156]? = some (.cells #[u157000] 26 (0, 0))) ∧ Aside0 (G.MapIs Tryz.prog 9 3 w' gm155 x156000_2) ∧ Aside0 (Below w.heap.size w w'))
    case atStart => exact ⟨(0), (([] : List (ByteArray × Int))), (([] : List (S74))), (.slice none 0 0), ax18, H', ⟨Nat.le_refl _⟩, ⟨aU⟩, ⟨ax29⟩, ⟨aU⟩, ⟨aU⟩, ⟨show G.MapIs Tryz.prog 9 3 _ gm155 ([] : List (ByteArray × Int)) from by repeat (first | (with_reducible first | exact MP155.out | apply G.MapIs.alloc | apply G.MapIs.drewN | apply G.MapIs.drew | refine G.MapIs.set ?_ (G.MapIs.ne_blk MP155.out BK156.out) _ _) | exact MP155.out)⟩, ⟨aL⟩⟩
    case round =>
     clear H'; (try clear hcz21_0);(try clear hfz21_0);(try clear c5);(try clear c5b0);(try clear c6); obtain ⟨x41_2, x156000_2, x157000_2, u157000, rfl, HA, HK2, HO_39, HO_157000, BK144, BK156, MP155, HB⟩ := hrel
     cases gk with
     | zero => exact absurd HA.out (by simp [impl_trieOf.l2])
     | succ k2 =>
      have H := HA.out; clear HA; simp only [impl_trieOf.l2] at H
      by_cases c23 : x41_2 < (t152.length : Int)
      ·rw [if_pos c23] at H
       have c23b0 := decide_eq_true c23; clear c23
       by_cases c24 : 0 ≤ x41_2
       ·rw [if_pos c24] at H
        have c24b0 := decide_eq_true c24; clear c24
        by_cases c25 : x41_2 < (t152.length : Int)
        ·rw [if_pos c25] at H
         have c25b0 := decide_eq_true c25; clear c25
         by_cases c26 : x156000_2.length < 9223372036854775807
         ·rw [if_pos c26] at H
          have LMc26 := am c26; clear c26
          by_cases c27 : (rdOf ByteArray.empty t152 x41_2).size ≤ 9223372036854775807
          ·rw [if_pos c27] at H
           have LMc27 := am c27; clear c27
           by_cases c28 : -9223372036854775808 ≤ x41_2
           ·rw [if_pos c28] at H
            have LMc28 := am c28; clear c28
            by_cases c29 : x41_2 ≤ 9223372036854775807
            ·rw [if_pos c29] at H
             have LMc29 := am c29; clear c29; obtain ⟨y158, hy158⟩ : ∃ y_ : List (ByteArray × Int), y_ = ((rdOf ByteArray.empty t152 x41_2, x41_2) :: x156000_2) := ⟨_, rfl⟩
             replace H : ((slices_BinarySearch_string_string.f k2 l0 (rdOf ByteArray.empty t152 x41_2)).bind fun bt159 => (if (rdOf ByteArray.empty t152 x41_2).toList = ([] : List UInt8) then (if x157000_2.length < 5864062014805 then (impl_trieOf.l2 k2 l0 t152 (t152.length : Int) (wrap64 (x41_2 + 1)) y158 (x157000_2 ++ [(⟨(-1), (-1), bt159.2⟩ : S74)])) else (none)) else (if 0 ≤ (wrap64 (((rdOf ByteArray.empty t152 x41_2).size : Int) - 1)) then (if (wrap64 (((rdOf ByteArray.empty t152 x41_2).size : Int) - 1)) < ((rdOf ByteArray.empty t152 x41_2).size : Int) then (if (wrap64 (((rdOf ByteArray.empty t152 x41_2).size : Int) - 1)) ≤ ((rdOf ByteArray.empty t152 x41_2).size : Int) then (if ((rdOf ByteArray.empty t152 x41_2).extract 0 ((wrap64 (((rdOf ByteArray.empty t152 x41_2).size : Int) - 1)) : Int).toNat).size ≤ 9223372036854775807 then (if x157000_2.length < 5864062014805 then (impl_trieOf.l2 k2 l0 t152 (t152.length : Int) (wrap64 (x41_2 + 1)) y158 (x157000_2 ++ [(⟨((bt (rdOf ByteArray.empty t152 x41_2) (wrap64 (((rdOf ByteArray.empty t152 x41_2).size : Int) - 1))) - 97) % 256, G.mapGet y158 ((rdOf ByteArray.empty t152 x41_2).extract 0 ((wrap64 (((rdOf ByteArray.empty t152 x41_2).size : Int) - 1)) : Int).toNat), bt159.2⟩ : S74)])) else (none)) else (none)) else (none)) else (none)) else (none)))) = some r := by first | (rw [hy158]; with_reducible exact H) | (have H2_ := (Option.bind_some _ _).symm.trans H; rw [hy158]; with_reducible exact H2_) | (have H2_ := (Option.bind_some _ _).symm.trans H; with_reducible exact H2_) | with_reducible exact H | (rw [hy158]; exact H) | exact H
             have Ny158 := am hy158; clear hy158; obtain ⟨⟨t159, t160⟩, A30, H⟩ := bs H
             by_cases c31 : (rdOf ByteArray.empty t152 x41_2).toList = ([] : List UInt8)
             ·rw [if_pos c31] at H
              have c31b0 := beq_iff_eq.mpr c31; have c31b1 := bne_eq_false_iff_eq.mpr c31; clear c31
              by_cases c32 : x157000_2.length < 5864062014805
              ·rw [if_pos c32] at H
               have LMc32 := am c32; clear c32; obtain ⟨y162, hy162⟩ : ∃ y_ : List (S74), y_ = (x157000_2 ++ [(⟨(-1), (-1), t160⟩ : S74)]) := ⟨_, rfl⟩
               replace H : (impl_trieOf.l2 k2 l0 t152 (t152.length : Int) (wrap64 (x41_2 + 1)) y158 y162) = some r := by first | (rw [hy162]; with_reducible exact H) | (have H2_ := (Option.bind_some _ _).symm.trans H; rw [hy162]; with_reducible exact H2_) | (have H2_ := (Option.bind_some _ _).symm.trans H; with_reducible exact H2_) | with_reducible exact H | (rw [hy162]; exact H) | exact H
               have Ny162 := am hy162; clear hy162; have H' := am H; clear H; have p157 : 0 ≤ (x41_2 : Int) := of_decide_eq_true ax23; have q157 : x41_2 < (t152.length : Int) := of_decide_eq_true ax23; obtain ⟨ad157, e157, hx157_0⟩ := Kd.at_string (Kd.R_reads' HO_39.out).2.2 x41_2 p157 q157
               cases e157
               replace p157 := eq_true p157; replace q157 := eq_true q157
               go_wp2_with (first | ((with_reducible refine G.gate_mput (t := 139) (m := .tmp 46) (x := .tmp 47) (v := .tmp 48) rfl ?_); refine G.mput_event ?hg (t := 139) (m := .tmp 46) (x := .tmp 47) (v := .tmp 48) ?ho ?hd (b := gm155) (s := (rdOf ByteArray.empty t152 x41_2)) (i := x41_2) ?hm ?hx ?hv (K := 9) (E := 3) (c := x156000_2) ?ht ?hK ?hE ?hw ?hs ?hl ?hmap ?_; (case hg => rfl); (case ho => rfl); (case hd => rfl); (case hm => rfl); (case hx => rfl); (case hv => rfl); (case ht => exact Tryz.underlying139); (case hK => exact Tryz.underlying9); (case hE => exact Tryz.underlying3); (case hw => exact ax38); (case hs => exact LMc27.out); (case hl => exact LMc26.out); (case hmap => exact ax39); intro w33 hmap hg; rw [← Ny158.out] at hmap; replace HO_39 := am (Kd.R_grown1 (rX HO_39) rfl hg (G.MapIs.ne_row MP155.out HO_39.out)); replace HO_157000 := am (Kd.R_grown1 (rX HO_157000) rfl hg (G.MapIs.ne_row MP155.out HO_157000.out)); replace BK144 := am (blk_grown (g := gb144) (o := .cells #[.slice none 0 0] 26 (0, 0)) aU hg (fun e_ => G.MapIs.ne_blk MP155.out BK144.out ax40)); replace BK156 := am (blk_grown (g := gb156) (o := .cells #[u157000] 26 (0, 0)) aU hg (fun e_ => G.MapIs.ne_blk MP155.out BK156.out ax40)); replace MP155 := am (hmap); replace HB := am (Below.grown ax41 hg (bS HB) (fun k_ e_ => by cases e_; exact GM155.out)); clear hmap hg) | ((with_reducible refine gd 52 169 ?_); refine gc 52 Tryz.func169 #[.slice A0 l0.length c0, .string (rdOf ByteArray.empty t152 x41_2)] (slices_BinarySearch_string_string.calls k2 _ _ l0 (rdOf ByteArray.empty t152 x41_2) t159 t160 _ ax42 (HC0.out) A30.out) ?_; rintro e w' ⟨rfl, ⟨nd, rfl⟩⟩; refine ⟨_, rfl, ?_⟩; (try (rw [drewN_self w33]; generalize hq_ : World.drewN w33 _ = w33; have n0_ := qR HO_157000 hq_; have n1_ := qR HO_39 hq_; have n2_ : Aside0 (G.MapIs Tryz.prog 9 3 w33 gm155 y158) := ⟨ax43⟩; have n3_ := qB BK144 hq_; have n4_ := qB BK156 hq_; have n5_ := qL HB hq_; clear HO_157000 HO_39 MP155 BK144 BK156 HB hq_; have HO_157000 := n0_; have HO_39 := n1_; have MP155 := n2_; have BK144 := n3_; have BK156 := n4_; have HB := n5_; clear n0_ n1_ n2_ n3_ n4_ n5_))) | ((with_reducible refine gt 13 ?_); refine bx 13 #[.int .i64 0, .int .i64 0, .bool false] 74 ?_; intro gb161 hg w34 hbox hb; replace HO_39 := uR HO_39 hb; replace HO_157000 := am (Kd.R_below (Kd.R_elderB (rX HO_157000) gb161 (Nat.le_of_eq hg.symm)) hb); replace MP155 := am (G.MapIs.below (show G.MapIs Tryz.prog 9 3 _ gm155 y158 from ax37) hb); have BK161 := am (hbox); have GW161 := uH hg HB; have GE161 := uH hg HB; replace HB := uS HB hb; obtain ⟨NB144_161, NB161_144, BK144⟩ := uA hg hb BK144; obtain ⟨NB156_161, NB161_156, BK156⟩ := uA hg hb BK156; clear hb hbox hg; obtain ⟨hnb35, hnc35⟩ := nk NB161_144; obtain ⟨hnb36, hnc36⟩ := nk NB161_156; have hcz37_0 := bc (.int .i64 0) BK161 0; have hcz37_1 := bc (.int .i64 0) BK161 1; have hcz37_2 := bc (.bool false) BK161 2; have hfz37_0 := blk_frozen BK161.out 0; have hfz37_1 := blk_frozen BK161.out 1; have hfz37_2 := blk_frozen BK161.out 2; obtain ⟨hnb38, hnc38⟩ := nk NB156_144; obtain ⟨hcz39_0, hfz39_0⟩ := bz (u157000) BK156) | ((with_reducible refine gate_builtin (b := .append) (xs := #[.tmp 76, .tmp 78]) rfl ?_); at_builtin; refine Kd.R_append k74 (w0 := w) w.heap.size rfl (.tmp 76) (.tmp 78) 24 74 (.agg #[(.int .i64 0), (.int .i64 0), (.bool false)]) 24 rfl Tryz.underlying24 info74 rfl (by decide) (by omega) u157000 x157000_2 (⟨(-1), (-1), t160⟩ : S74) [.int .i64 (-1), .int .i64 (-1), .bool t160] (fun k_ => k_ ≠ gb161) (fun _ => False) rfl ax20 ?aP (fun _ hk => hk.elim) ?aF ?aO ?aB ?aS ?aL ?_; (case aP => exact k74_mkM _ _ _ (⟨(-1), (-1), t160⟩ : S74)); (case aB => exact aL); (case aF => exact (fun k_ hk => Kd.freshB (g := gb161) (o := .cells #[.int .i64 (-1), .int .i64 (-1), .bool t160] 74 (0, 0)) aU k_ hk)); (case aO => exact ax44); (case aS => exact ax28); (case aL => have := LMc32.out; omega); intro v163 w40 ho hb hg hat; rw [← Ny162.out] at ho; have n0_ := am (Kd.R_over' (rX HO_39) (Kd.R_typed (by (with_reducible repeat (first | apply Kd.R_alloc | apply Kd.R_drewN | apply Kd.R_drew)); exact (Kd.R_mono (Kd.R_far (p := ⟨gb161, 2, none⟩) (Kd.R_far (p := ⟨gb161, 1, none⟩) (Kd.R_far (p := ⟨gb161, 0, none⟩) (Kd.R_mono HO_157000.out (fun k_ hk => (⟨hk, hk.2⟩ : _ ∧ k_ ≠ gb161))) (fun _ hk => hk.2) (.int .i64 (-1))) (fun _ hk => hk.2) (.int .i64 (-1))) (fun _ hk => hk.2) (.bool t160)) (fun _ h_ => h_.1)))) (by decide) hg); have n1_ := am (blk_grown (g := gb144) (o := .cells #[.slice none 0 0] 26 (0, 0)) aU hg (Kd.R_ne HO_157000.out BK144.out (by decide))); have n2_ := am (blk_grown (g := gb156) (o := .cells #[u157000] 26 (0, 0)) aU hg (Kd.R_ne HO_157000.out BK156.out (by decide))); have n3_ := am (G.MapIs.grown (show G.MapIs Tryz.prog 9 3 _ gm155 y158 from (by repeat (first | (with_reducible first | exact MP155.out | apply G.MapIs.alloc | apply G.MapIs.drewN | apply G.MapIs.drew | refine G.MapIs.set ?_ (G.MapIs.ne_blk MP155.out BK161.out) _ _ | refine G.MapIs.set ?_ (G.MapIs.ne_blk MP155.out BK161.out) _ _ | refine G.MapIs.set ?_ (G.MapIs.ne_blk MP155.out BK161.out) _ _) | exact MP155.out))) hg (G.MapIs.ne_row MP155.out HO_157000.out)); have n4_ := am (blk_grown (g := gb161) (o := .cells #[.int .i64 (-1), .int .i64 (-1), .bool t160] 74 (0, 0)) aU hg (Kd.R_away HO_157000.out (fun _ hk => hk.2))); have n5_ := am (hb); have n6_ := am (ho); clear HO_39; clear BK144; clear BK156; clear MP155; clear BK161; clear HB; clear HO_157000; have HO_39 := n0_; have BK144 := n1_; have BK156 := n2_; have MP155 := n3_; have BK161 := n4_; have HB := n5_; have HO164 := n6_; clear n0_ n1_ n2_ n3_ n4_ n5_ n6_; clear ho hb hg hat; obtain ⟨Ao41, co41, rfl⟩ := Kd.R_slice HO164.out; obtain ⟨hcz42_0, hfz42_0⟩ := bz (u157000) BK156))
               go_roundg k2
               case measure => have := HK1.out; have := HK2.out; omega
               case rel => exact ⟨(wrap64 (x41_2 + 1)), (y158), (y162), (.slice Ao41 y162.length co41), ax18, H', ⟨ax35⟩, ⟨aU⟩, ⟨aU⟩, ⟨aU⟩, ⟨aU⟩, ⟨show G.MapIs Tryz.prog 9 3 _ gm155 y158 from by repeat (first | (with_reducible first | exact MP155.out | apply G.MapIs.alloc | apply G.MapIs.drewN | apply G.MapIs.drew | refine G.MapIs.set ?_ (G.MapIs.ne_blk MP155.out BK156.out) _ _) | exact MP155.out)⟩, ⟨aL⟩⟩
              ·rw [if_neg c32] at H
               exact absurd H (by simp)
             ·rw [if_neg c31] at H
              have c31b0 := beq_eq_false_iff_ne.mpr c31; have c31b1 := bne_iff_ne.mpr c31; obtain ⟨ji43, hji43⟩ : ∃ j_ : Int, (wrap64 (((rdOf ByteArray.empty t152 x41_2).size : Int) - 1)) = j_ := ⟨_, rfl⟩; (first | rw [hji43] at H | simp only [hji43] at H); (try rw [hji43] at A30); have hji43w : (IntKind.i64.wrap (((rdOf ByteArray.empty t152 x41_2).size : Int) - 1)) = ji43 := (i64_w _).trans hji43
              by_cases c44 : 0 ≤ (ji43)
              ·rw [if_pos c44] at H
               have c44b0 := decide_eq_true c44; clear c44
               by_cases c45 : (ji43) < ((rdOf ByteArray.empty t152 x41_2).size : Int)
               ·rw [if_pos c45] at H
                have c45b0 := decide_eq_true c45; clear c45; have cv47w : (IntKind.i64.wrap (((bt (rdOf ByteArray.empty t152 x41_2) (ji43)) - 97) % 256)) = (((bt (rdOf ByteArray.empty t152 x41_2) (ji43)) - 97) % 256) := (i64_w _).trans (by unfold wrap64; omega)
                have cv48z : wrap64 (((bt (rdOf ByteArray.empty t152 x41_2) (ji43)) - 97) % 256) = (((bt (rdOf ByteArray.empty t152 x41_2) (ji43)) - 97) % 256) := by unfold wrap64; omega
                have c49b0 := eq_true (of_decide_eq_true ax23 : 0 ≤ (ji43))
                by_cases c50 : (ji43) ≤ ((rdOf ByteArray.empty t152 x41_2).size : Int)
                ·rw [if_pos c50] at H
                 have c50b0 := eq_true c50; have c50b1 := decide_eq_true c50; clear c50; obtain ⟨js51, hjs51⟩ : ∃ j_ : ByteArray, ((rdOf ByteArray.empty t152 x41_2).extract 0 ((ji43) : Int).toNat) = j_ := ⟨_, rfl⟩; (first | rw [hjs51] at H | simp only [hjs51] at H)
                 by_cases c52 : js51.size ≤ 9223372036854775807
                 ·rw [if_pos c52] at H
                  have LMc52 := am c52; clear c52
                  by_cases c53 : x157000_2.length < 5864062014805
                  ·rw [if_pos c53] at H
                   have LMc53 := am c53; clear c53; obtain ⟨y165, hy165⟩ : ∃ y_ : List (S74), y_ = (x157000_2 ++ [(⟨((bt (rdOf ByteArray.empty t152 x41_2) (ji43)) - 97) % 256, G.mapGet y158 js51, t160⟩ : S74)]) := ⟨_, rfl⟩
                   replace H : (impl_trieOf.l2 k2 l0 t152 (t152.length : Int) (wrap64 (x41_2 + 1)) y158 y165) = some r := by first | (rw [hy165]; with_reducible exact H) | (have H2_ := (Option.bind_some _ _).symm.trans H; rw [hy165]; with_reducible exact H2_) | (have H2_ := (Option.bind_some _ _).symm.trans H; with_reducible exact H2_) | with_reducible exact H | (rw [hy165]; exact H) | exact H
                   have Ny165 := am hy165; clear hy165; have H' := am H; clear H; have p157 : 0 ≤ (x41_2 : Int) := of_decide_eq_true ax23; have q157 : x41_2 < (t152.length : Int) := of_decide_eq_true ax23; obtain ⟨ad157, e157, hx157_0⟩ := Kd.at_string (Kd.R_reads' HO_39.out).2.2 x41_2 p157 q157
                   cases e157
                   replace p157 := eq_true p157; replace q157 := eq_true q157
                   try go_wp2_with (first | ((with_reducible refine G.gate_mput (t := 139) (m := .tmp 46) (x := .tmp 47) (v := .tmp 48) rfl ?_); refine G.mput_event ?hg (t := 139) (m := .tmp 46) (x := .tmp 47) (v := .tmp 48) ?ho ?hd (b := gm155) (s := (rdOf ByteArray.empty t152 x41_2)) (i := x41_2) ?hm ?hx ?hv (K := 9) (E := 3) (c := x156000_2) ?ht ?hK ?hE ?hw ?hs ?hl ?hmap ?_; (case hg => rfl); (case ho => rfl); (case hd => rfl); (case hm => rfl); (case hx => rfl); (case hv => rfl); (case ht => exact Tryz.underlying139); (case hK => exact Tryz.underlying9); (case hE => exact Tryz.underlying3); (case hw => exact ax38); (case hs => exact LMc27.out); (case hl => exact LMc26.out); (case hmap => exact ax39); intro w54 hmap hg; rw [← Ny158.out] at hmap; replace HO_39 := am (Kd.R_grown1 (rX HO_39) rfl hg (G.MapIs.ne_row MP155.out HO_39.out)); replace HO_157000 := am (Kd.R_grown1 (rX HO_157000) rfl hg (G.MapIs.ne_row MP155.out HO_157000.out)); replace BK144 := am (blk_grown (g := gb144) (o := .cells #[.slice none 0 0] 26 (0, 0)) aU hg (fun e_ => G.MapIs.ne_blk MP155.out BK144.out ax40)); replace BK156 := am (blk_grown (g := gb156) (o := .cells #[u157000] 26 (0, 0)) aU hg (fun e_ => G.MapIs.ne_blk MP155.out BK156.out ax40)); replace MP155 := am (hmap); replace HB := am (Below.grown ax41 hg (bS HB) (fun k_ e_ => by cases e_; exact GM155.out)); clear hmap hg) | ((with_reducible refine gd 52 169 ?_); refine gc 52 Tryz.func169 #[.slice A0 l0.length c0, .string (rdOf ByteArray.empty t152 x41_2)] (slices_BinarySearch_string_string.calls k2 _ _ l0 (rdOf ByteArray.empty t152 x41_2) t159 t160 _ ax42 (HC0.out) A30.out) ?_; rintro e w' ⟨rfl, ⟨nd, rfl⟩⟩; refine ⟨_, rfl, ?_⟩; (try (rw [drewN_self w54]; generalize hq_ : World.drewN w54 _ = w54; have n0_ := qR HO_157000 hq_; have n1_ := qR HO_39 hq_; have n2_ : Aside0 (G.MapIs Tryz.prog 9 3 w54 gm155 y158) := ⟨ax43⟩; have n3_ := qB BK144 hq_; have n4_ := qB BK156 hq_; have n5_ := qL HB hq_; clear HO_157000 HO_39 MP155 BK144 BK156 HB hq_; have HO_157000 := n0_; have HO_39 := n1_; have MP155 := n2_; have BK144 := n3_; have BK156 := n4_; have HB := n5_; clear n0_ n1_ n2_ n3_ n4_ n5_))) | ((with_reducible refine gt 13 ?_); refine bx 13 #[.int .i64 0, .int .i64 0, .bool false] 74 ?_; intro gb161 hg w55 hbox hb; replace HO_39 := uR HO_39 hb; replace HO_157000 := am (Kd.R_below (Kd.R_elderB (rX HO_157000) gb161 (Nat.le_of_eq hg.symm)) hb); replace MP155 := am (G.MapIs.below (show G.MapIs Tryz.prog 9 3 _ gm155 y158 from ax37) hb); have BK161 := am (hbox); have GW161 := uH hg HB; have GE161 := uH hg HB; replace HB := uS HB hb; obtain ⟨NB144_161, NB161_144, BK144⟩ := uA hg hb BK144; obtain ⟨NB156_161, NB161_156, BK156⟩ := uA hg hb BK156; clear hb hbox hg; obtain ⟨hnb56, hnc56⟩ := nk NB161_144; obtain ⟨hnb57, hnc57⟩ := nk NB161_156; have hcz58_0 := bc (.int .i64 0) BK161 0; have hcz58_1 := bc (.int .i64 0) BK161 1; have hcz58_2 := bc (.bool false) BK161 2; have hfz58_0 := blk_frozen BK161.out 0; have hfz58_1 := blk_frozen BK161.out 1; have hfz58_2 := blk_frozen BK161.out 2))
                   have n0_ : Aside0 (Kd.R Kd.string 9 (((w55.setCell ⟨gb161, 0, none⟩ (.int .i64 (-1))).setCell ⟨gb161, 1, none⟩ (.int .i64 (-1))).setCell ⟨gb161, 2, none⟩ (.bool t160)) w.heap.size (fun _ => True) (.slice (some ad157) t152.length co22) t152) := ⟨aU⟩; have n1_ : Aside0 (Kd.R k74 74 (((w55.setCell ⟨gb161, 0, none⟩ (.int .i64 (-1))).setCell ⟨gb161, 1, none⟩ (.int .i64 (-1))).setCell ⟨gb161, 2, none⟩ (.bool t160)) w.heap.size (fun k_ => k_ ≠ gb161) u157000 x157000_2) := ⟨ax44⟩; have n2_ : Aside0 ((((w55.setCell ⟨gb161, 0, none⟩ (.int .i64 (-1))).setCell ⟨gb161, 1, none⟩ (.int .i64 (-1))).setCell ⟨gb161, 2, none⟩ (.bool t160)).heap[gb144]? = some (.cells #[.slice none 0 0] 26 (0, 0))) := ⟨aU⟩; have n3_ : Aside0 ((((w55.setCell ⟨gb161, 0, none⟩ (.int .i64 (-1))).setCell ⟨gb161, 1, none⟩ (.int .i64 (-1))).setCell ⟨gb161, 2, none⟩ (.bool t160)).heap[gb156]? = some (.cells #[u157000] 26 (0, 0))) := ⟨aU⟩; have n4_ : Aside0 ((((w55.setCell ⟨gb161, 0, none⟩ (.int .i64 (-1))).setCell ⟨gb161, 1, none⟩ (.int .i64 (-1))).setCell ⟨gb161, 2, none⟩ (.bool t160)).heap[gb161]? = some (.cells #[.int .i64 (-1), .int .i64 (-1), .bool t160] 74 (0, 0))) := ⟨aU⟩; have n5_ : Aside0 (G.MapIs Tryz.prog 9 3 (((w55.setCell ⟨gb161, 0, none⟩ (.int .i64 (-1))).setCell ⟨gb161, 1, none⟩ (.int .i64 (-1))).setCell ⟨gb161, 2, none⟩ (.bool t160)) gm155 y158) := ⟨show G.MapIs Tryz.prog 9 3 _ gm155 y158 from by repeat (first | (with_reducible first | exact MP155.out | apply G.MapIs.alloc | apply G.MapIs.drewN | apply G.MapIs.drew | refine G.MapIs.set ?_ (G.MapIs.ne_blk MP155.out BK161.out) _ _ | refine G.MapIs.set ?_ (G.MapIs.ne_blk MP155.out BK161.out) _ _ | refine G.MapIs.set ?_ (G.MapIs.ne_blk MP155.out BK161.out) _ _) | exact MP155.out)⟩
                   have n6_ : Aside0 (Below w.heap.size w (((w55.setCell ⟨gb161, 0, none⟩ (.int .i64 (-1))).setCell ⟨gb161, 1, none⟩ (.int .i64 (-1))).setCell ⟨gb161, 2, none⟩ (.bool t160))) := ⟨aL⟩; (try clear HO_39); (try clear HO_157000); (try clear BK144); (try clear BK156); (try clear BK161); (try clear MP155); (try clear HB); generalize (((w55.setCell ⟨gb161, 0, none⟩ (.int .i64 (-1))).setCell ⟨gb161, 1, none⟩ (.int .i64 (-1))).setCell ⟨gb161, 2, none⟩ (.bool t160)) = w59 at n0_ n1_ n2_ n3_ n4_ n5_ n6_ ⊢; have HO_39 := n0_; have HO_157000 := n1_; have BK144 := n2_; have BK156 := n3_; have BK161 := n4_; have MP155 := n5_; have HB := n6_; clear n0_ n1_ n2_ n3_ n4_ n5_ n6_; replace HO_39 := am (Kd.R_drew HO_39.out); replace HO_157000 := am (Kd.R_drew HO_157000.out); replace BK144 := am (blk_drew BK144.out); replace BK156 := am (blk_drew BK156.out); replace BK161 := am (blk_drew BK161.out); replace MP155 := am (G.MapIs.drew MP155.out); replace HB := am (below_drew1 HB.out); have p46 : 0 ≤ ((ji43) : Int) := of_decide_eq_true ax23; have q46 : (ji43) < ((rdOf ByteArray.empty t152 x41_2).size : Int) := of_decide_eq_true ax23; have hx46 := bt_at (rdOf ByteArray.empty t152 x41_2) (ji43); replace p46 := eq_true p46; replace q46 := eq_true q46; refine start_ (n := 18) (S := fun w' => G.MapIs Tryz.prog 9 3 w' gm155 y158 ∧ (Instr.lookup 139 (.map (some gm155)) (.string js51) false).run Tryz.prog w' = .ok (.int .i64 (G.mapGet y158 js51)) w') (ds := []) (ob 18 0) (by kernel_rfl) rfl rfl ⟨MP155.out, G.MapIs.run_get MP155.out Tryz.underlying139 Tryz.underlying9 Tryz.underlying3 (Tryz.zeroValue3 _) LMc52.out⟩ (fun hHeld => ?_); refine with_tabW impl_trieOf.tab20 impl_trieOf.bits20 (fun HT_ HW_ => ?_); generalize w59.drew = w60 at HO_39 HO_157000 BK144 BK156 BK161 MP155 HB hHeld ⊢; refine pu 0 59 ?_; refine pu 1 60 ?_; refine pu 2 61 ?_; refine pu 3 62 ?_; refine pu 7 66 ?_; refine pu 8 67 ?_; refine pu 9 68 ?_; refine pu 10 69 ?_; refine pu 11 70 ?_; refine pu 12 71 ?_; refine tk 4 63 ?_; refine pu 5 64 ?_; refine pu 6 65 ?_; refine pu 14 73 ?_; refine tk 13 72 ?_; refine one_ (i := 15) (N := none) (ob 18 65535) rfl rfl (one_of HT_.out (by kernel_rfl)) (by decide) (fun K hK => ?_); have hs61 : w60.cell? ⟨gb161, 0, none⟩ = some (.int .i64 (-1)) := (blk_cell BK161.out 0).trans rfl; have hfs61 := blk_frozen BK161.out 0; have hns61_0 := NB144_161.out; have hns61_1 := NB156_161.out; have hms61_0 := NB161_144.out; have hms61_1 := NB161_156.out; refine skip_ (w1 := ?_) (by rfl) rfl ?_ ?_
                   rotate_left
                   ·go_simp
                    rfl
                   refine hK.out _ _ ⟨(G.MapIs.set (hHeld.1) (G.MapIs.ne_blk MP155.out BK161.out) _ _), G.MapIs.run_get (G.MapIs.set (hHeld.1) (G.MapIs.ne_blk MP155.out BK161.out) _ _) Tryz.underlying139 Tryz.underlying9 Tryz.underlying3 (Tryz.zeroValue3 _) LMc52.out⟩ (fun hHeld => ?_); clear hK K; refine pu 16 74 ?_; refine one_ (i := 17) (N := none) (ob 18 262143) rfl rfl (one_of HT_.out (by kernel_rfl)) (by decide) (fun K hK => ?_); have hs62 : w60.cell? ⟨gb161, 1, none⟩ = some (.int .i64 (-1)) := (blk_cell BK161.out 1).trans rfl; have hfs62 := blk_frozen BK161.out 1; have hns62_0 := NB144_161.out; have hns62_1 := NB156_161.out; have hms62_0 := NB161_144.out; have hms62_1 := NB161_156.out; refine skip_ (w1 := ?_) (by rfl) rfl ?_ ?_
                   rotate_left
                   ·go_simp
                    rfl
                   refine hK.out _ _ ⟨(G.MapIs.set (hHeld.1) (G.MapIs.ne_blk MP155.out BK161.out) _ _), G.MapIs.run_get (G.MapIs.set (hHeld.1) (G.MapIs.ne_blk MP155.out BK161.out) _ _) Tryz.underlying139 Tryz.underlying9 Tryz.underlying3 (Tryz.zeroValue3 _) LMc52.out⟩ (fun hHeld => ?_); clear hK K; refine dn ?_; obtain ⟨hnb63, hnc63⟩ := nk NB156_144; obtain ⟨hcz64_0, hfz64_0⟩ := bz (u157000) BK156; have hcz65_0 := bc (.int .i64 (-1)) BK161 0; have hcz65_1 := bc (.int .i64 (-1)) BK161 1; have hcz65_2 := bc (.bool t160) BK161 2; have hfz65_0 := blk_frozen BK161.out 0; have hfz65_1 := blk_frozen BK161.out 1; have hfz65_2 := blk_frozen BK161.out 2
                   try go_wp2_with (first | ((with_reducible refine gate_builtin (b := .append) (xs := #[.tmp 76, .tmp 78]) rfl ?_); at_builtin; refine Kd.R_append k74 (w0 := w) w.heap.size rfl (.tmp 76) (.tmp 78) 24 74 (.agg #[(.int .i64 0), (.int .i64 0), (.bool false)]) 24 rfl Tryz.underlying24 info74 rfl (by decide) (by omega) u157000 x157000_2 (⟨((bt (rdOf ByteArray.empty t152 x41_2) (ji43)) - 97) % 256, G.mapGet y158 js51, t160⟩ : S74) [.int .i64 (((bt (rdOf ByteArray.empty t152 x41_2) (ji43)) - 97) % 256), .int .i64 (G.mapGet y158 js51), .bool t160] (fun k_ => k_ ≠ gb161) (fun _ => False) rfl ax20 ?aP (fun _ hk => hk.elim) ?aF ?aO ?aB ?aS ?aL ?_; (case aP => exact k74_mkM _ _ _ (⟨((bt (rdOf ByteArray.empty t152 x41_2) (ji43)) - 97) % 256, G.mapGet y158 js51, t160⟩ : S74)); (case aB => exact aL); (case aF => exact (fun k_ hk => Kd.freshB (g := gb161) (o := .cells #[.int .i64 (((bt (rdOf ByteArray.empty t152 x41_2) (ji43)) - 97) % 256), .int .i64 (G.mapGet y158 js51), .bool t160] 74 (0, 0)) aU k_ hk)); (case aO => exact (by (with_reducible repeat (first | apply Kd.R_alloc | apply Kd.R_drewN | apply Kd.R_drew)); exact Kd.R_mono (Kd.R_far (p := ⟨gb161, 1, none⟩) (Kd.R_far (p := ⟨gb161, 0, none⟩) (Kd.R_mono HO_157000.out (fun k_ hk => (⟨hk, hk⟩ : _ ∧ k_ ≠ gb161))) (fun _ hk => hk.2) (.int .i64 (((bt (rdOf ByteArray.empty t152 x41_2) (ji43)) - 97) % 256))) (fun _ hk => hk.2) (.int .i64 (G.mapGet y158 js51))) (fun _ hk => hk.1))); (case aS => exact ax28); (case aL => have := LMc53.out; omega); intro v166 w66 ho hb hg hat; rw [← Ny165.out] at ho; have n0_ := am (Kd.R_over' (rX HO_39) (Kd.R_typed (by (with_reducible repeat (first | apply Kd.R_alloc | apply Kd.R_drewN | apply Kd.R_drew)); exact (Kd.R_mono (Kd.R_far (p := ⟨gb161, 1, none⟩) (Kd.R_far (p := ⟨gb161, 0, none⟩) (Kd.R_mono HO_157000.out (fun k_ hk => (⟨hk, hk⟩ : _ ∧ k_ ≠ gb161))) (fun _ hk => hk.2) (.int .i64 (((bt (rdOf ByteArray.empty t152 x41_2) (ji43)) - 97) % 256))) (fun _ hk => hk.2) (.int .i64 (G.mapGet y158 js51))) (fun _ h_ => h_.1)))) (by decide) hg); have n1_ := am (blk_grown (g := gb144) (o := .cells #[.slice none 0 0] 26 (0, 0)) aU hg (Kd.R_ne HO_157000.out BK144.out (by decide))); have n2_ := am (blk_grown (g := gb156) (o := .cells #[u157000] 26 (0, 0)) aU hg (Kd.R_ne HO_157000.out BK156.out (by decide))); have n3_ := am (G.MapIs.grown (show G.MapIs Tryz.prog 9 3 _ gm155 y158 from (by repeat (first | (with_reducible first | exact MP155.out | apply G.MapIs.alloc | apply G.MapIs.drewN | apply G.MapIs.drew | refine G.MapIs.set ?_ (G.MapIs.ne_blk MP155.out BK161.out) _ _ | refine G.MapIs.set ?_ (G.MapIs.ne_blk MP155.out BK161.out) _ _) | exact MP155.out))) hg (G.MapIs.ne_row MP155.out HO_157000.out)); have n4_ := am (blk_grown (g := gb161) (o := .cells #[.int .i64 (((bt (rdOf ByteArray.empty t152 x41_2) (ji43)) - 97) % 256), .int .i64 (G.mapGet y158 js51), .bool t160] 74 (0, 0)) aU hg (Kd.R_away HO_157000.out (fun _ hk => hk))); have n5_ := am (hb); have n6_ := am (ho); clear HO_39; clear BK144; clear BK156; clear MP155; clear BK161; clear HB; clear HO_157000; have HO_39 := n0_; have BK144 := n1_; have BK156 := n2_; have MP155 := n3_; have BK161 := n4_; have HB := n5_; have HO167 := n6_; clear n0_ n1_ n2_ n3_ n4_ n5_ n6_; clear ho hb hg hat; obtain ⟨Ao67, co67, rfl⟩ := Kd.R_slice HO167.out; obtain ⟨hcz68_0, hfz68_0⟩ := bz (u157000) BK156))
                   go_roundg k2
                   case measure => have := HK1.out; have := HK2.out; omega
                   case rel => exact ⟨(wrap64 (x41_2 + 1)), (y158), (y165), (.slice Ao67 y165.length co67), ax18, H', ⟨ax35⟩, ⟨aU⟩, ⟨aU⟩, ⟨aU⟩, ⟨aU⟩, ⟨show G.MapIs Tryz.prog 9 3 _ gm155 y158 from by repeat (first | (with_reducible first | exact MP155.out | apply G.MapIs.alloc | apply G.MapIs.drewN | apply G.MapIs.drew | refine G.MapIs.set ?_ (G.MapIs.ne_blk MP155.out BK156.out) _ _) | exact MP155.out)⟩, ⟨aL⟩⟩
                  ·rw [if_neg c53] at H
                   exact absurd H (by simp)
                 ·rw [if_neg c52] at H
                  exact absurd H (by simp)
                ·rw [if_neg c50] at H
                 exact absurd H (by simp)
               ·rw [if_neg c45] at H
                exact absurd H (by simp)
              ·rw [if_neg c44] at H
               exact absurd H (by simp)
            ·exact ax8
           ·rw [if_neg c28] at H
            exact absurd H (by simp)
          ·rw [if_neg c27] at H
           exact absurd H (by simp)
         ·exact ax9
        ·rw [if_neg c25] at H
         exact absurd H (by simp)
       ·rw [if_neg c24] at H
        exact absurd H (by simp)
      ·rw [if_neg c23] at H
       have c23b0 := decide_eq_false c23; clear c23; obtain rfl := Option.some.inj H; obtain ⟨hnb69, hnc69⟩ := nk NB156_144; obtain ⟨hcz70_0, hfz70_0⟩ := bz (u157000) BK156; obtain ⟨Ao71, co71, rfl⟩ := Kd.R_slice HO_157000.out; obtain ⟨hcz72_0, hfz72_0⟩ := bz (.slice none 0 0) BK144
       go_wp2
       refine bodyPost_ret (results_cell_row rfl _ _ gb144 26 #[.slice Ao71 x157000_2.length co71] (0, 0) _ rfl (by (with_reducible repeat (first | refine blk_drewN ?_ _ | refine blk_drew ?_ | refine blk_alloc ?_ _)); refine blk_put (cs := #[.slice none 0 0]) ?_ 0 _ rfl; (with_reducible repeat (first | refine blk_drewN ?_ _ | refine blk_drew ?_ | refine blk_alloc ?_ _)); exact BK144.out) Tryz.underlying26 rfl (by kernel_rfl)) rfl ?_
       exact ⟨_, ax21, aU, aL⟩

/-! ### impl_isTrie_1: function 195 -/
def impl_isTrie_1.f (a0 : ByteArray) : Option (Bool) := some (decide ((a0.size : Int) > 12))
theorem impl_isTrie_1.calls (a0 : ByteArray) (r : Bool) (w : World) (h : impl_isTrie_1.f a0 = some r) :
  Calls Tryz.prog 195 #[.string a0] w fun e w' => e = .returned (.bool r) ∧ Drawn0 w w' := by
 unfold impl_isTrie_1.f at h
 have H := h; clear h; obtain rfl := Option.some.inj H
 go_enter Tryz.func195, Tryz.ntmps195
 go_wp2
 go_ret
 exact ⟨ax18, ax19⟩

end Go.Proofs.YtcplbbflfgckbaaGreatDoor.X
namespace Go.Proofs.YtcplbbflfgckbaaGreatDoor.X
open Go.RowKit Go.Proofs.YtcplbbflfgckbaaGreatDoorW.PrintWords Go.Proofs.YtcplbbflfgckbaaGreatDoorW.PrintLast Go.Proofs.YtcplbbflfgckbaaGreatDoorW.PrintMore
attribute [local go_sem] max2_int min2_int max_two min_two max_three min_three max_four min_four   -- for this text's walks alone
set_option linter.unusedVariables false
set_option linter.unusedSimpArgs false

theorem eqA74 (d : Nat) (w : World) (x0 y0 : Int) (x1 y1 : Int) (x2 y2 : Bool) :
  (Op.equalIn (d + 2) 74 (.agg #[.int .i64 x0, .int .i64 x1, .bool x2]) (.agg #[.int .i64 y0, .int .i64 y1, .bool y2])).run Tryz.prog w = .ok (x0 == y0 && (x1 == y1 && (x2 == y2))) w := by
 refine eqA_of Tryz.underlying74 (by kernel_rfl) ?_; refine eqf_cons (by rfl) ax17 ax17 (by go_simp) ?_; refine eqf_cons (by rfl) ax17 ax17 (by go_simp) ?_
 exact eqf_last (by rfl) ax17 ax17 (by go_simp)
end Go.Proofs.YtcplbbflfgckbaaGreatDoor.X
namespace Go.Proofs.YtcplbbflfgckbaaGreatDoor.X
open Go.RowKit Go.Proofs.YtcplbbflfgckbaaGreatDoorW.PrintWords Go.Proofs.YtcplbbflfgckbaaGreatDoorW.PrintLast Go.Proofs.YtcplbbflfgckbaaGreatDoorW.PrintMore
attribute [local go_sem] max2_int min2_int max_two min_two max_three min_three max_four min_four   -- for this text's walks alone
set_option linter.unusedVariables false
set_option linter.unusedSimpArgs false
set_option maxHeartbeats 8000000
set_option maxRecDepth 100000

attribute [local go_sem high] eqA74
/-! ### slices_IsSorted_string_string: function 196 -/
def slices_IsSorted_string_string.l0 : Nat → List ByteArray → Int → Option (Bool)
 | 0, _, _ => none
 | k + 1, x0, x3 => if x3 > 0 then (if 0 ≤ x3 then (if x3 < (x0.length : Int) then (if 0 ≤ (wrap64 (x3 - 1)) then (if (wrap64 (x3 - 1)) < (x0.length : Int) then ((cmp_Less_string.f (rdOf ByteArray.empty x0 x3) (rdOf ByteArray.empty x0 (wrap64 (x3 - 1)))).bind fun t170 => (if t170 = true then (some false) else (slices_IsSorted_string_string.l0 k x0 (wrap64 (x3 - 1))))) else (none)) else (none)) else (none)) else (none)) else (some true)
def slices_IsSorted_string_string.f (k : Nat) (l0 : List ByteArray) : Option (Bool) := slices_IsSorted_string_string.l0 k l0 (wrap64 ((l0.length : Int) - 1))
theorem slices_IsSorted_string_string.calls (k : Nat) (A0 : Option Addr) (c0 : Nat) (l0 : List ByteArray) (r : Bool) (w : World) (hr0 : Kd.C Kd.string w A0 l0.length l0) (hc0 : l0.length ≤ c0) (h : slices_IsSorted_string_string.f k l0 = some r) :
  Calls Tryz.prog 196 #[.slice A0 l0.length c0] w fun e w' => e = .returned (.bool r) ∧ Drawn0 w w' := by
 have HR0 := am hr0; have HC0 := am hc0; clear hr0 hc0
 unfold slices_IsSorted_string_string.f at h
 have H := h; clear h; have H' := am H; clear H
 go_enter Tryz.func196, Tryz.ntmps196
 go_wp2
 repeat (go_quiet (fail); try go_wp2)
 go_loopg [3] k (fun kq v3 w' => ∃ (x3_1 : Int), v3 = .int .i64 x3_1 ∧ Aside0 (slices_IsSorted_string_string.l0 kq l0 x3_1 = some r) ∧ Aside0 (kq ≤ k) ∧ Drawn0 w w')
 case atStart => exact ⟨(wrap64 ((l0.length : Int) - 1)), ax18, H', ⟨Nat.le_refl _⟩, by repeat (first | exact Drawn0.refl _ | apply Drawn0.step)⟩
 case round =>
  clear H'; obtain ⟨x3_1, rfl, HA, HK1, ⟨m1, rfl⟩⟩ := hrel
  cases gk with
  | zero => exact absurd HA.out (by simp [slices_IsSorted_string_string.l0])
  | succ k1 =>
   have H := HA.out; clear HA; simp only [slices_IsSorted_string_string.l0] at H
   by_cases c2 : x3_1 > 0
   ·rw [if_pos c2] at H
    have c2b0 := decide_eq_true c2; clear c2
    by_cases c3 : 0 ≤ x3_1
    ·rw [if_pos c3] at H
     have c3b0 := decide_eq_true c3; clear c3
     by_cases c4 : x3_1 < (l0.length : Int)
     ·rw [if_pos c4] at H
      have c4b0 := decide_eq_true c4; clear c4; obtain ⟨ji5, hji5⟩ : ∃ j_ : Int, (wrap64 (x3_1 - 1)) = j_ := ⟨_, rfl⟩; (first | rw [hji5] at H | simp only [hji5] at H); have hji5w : (IntKind.i64.wrap (x3_1 - 1)) = ji5 := (i64_w _).trans hji5
      by_cases c6 : 0 ≤ (ji5)
      ·rw [if_pos c6] at H
       have c6b0 := decide_eq_true c6; clear c6
       by_cases c7 : (ji5) < (l0.length : Int)
       ·rw [if_pos c7] at H
        have c7b0 := decide_eq_true c7; clear c7; obtain ⟨t170, A8, H⟩ := bs H
        by_cases c9 : t170 = true
        ·subst c9
         rw [if_pos rfl] at H; obtain rfl := Option.some.inj H; have p168 : 0 ≤ (x3_1 : Int) := of_decide_eq_true ax23; have q168 : x3_1 < (l0.length : Int) := of_decide_eq_true ax23; obtain ⟨ad168, e168, hx168_0⟩ := Kd.at_string HR0.out x3_1 p168 q168
         cases e168
         replace p168 := eq_true p168; replace q168 := eq_true q168; have p169 : 0 ≤ ((ji5) : Int) := of_decide_eq_true ax23; have q169 : (ji5) < (l0.length : Int) := of_decide_eq_true ax23; obtain ⟨ad169, e169, hx169_0⟩ := Kd.at_string HR0.out (ji5) p169 q169; obtain rfl : ad168 = ad169 := (by injection e169); replace p169 := eq_true p169; replace q169 := eq_true q169
         go_wp2_with (first | (go_at_call 208; (with_reducible refine (cmp_Less_string.calls (rdOf ByteArray.empty l0 x3_1) (rdOf ByteArray.empty l0 (ji5)) true _ A8.out).mono ?_); rintro e w' ⟨rfl, ⟨nd, rfl⟩⟩; (try first | exact ⟨rfl, _, World.drewN_drewN _ _ _⟩ | exact ⟨rfl, _, Eq.trans (World.drewN_drewN _ _ _) (congrArg (World.drewN _) (Nat.add_assoc _ _ _))⟩)))
         repeat (go_quiet (first | (go_at_call 208; (with_reducible refine (cmp_Less_string.calls (rdOf ByteArray.empty l0 x3_1) (rdOf ByteArray.empty l0 (ji5)) true _ A8.out).mono ?_); rintro e w' ⟨rfl, ⟨nd, rfl⟩⟩; (try first | exact ⟨rfl, _, World.drewN_drewN _ _ _⟩ | exact ⟨rfl, _, Eq.trans (World.drewN_drewN _ _ _) (congrArg (World.drewN _) (Nat.add_assoc _ _ _))⟩))); try go_wp2_with (first | (go_at_call 208; (with_reducible refine (cmp_Less_string.calls (rdOf ByteArray.empty l0 x3_1) (rdOf ByteArray.empty l0 (ji5)) true _ A8.out).mono ?_); rintro e w' ⟨rfl, ⟨nd, rfl⟩⟩; (try first | exact ⟨rfl, _, World.drewN_drewN _ _ _⟩ | exact ⟨rfl, _, Eq.trans (World.drewN_drewN _ _ _) (congrArg (World.drewN _) (Nat.add_assoc _ _ _))⟩))))
         go_ret
         exact ⟨ax45, ax19⟩
        ·replace c9 := Bool.eq_false_iff.mpr c9
         subst c9; rw [if_neg (show ¬ (false = true) by decide)] at H; have H' := am H; clear H; have p168 : 0 ≤ (x3_1 : Int) := of_decide_eq_true ax23; have q168 : x3_1 < (l0.length : Int) := of_decide_eq_true ax23; obtain ⟨ad168, e168, hx168_0⟩ := Kd.at_string HR0.out x3_1 p168 q168
         cases e168
         replace p168 := eq_true p168; replace q168 := eq_true q168; have p169 : 0 ≤ ((ji5) : Int) := of_decide_eq_true ax23; have q169 : (ji5) < (l0.length : Int) := of_decide_eq_true ax23; obtain ⟨ad169, e169, hx169_0⟩ := Kd.at_string HR0.out (ji5) p169 q169; obtain rfl : ad168 = ad169 := (by injection e169); replace p169 := eq_true p169; replace q169 := eq_true q169
         go_wp2_with (first | (go_at_call 208; (with_reducible refine (cmp_Less_string.calls (rdOf ByteArray.empty l0 x3_1) (rdOf ByteArray.empty l0 (ji5)) false _ A8.out).mono ?_); rintro e w' ⟨rfl, ⟨nd, rfl⟩⟩; (try first | exact ⟨rfl, _, World.drewN_drewN _ _ _⟩ | exact ⟨rfl, _, Eq.trans (World.drewN_drewN _ _ _) (congrArg (World.drewN _) (Nat.add_assoc _ _ _))⟩)))
         repeat (go_quiet (first | (go_at_call 208; (with_reducible refine (cmp_Less_string.calls (rdOf ByteArray.empty l0 x3_1) (rdOf ByteArray.empty l0 (ji5)) false _ A8.out).mono ?_); rintro e w' ⟨rfl, ⟨nd, rfl⟩⟩; (try first | exact ⟨rfl, _, World.drewN_drewN _ _ _⟩ | exact ⟨rfl, _, Eq.trans (World.drewN_drewN _ _ _) (congrArg (World.drewN _) (Nat.add_assoc _ _ _))⟩))); try go_wp2_with (first | (go_at_call 208; (with_reducible refine (cmp_Less_string.calls (rdOf ByteArray.empty l0 x3_1) (rdOf ByteArray.empty l0 (ji5)) false _ A8.out).mono ?_); rintro e w' ⟨rfl, ⟨nd, rfl⟩⟩; (try first | exact ⟨rfl, _, World.drewN_drewN _ _ _⟩ | exact ⟨rfl, _, Eq.trans (World.drewN_drewN _ _ _) (congrArg (World.drewN _) (Nat.add_assoc _ _ _))⟩))))
         go_roundg k1
         case measure => have := HK1.out; omega
         case rel => exact ⟨(ji5), ax45, H', ⟨by have := HK1.out; omega⟩, ax19⟩
       ·exact ax7
      ·exact ax5
     ·exact ax2
    ·rw [if_neg c3] at H
     exact absurd H (by simp)
   ·rw [if_neg c2] at H
    have c2b0 := decide_eq_false c2; clear c2; obtain rfl := Option.some.inj H
    go_wp2
    repeat (go_quiet (fail); try go_wp2)
    go_ret
    exact ⟨ax18, ax19⟩

/-! ### impl_Node: function 197 -/
def impl_Node.l0 : Nat → List (S74) → List (S74) → Int → Int → Option (Bool)
 | 0, _, _, _, _ => none
 | k + 1, x0, x1, x12, x13 => if x13 < x12 then (if 0 ≤ x13 then (if x13 < (x0.length : Int) then (if x13 < (x1.length : Int) then (if (!(((rd_T74 x0 x13).f0) == ((rd_T74 x1 x13).f0)) || (!(((rd_T74 x0 x13).f1) == ((rd_T74 x1 x13).f1)) || (!(((rd_T74 x0 x13).f2) == ((rd_T74 x1 x13).f2))))) = true then (some false) else (impl_Node.l0 k x0 x1 x12 (wrap64 (x13 + 1)))) else (none)) else (none)) else (none)) else (some true)
def impl_Node.f (k : Nat) (l0 : List (S74)) (l1 : List (S74)) : Option (Bool) := if (l0.length : Int) = (l1.length : Int) then (impl_Node.l0 k l0 l1 (l0.length : Int) 0) else (some false)
theorem impl_Node.calls (k : Nat) (A0 : Option Addr) (c0 : Nat) (l0 : List (S74)) (A1 : Option Addr) (c1 : Nat) (l1 : List (S74)) (r : Bool) (w : World) (hr0 : Kd.C k74 w A0 l0.length l0) (hc0 : l0.length ≤ c0) (hr1 : Kd.C k74 w A1 l1.length l1) (hc1 : l1.length ≤ c1) (h : impl_Node.f k l0 l1 = some r) :
  Calls Tryz.prog 197 #[.slice A0 l0.length c0, .slice A1 l1.length c1] w fun e w' => e = .returned (.bool r) ∧ Drawn0 w w' := by
 have hu74 := Tryz.underlying74; have HR0 := am hr0; have HC0 := am hc0; clear hr0 hc0; have HR1 := am hr1; have HC1 := am hc1; clear hr1 hc1
 unfold impl_Node.f at h
 have H := h; clear h
 by_cases c3 : (l0.length : Int) = (l1.length : Int)
 ·rw [if_pos c3] at H
  have c3b0 := beq_iff_eq.mpr c3; have c3b1 := bne_eq_false_iff_eq.mpr c3
  have c3b2 : (l0.length == l1.length) = true := by first | simpa using c3 | (simp at c3 ⊢; omega)
  clear c3; have H' := am H; clear H
  go_enter Tryz.func197, Tryz.ntmps197
  go_wp2
  repeat (go_quiet (fail); try go_wp2)
  go_loopg [13] k (fun kq v13 w' => ∃ (x13_1 : Int), v13 = .int .i64 x13_1 ∧ Aside0 (impl_Node.l0 kq l0 l1 (l0.length : Int) x13_1 = some r) ∧ Aside0 (kq ≤ k) ∧ Drawn0 w w')
  case atStart => exact ⟨(0), ax18, H', ⟨Nat.le_refl _⟩, by repeat (first | exact Drawn0.refl _ | apply Drawn0.step)⟩
  case round =>
   clear H'; (try clear c3);(try clear c3b2);(try clear c3b1);(try clear c3b0); obtain ⟨x13_1, rfl, HA, HK1, ⟨m1, rfl⟩⟩ := hrel
   cases gk with
   | zero => exact absurd HA.out (by simp [impl_Node.l0])
   | succ k1 =>
    have H := HA.out; clear HA; simp only [impl_Node.l0] at H
    by_cases c4 : x13_1 < (l0.length : Int)
    ·rw [if_pos c4] at H
     have c4b0 := decide_eq_true c4; clear c4
     by_cases c5 : 0 ≤ x13_1
     ·rw [if_pos c5] at H
      have c5b0 := decide_eq_true c5; clear c5
      by_cases c6 : x13_1 < (l0.length : Int)
      ·rw [if_pos c6] at H
       have c6b0 := decide_eq_true c6; clear c6
       by_cases c7 : x13_1 < (l1.length : Int)
       ·rw [if_pos c7] at H
        have c7b0 := decide_eq_true c7; clear c7
        by_cases c8 : (!(((rd_T74 l0 x13_1).f0) == ((rd_T74 l1 x13_1).f0)) || (!(((rd_T74 l0 x13_1).f1) == ((rd_T74 l1 x13_1).f1)) || (!(((rd_T74 l0 x13_1).f2) == ((rd_T74 l1 x13_1).f2))))) = true
        ·rw [if_pos c8] at H
         have c8b0 : (!(((rd_T74 l0 x13_1).f0) == ((rd_T74 l1 x13_1).f0)) || (!(((rd_T74 l0 x13_1).f1) == ((rd_T74 l1 x13_1).f1)) || (!(((rd_T74 l0 x13_1).f2) == ((rd_T74 l1 x13_1).f2))))) = true := c8; clear c8; obtain rfl := Option.some.inj H; have p171 : 0 ≤ (x13_1 : Int) := of_decide_eq_true ax23; have q171 : x13_1 < (l0.length : Int) := of_decide_eq_true ax23; obtain ⟨ad171, e171, hx171_0, hx171_1, hx171_2⟩ := at_T74 HR0.out x13_1 p171 q171
         cases e171
         replace p171 := eq_true p171; replace q171 := eq_true q171; have p172 : 0 ≤ (x13_1 : Int) := of_decide_eq_true ax23; have q172 : x13_1 < (l1.length : Int) := of_decide_eq_true ax23; obtain ⟨ad172, e172, hx172_0, hx172_1, hx172_2⟩ := at_T74 HR1.out x13_1 p172 q172
         cases e172
         replace p172 := eq_true p172; replace q172 := eq_true q172
         go_wp2
         repeat (go_quiet (fail); try go_wp2)
         go_ret
         exact ⟨ax18, ax19⟩
        ·rw [if_neg c8] at H
         have c8b0 : (!(((rd_T74 l0 x13_1).f0) == ((rd_T74 l1 x13_1).f0)) || (!(((rd_T74 l0 x13_1).f1) == ((rd_T74 l1 x13_1).f1)) || (!(((rd_T74 l0 x13_1).f2) == ((rd_T74 l1 x13_1).f2))))) = false := by simpa using c8
         clear c8; have H' := am H; clear H; have p171 : 0 ≤ (x13_1 : Int) := of_decide_eq_true ax23; have q171 : x13_1 < (l0.length : Int) := of_decide_eq_true ax23; obtain ⟨ad171, e171, hx171_0, hx171_1, hx171_2⟩ := at_T74 HR0.out x13_1 p171 q171
         cases e171
         replace p171 := eq_true p171; replace q171 := eq_true q171; have p172 : 0 ≤ (x13_1 : Int) := of_decide_eq_true ax23; have q172 : x13_1 < (l1.length : Int) := of_decide_eq_true ax23; obtain ⟨ad172, e172, hx172_0, hx172_1, hx172_2⟩ := at_T74 HR1.out x13_1 p172 q172
         cases e172
         replace p172 := eq_true p172; replace q172 := eq_true q172
         go_wp2
         repeat (go_quiet (fail); try go_wp2)
         go_roundg k1
         case measure => have := HK1.out; omega
         case rel => exact ⟨(wrap64 (x13_1 + 1)), ax18, H', ⟨by have := HK1.out; omega⟩, ax19⟩
       ·exact ax7
      ·exact ax5
     ·exact ax6
    ·rw [if_neg c4] at H
     have c4b0 := decide_eq_false c4; clear c4; obtain rfl := Option.some.inj H
     go_wp2
     repeat (go_quiet (fail); try go_wp2)
     go_ret
     exact ⟨ax18, ax19⟩
 ·rw [if_neg c3] at H
  have c3b0 := beq_eq_false_iff_ne.mpr c3; have c3b1 := bne_iff_ne.mpr c3
  have c3b2 : (l0.length == l1.length) = false := by first | simpa using c3 | (simp at c3 ⊢; omega)
  obtain rfl := Option.some.inj H
  go_enter Tryz.func197, Tryz.ntmps197
  go_wp2
  repeat (go_quiet (fail); try go_wp2)
  go_ret
  exact ⟨ax18, ax19⟩

end Go.Proofs.YtcplbbflfgckbaaGreatDoor.X

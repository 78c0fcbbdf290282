-- By gen.py (the session's own program over the kit's printer): functions of the program, each with its contract. Lean checks it.
import Derived.Test.YtcplbbflfgckbaaGreatDoorX0
import Derived.Test.YtcplbbflfgckbaaGreatDoorX2
import Derived.Test.YtcplbbflfgckbaaGreatDoorX4
namespace Go.Proofs.YtcplbbflfgckbaaGreatDoor.X
open Go.RowKit Go.Proofs.YtcplbbflfgckbaaGreatDoorW.PrintWords Go.Proofs.YtcplbbflfgckbaaGreatDoorW.PrintLast Go.Proofs.YtcplbbflfgckbaaGreatDoorW.PrintMore
attribute [local go_sem] max2_int min2_int max_two min_two max_three min_three max_four min_four   -- for this text's walks alone
set_option linter.unusedVariables false
set_option linter.unusedSimpArgs false

/-! ### spec_l1Cur_word: function 147 -/
def spec_l1Cur_word.l0 : Nat → ByteArray → Int → List Int → Int → Int → Option (ByteArray × Int × Int)
 | 0, _, _, _, _, _ => none
 | k + 1, x3, x4, x1000, x1001, x1002 => if x4 > 0 then ((spec_l1Cur_of.f x1000 x1001 x1002 (([(⟨#[97]⟩ : ByteArray), (⟨#[98]⟩ : ByteArray), (⟨#[97]⟩ : ByteArray), (⟨#[99]⟩ : ByteArray), (⟨#[98]⟩ : ByteArray), (⟨#[122]⟩ : ByteArray)] : List ByteArray))).bind fun bt206 => (if x3.size + bt206.1.size ≤ 9223372036854775807 then (spec_l1Cur_word.l0 k (x3 ++ bt206.1) (wrap64 (x4 - 1)) x1000 bt206.2.1 bt206.2.2) else (none))) else ((spec_l1Cur_one.f x1000 x1001 x1002 50).bind fun bt209 => (if bt209.1 = true then ((spec_l1Cur_of.f x1000 bt209.2.1 bt209.2.2 (([(⟨#[65]⟩ : ByteArray), (⟨#[123]⟩ : ByteArray), (⟨#[32]⟩ : ByteArray), (⟨#[97, 97, 97, 97, 97, 97, 97, 97, 97, 97, 97, 97, 97]⟩ : ByteArray)] : List ByteArray))).bind fun bt215 => (if x3.size + bt215.1.size ≤ 9223372036854775807 then (some (x3 ++ bt215.1, bt215.2.1, bt215.2.2)) else (none))) else (some (x3, bt209.2.1, bt209.2.2))))
def spec_l1Cur_word.f (k : Nat) (s0_0 : List Int) (s0_1 : Int) (s0_2 : Int) : Option (ByteArray × Int × Int) := (spec_l1Cur_among.f s0_0 s0_1 s0_2 (([3, 2, 4, 1, 5, 0, 3, 12] : List Int))).bind fun bt200 => (spec_l1Cur_word.l0 k (⟨#[]⟩ : ByteArray) bt200.1 s0_0 bt200.2.1 bt200.2.2)
theorem spec_l1Cur_word.mono_l : ∀ k, (∀ y0 y1 y2 y3 y4, LeO (spec_l1Cur_word.l0 k y0 y1 y2 y3 y4) (spec_l1Cur_word.l0 (k + 1) y0 y1 y2 y3 y4))
 | 0 => fun _ _ _ _ _ r h => by simp [spec_l1Cur_word.l0] at h
 | k + 1 => by
  have ih0 := spec_l1Cur_word.mono_l k
  ·intro y0 y1 y2 y3 y4
   unfold spec_l1Cur_word.l0
   repeat' first | (with_reducible first | exact ih0 .. | exact LeO.refl _ | exact LeO.none _ | refine LeO.ite ?_ ?_ | refine LeO.bind ?_ (fun _ => ?_)) | exact ih0 .. | exact LeO.none _ | refine LeO.ite ?_ ?_ | refine LeO.bind ?_ (fun _ => ?_)
theorem spec_l1Cur_word.mono : ∀ a0 a1 a2 k, LeO (spec_l1Cur_word.f k a0 a1 a2) (spec_l1Cur_word.f (k + 1) a0 a1 a2) := by
 intro a0 a1 a2 k
 have ih0 := spec_l1Cur_word.mono_l k
 unfold spec_l1Cur_word.f
 repeat' first | (with_reducible first | exact ih0 .. | exact LeO.refl _ | exact LeO.none _ | refine LeO.ite ?_ ?_ | refine LeO.bind ?_ (fun _ => ?_)) | exact ih0 .. | exact LeO.none _ | refine LeO.ite ?_ ?_ | refine LeO.bind ?_ (fun _ => ?_)
set_option maxHeartbeats 8000000 in
set_option maxRecDepth 100000 in
theorem spec_l1Cur_word.calls (k : Nat) (g : Nat) (s0_0 : List Int) (s0_1 : Int) (s0_2 : Int) (r1 : ByteArray) (r2 : Int) (r3 : Int) (w0 w : World) (hI : IsS82 w0 w g s0_0 s0_1 s0_2) (hB : Below w0.heap.size w0 w) (h : spec_l1Cur_word.f k s0_0 s0_1 s0_2 = some (r1, r2, r3)) :
  Calls Tryz.prog 147 #[.pointer (some ⟨g, 0, none⟩)] w fun e w' => e = .returned (.string r1) ∧ IsS82 w0 w' g s0_0 r2 r3 ∧ Below w0.heap.size w0 w' ∧ KeepBut w w' g none := by
 have HI0 := Aside0.mk hI; have HK := Aside0.mk (KeepBut.refl w g none); have HL := Aside0.mk hB.size; clear hI; have HW0 := Aside0.mk hB.size; have HB := Aside0.mk hB; clear hB
 have H : ((spec_l1Cur_among.f s0_0 s0_1 s0_2 (([3, 2, 4, 1, 5, 0, 3, 12] : List Int))).bind fun bt200 => (spec_l1Cur_word.l0 k (⟨#[]⟩ : ByteArray) bt200.1 s0_0 bt200.2.1 bt200.2.2)) = some (r1, r2, r3) := h
 clear h
 obtain ⟨y197, hy197⟩ : ∃ y_ : List Int, y_ = (([3, 2, 4, 1, 5, 0, 3, 12] : List Int)) := ⟨_, rfl⟩
 replace H : ((spec_l1Cur_among.f s0_0 s0_1 s0_2 y197).bind fun bt200 => (spec_l1Cur_word.l0 k (⟨#[]⟩ : ByteArray) bt200.1 s0_0 bt200.2.1 bt200.2.2)) = some (r1, r2, r3) := by first | (rw [hy197]; with_reducible exact H) | (have H2_ := (Option.bind_some _ _).symm.trans H; rw [hy197]; with_reducible exact H2_) | (have H2_ := (Option.bind_some _ _).symm.trans H; with_reducible exact H2_) | with_reducible exact H | (rw [hy197]; exact H) | exact H
 have Ny197 := Aside0.mk hy197; clear hy197
 obtain ⟨⟨t200, t201, t202⟩, A2, H⟩ := bs H
 have H' := Aside0.mk H
 clear H
 go_enter Tryz.func147, Tryz.ntmps147
 go_wp2_with (first | ((with_reducible refine gate_dst (N := 6) rfl ?_); refine Kd.R_lit (Kd.int .i64) _ 3 ?hg (N := 6) ?hd (xs := ([3, 2, 4, 1, 5, 0, 3, 12] : List Int)) (inner := [.int .i64 3, .int .i64 2, .int .i64 4, .int .i64 1, .int .i64 5, .int .i64 0, .int .i64 3, .int .i64 12]) (ok := fun _ => True) (okp := fun _ => True) ?hr ?hp (fun _ hk => hk) trivial (Below.refl _ _) (Nat.le_refl _) (by simp) ?_; (case hd => rfl); (case hg => rfl); (case hr => exact ax31); (case hp => exact (Reps.one (show Kd.M (Kd.int .i64) _ _ _ 3 [.int .i64 3] from rfl) (Reps.one (show Kd.M (Kd.int .i64) _ _ _ 2 [.int .i64 2] from rfl) (Reps.one (show Kd.M (Kd.int .i64) _ _ _ 4 [.int .i64 4] from rfl) (Reps.one (show Kd.M (Kd.int .i64) _ _ _ 1 [.int .i64 1] from rfl) (Reps.one (show Kd.M (Kd.int .i64) _ _ _ 5 [.int .i64 5] from rfl) (Reps.one (show Kd.M (Kd.int .i64) _ _ _ 0 [.int .i64 0] from rfl) (Reps.one (show Kd.M (Kd.int .i64) _ _ _ 3 [.int .i64 3] from rfl) (Reps.one (show Kd.M (Kd.int .i64) _ _ _ 12 [.int .i64 12] from rfl) (Reps.none _ _)))))))))); intro v198 w3 ho4 hb hg_ hnew_; clear hg_ hnew_; (first | rw [← Ny197.out] at ho4 | (simp only [Int.reduceToNat] at ho4; rw [← Ny197.out] at ho4)); have HO199 := Aside0.mk (Kd.R_lower ho4 (keep_size (w := w) (g := g) (row := none) ax29)); replace HK := Aside0.mk (KeepBut.trans ax29 (KeepBut.of_below hb g none) (.inl rfl)); replace HB := Aside0.mk (below_step ax28 hb); replace HI0 := Aside0.mk (IsS82.below ax27 hb); clear hb ho4; obtain ⟨Ao5, co5, eo5⟩ := Kd.R_slice HO199.out; subst eo5) | ((with_reducible refine gd 7 186 ?_); refine gc 7 Tryz.func186 #[.pointer (some ⟨g, 0, none⟩), .slice Ao5 y197.length co5] (spec_l1Cur_among.calls g s0_0 s0_1 s0_2 _ _ y197 t200 t201 t202 w0 _ ax27 ax28 (by repeat (first | exact (Kd.R_reads' HO199.out).2.2 | (with_reducible refine Kd.C_alloc ?_ _) | (with_reducible refine Kd.C_drewN ?_ _) | (with_reducible refine Kd.C_drew ?_))) ((Kd.R_reads' HO199.out).2.1) (far_slice (IsS82.own_ne HI0.out HO199.out (by decide))) A2.out) ?_; rintro e w6 ⟨rfl, hi, hb, hk⟩; refine ⟨_, rfl, ?_⟩; replace HO199 := Aside0.mk (Kd.R_mono (Kd.R_keep (IsS82.apart (show IsS82 w0 _ g s0_0 s0_1 s0_2 from by repeat (first | (with_reducible first | exact HI0.out | apply IsS82.alloc | apply IsS82.drewN | apply IsS82.drew | apply IsS82.set_1 | apply IsS82.set_2) | exact HI0.out)) (by (with_reducible repeat (first | apply Kd.R_alloc | apply Kd.R_drewN | apply Kd.R_drew)); exact HO199.out) (by decide)) hk (fun _ h => h.2)) (fun _ h => h.1)); replace HK := Aside0.mk (KeepBut.trans ax29 hk (.inl rfl)); replace HB := Aside0.mk (hb); replace HI0 := Aside0.mk (hi); (try clear hb); (try clear hb2); (try clear hk); (try clear hi)))
 go_loopg [3, 4] k (fun kq v3 v4 w' => ∃ (x3_1 : ByteArray) (x4_1 : Int) (x1001_1 : Int) (x1002_1 : Int), v3 = .string x3_1 ∧ v4 = .int .i64 x4_1 ∧ Aside0 (spec_l1Cur_word.l0 kq x3_1 x4_1 s0_0 x1001_1 x1002_1 = some (r1, r2, r3)) ∧ Aside0 (kq ≤ k) ∧ Aside0 (IsS82 w0 w' g s0_0 x1001_1 x1002_1) ∧ Aside0 (KeepBut w w' g none) ∧ Aside0 (Below w0.heap.size w0 w'))
 case atStart => exact ⟨((⟨#[]⟩ : ByteArray)), (t200), (t201), (t202), ax30, ax30, H', ⟨Nat.le_refl _⟩, ⟨ax27⟩, ⟨ax29⟩, ⟨ax28⟩⟩
 case round =>
  clear H'
  obtain ⟨x3_1, x4_1, x1001_1, x1002_1, rfl, rfl, HA, HK1, HI0, HK, HB⟩ := hrel
  cases gk with
  | zero => exact absurd HA.out (by simp [spec_l1Cur_word.l0])
  | succ k1 =>
   have H := HA.out; clear HA
   simp only [spec_l1Cur_word.l0] at H
   by_cases c7 : x4_1 > 0
   ·rw [if_pos c7] at H
    have c7b0 : decide (0 < x4_1) = true := decide_eq_true c7
    clear c7
    obtain ⟨y203, hy203⟩ : ∃ y_ : List ByteArray, y_ = (([(⟨#[97]⟩ : ByteArray), (⟨#[98]⟩ : ByteArray), (⟨#[97]⟩ : ByteArray), (⟨#[99]⟩ : ByteArray), (⟨#[98]⟩ : ByteArray), (⟨#[122]⟩ : ByteArray)] : List ByteArray)) := ⟨_, rfl⟩
    replace H : ((spec_l1Cur_of.f s0_0 x1001_1 x1002_1 y203).bind fun bt206 => (if x3_1.size + bt206.1.size ≤ 9223372036854775807 then (spec_l1Cur_word.l0 k1 (x3_1 ++ bt206.1) (wrap64 (x4_1 - 1)) s0_0 bt206.2.1 bt206.2.2) else (none))) = some (r1, r2, r3) := by first | (rw [hy203]; with_reducible exact H) | (have H2_ := (Option.bind_some _ _).symm.trans H; rw [hy203]; with_reducible exact H2_) | (have H2_ := (Option.bind_some _ _).symm.trans H; with_reducible exact H2_) | with_reducible exact H | (rw [hy203]; exact H) | exact H
    have Ny203 := Aside0.mk hy203; clear hy203
    obtain ⟨⟨t206, t207, t208⟩, A8, H⟩ := bs H
    by_cases c9 : x3_1.size + t206.size ≤ 9223372036854775807
    ·rw [if_pos c9] at H
     have c9b0 := eq_true c9
     have c9b1 : decide (x3_1.size + t206.size ≤ 9223372036854775807) = true := decide_eq_true c9
     try have c9b2 : (9223372036854775807 < x3_1.size + t206.size) = False := eq_false (Nat.not_lt.2 c9)
     clear c9
     obtain ⟨js10, hjs10⟩ : ∃ j_ : ByteArray, (x3_1 ++ t206) = j_ := ⟨_, rfl⟩
     replace H : (spec_l1Cur_word.l0 k1 js10 (wrap64 (x4_1 - 1)) s0_0 t207 t208) = some (r1, r2, r3) := by first | (rw [hjs10] at H; exact H) | (simp only [hjs10] at H ⊢; exact H)
     have H' := Aside0.mk H
     clear H
     go_wp2_with (first | ((with_reducible refine gate_dst (N := 14) rfl ?_); refine Kd.R_lit Kd.string _ 9 ?hg (N := 14) ?hd (xs := ([(⟨#[97]⟩ : ByteArray), (⟨#[98]⟩ : ByteArray), (⟨#[97]⟩ : ByteArray), (⟨#[99]⟩ : ByteArray), (⟨#[98]⟩ : ByteArray), (⟨#[122]⟩ : ByteArray)] : List ByteArray)) (inner := [.string (⟨#[97]⟩ : ByteArray), .string (⟨#[98]⟩ : ByteArray), .string (⟨#[97]⟩ : ByteArray), .string (⟨#[99]⟩ : ByteArray), .string (⟨#[98]⟩ : ByteArray), .string (⟨#[122]⟩ : ByteArray)]) (ok := fun _ => True) (okp := fun _ => True) ?hr ?hp (fun _ hk => hk) trivial (Below.refl _ _) (Nat.le_refl _) (by simp) ?_; (case hd => rfl); (case hg => rfl); (case hr => exact ax31); (case hp => exact (Reps.one (show Kd.M Kd.string _ _ _ (⟨#[97]⟩ : ByteArray) [.string (⟨#[97]⟩ : ByteArray)] from rfl) (Reps.one (show Kd.M Kd.string _ _ _ (⟨#[98]⟩ : ByteArray) [.string (⟨#[98]⟩ : ByteArray)] from rfl) (Reps.one (show Kd.M Kd.string _ _ _ (⟨#[97]⟩ : ByteArray) [.string (⟨#[97]⟩ : ByteArray)] from rfl) (Reps.one (show Kd.M Kd.string _ _ _ (⟨#[99]⟩ : ByteArray) [.string (⟨#[99]⟩ : ByteArray)] from rfl) (Reps.one (show Kd.M Kd.string _ _ _ (⟨#[98]⟩ : ByteArray) [.string (⟨#[98]⟩ : ByteArray)] from rfl) (Reps.one (show Kd.M Kd.string _ _ _ (⟨#[122]⟩ : ByteArray) [.string (⟨#[122]⟩ : ByteArray)] from rfl) (Reps.none _ _)))))))); intro v204 w11 ho12 hb hg_ hnew_; clear hg_ hnew_; (first | rw [← Ny203.out] at ho12 | (simp only [Int.reduceToNat] at ho12; rw [← Ny203.out] at ho12)); have HO205 := Aside0.mk (Kd.R_lower ho12 (keep_size (w := w) (g := g) (row := none) ax29)); replace HK := Aside0.mk (KeepBut.trans ax29 (KeepBut.of_below hb g none) (.inl rfl)); replace HB := Aside0.mk (below_step ax28 hb); replace HI0 := Aside0.mk (IsS82.below ax27 hb); clear hb ho12; obtain ⟨Ao13, co13, eo13⟩ := Kd.R_slice HO205.out; subst eo13) | ((with_reducible refine gd 15 121 ?_); refine gc 15 Tryz.func121 #[.pointer (some ⟨g, 0, none⟩), .slice Ao13 y203.length co13] (spec_l1Cur_of.calls g s0_0 x1001_1 x1002_1 _ _ y203 t206 t207 t208 w0 _ ax27 ax28 (by repeat (first | exact (Kd.R_reads' HO205.out).2.2 | (with_reducible refine Kd.C_alloc ?_ _) | (with_reducible refine Kd.C_drewN ?_ _) | (with_reducible refine Kd.C_drew ?_))) ((Kd.R_reads' HO205.out).2.1) (far_slice (IsS82.own_ne HI0.out HO205.out (by decide))) A8.out) ?_; rintro e w14 ⟨rfl, hi, hb, hk⟩; refine ⟨_, rfl, ?_⟩; replace HO205 := Aside0.mk (Kd.R_mono (Kd.R_keep (IsS82.apart (show IsS82 w0 _ g s0_0 x1001_1 x1002_1 from by repeat (first | (with_reducible first | exact HI0.out | apply IsS82.alloc | apply IsS82.drewN | apply IsS82.drew | apply IsS82.set_1 | apply IsS82.set_2) | exact HI0.out)) (by (with_reducible repeat (first | apply Kd.R_alloc | apply Kd.R_drewN | apply Kd.R_drew)); exact HO205.out) (by decide)) hk (fun _ h => h.2)) (fun _ h => h.1)); replace HK := Aside0.mk (KeepBut.trans ax29 hk (.inl rfl)); replace HB := Aside0.mk (hb); replace HI0 := Aside0.mk (hi); (try clear hb); (try clear hb2); (try clear hk); (try clear hi)))
     go_roundg k1
     case measure => have := HK1.out; omega
     case rel => exact ⟨(js10), (wrap64 (x4_1 - 1)), (t207), (t208), (by first | rfl | (simp; done) | (simp only [← hjs10] <;> (first | rfl | simp)) | (simp [*]; done)), ax30, H', ⟨by have := HK1.out; omega⟩, ⟨ax27⟩, ⟨ax29⟩, ⟨ax28⟩⟩
    ·exact ax2
   ·rw [if_neg c7] at H
    have c7b0 : decide (0 < x4_1) = false := decide_eq_false c7
    clear c7
    obtain ⟨⟨t209, t210, t211⟩, A15, H⟩ := bs H
    by_cases c16 : t209 = true
    ·subst c16
     rw [if_pos rfl] at H
     obtain ⟨y212, hy212⟩ : ∃ y_ : List ByteArray, y_ = (([(⟨#[65]⟩ : ByteArray), (⟨#[123]⟩ : ByteArray), (⟨#[32]⟩ : ByteArray), (⟨#[97, 97, 97, 97, 97, 97, 97, 97, 97, 97, 97, 97, 97]⟩ : ByteArray)] : List ByteArray)) := ⟨_, rfl⟩
     replace H : ((spec_l1Cur_of.f s0_0 t210 t211 y212).bind fun bt215 => (if x3_1.size + bt215.1.size ≤ 9223372036854775807 then (some (x3_1 ++ bt215.1, bt215.2.1, bt215.2.2)) else (none))) = some (r1, r2, r3) := by first | (rw [hy212]; with_reducible exact H) | (have H2_ := (Option.bind_some _ _).symm.trans H; rw [hy212]; with_reducible exact H2_) | (have H2_ := (Option.bind_some _ _).symm.trans H; with_reducible exact H2_) | with_reducible exact H | (rw [hy212]; exact H) | exact H
     have Ny212 := Aside0.mk hy212; clear hy212
     obtain ⟨⟨t215, t216, t217⟩, A17, H⟩ := bs H
     by_cases c18 : x3_1.size + t215.size ≤ 9223372036854775807
     ·rw [if_pos c18] at H
      have c18b0 := eq_true c18
      have c18b1 : decide (x3_1.size + t215.size ≤ 9223372036854775807) = true := decide_eq_true c18
      try have c18b2 : (9223372036854775807 < x3_1.size + t215.size) = False := eq_false (Nat.not_lt.2 c18)
      clear c18
      obtain ⟨js19, hjs19⟩ : ∃ j_ : ByteArray, (x3_1 ++ t215) = j_ := ⟨_, rfl⟩
      replace H : (some (js19, t216, t217)) = some (r1, r2, r3) := by first | (rw [hjs19] at H; exact H) | (simp only [hjs19] at H ⊢; exact H)
      simp only [Option.some.injEq, Prod.mk.injEq] at H
      obtain ⟨rfl, rfl, rfl⟩ := H
      go_wp2_with (first | ((with_reducible refine gd 18 122 ?_); refine gc 18 Tryz.func122 #[.pointer (some ⟨g, 0, none⟩), .int .i64 50] (spec_l1Cur_one.calls g s0_0 x1001_1 x1002_1 50 true t210 t211 w0 _ ax27 ax28 A15.out) ?_; rintro e w20 ⟨rfl, hi, hb, hk⟩; refine ⟨_, rfl, ?_⟩; replace HK := Aside0.mk (KeepBut.trans ax29 hk (.inl rfl)); replace HB := Aside0.mk (hb); replace HI0 := Aside0.mk (hi); (try clear hb); (try clear hb2); (try clear hk); (try clear hi)) | ((with_reducible refine gate_dst (N := 21) rfl ?_); refine Kd.R_lit Kd.string _ 9 ?hg (N := 21) ?hd (xs := ([(⟨#[65]⟩ : ByteArray), (⟨#[123]⟩ : ByteArray), (⟨#[32]⟩ : ByteArray), (⟨#[97, 97, 97, 97, 97, 97, 97, 97, 97, 97, 97, 97, 97]⟩ : ByteArray)] : List ByteArray)) (inner := [.string (⟨#[65]⟩ : ByteArray), .string (⟨#[123]⟩ : ByteArray), .string (⟨#[32]⟩ : ByteArray), .string (⟨#[97, 97, 97, 97, 97, 97, 97, 97, 97, 97, 97, 97, 97]⟩ : ByteArray)]) (ok := fun _ => True) (okp := fun _ => True) ?hr ?hp (fun _ hk => hk) trivial (Below.refl _ _) (Nat.le_refl _) (by simp) ?_; (case hd => rfl); (case hg => rfl); (case hr => exact ax31); (case hp => exact (Reps.one (show Kd.M Kd.string _ _ _ (⟨#[65]⟩ : ByteArray) [.string (⟨#[65]⟩ : ByteArray)] from rfl) (Reps.one (show Kd.M Kd.string _ _ _ (⟨#[123]⟩ : ByteArray) [.string (⟨#[123]⟩ : ByteArray)] from rfl) (Reps.one (show Kd.M Kd.string _ _ _ (⟨#[32]⟩ : ByteArray) [.string (⟨#[32]⟩ : ByteArray)] from rfl) (Reps.one (show Kd.M Kd.string _ _ _ (⟨#[97, 97, 97, 97, 97, 97, 97, 97, 97, 97, 97, 97, 97]⟩ : ByteArray) [.string (⟨#[97, 97, 97, 97, 97, 97, 97, 97, 97, 97, 97, 97, 97]⟩ : ByteArray)] from rfl) (Reps.none _ _)))))); intro v213 w21 ho22 hb hg_ hnew_; clear hg_ hnew_; (first | rw [← Ny212.out] at ho22 | (simp only [Int.reduceToNat] at ho22; rw [← Ny212.out] at ho22)); have HO214 := Aside0.mk (Kd.R_lower ho22 (keep_size (w := w) (g := g) (row := none) ax29)); replace HK := Aside0.mk (KeepBut.trans ax29 (KeepBut.of_below hb g none) (.inl rfl)); replace HB := Aside0.mk (below_step ax28 hb); replace HI0 := Aside0.mk (IsS82.below ax27 hb); clear hb ho22; obtain ⟨Ao23, co23, eo23⟩ := Kd.R_slice HO214.out; subst eo23) | ((with_reducible refine gd 22 121 ?_); refine gc 22 Tryz.func121 #[.pointer (some ⟨g, 0, none⟩), .slice Ao23 y212.length co23] (spec_l1Cur_of.calls g s0_0 t210 t211 _ _ y212 t215 t216 t217 w0 _ ax27 ax28 (by repeat (first | exact (Kd.R_reads' HO214.out).2.2 | (with_reducible refine Kd.C_alloc ?_ _) | (with_reducible refine Kd.C_drewN ?_ _) | (with_reducible refine Kd.C_drew ?_))) ((Kd.R_reads' HO214.out).2.1) (far_slice (IsS82.own_ne HI0.out HO214.out (by decide))) A17.out) ?_; rintro e w24 ⟨rfl, hi, hb, hk⟩; refine ⟨_, rfl, ?_⟩; replace HO214 := Aside0.mk (Kd.R_mono (Kd.R_keep (IsS82.apart (show IsS82 w0 _ g s0_0 t210 t211 from by repeat (first | (with_reducible first | exact HI0.out | apply IsS82.alloc | apply IsS82.drewN | apply IsS82.drew | apply IsS82.set_1 | apply IsS82.set_2) | exact HI0.out)) (by (with_reducible repeat (first | apply Kd.R_alloc | apply Kd.R_drewN | apply Kd.R_drew)); exact HO214.out) (by decide)) hk (fun _ h => h.2)) (fun _ h => h.1)); replace HK := Aside0.mk (KeepBut.trans ax29 hk (.inl rfl)); replace HB := Aside0.mk (hb); replace HI0 := Aside0.mk (hi); (try clear hb); (try clear hb2); (try clear hk); (try clear hi)))
      go_ret
      exact ⟨(by first | rfl | (simp [errW_none, errW_some] <;> rfl) | (simp only [← hjs19]; first | rfl | (simp [errW_none, errW_some] <;> rfl)) | (simp [*, errW_none, errW_some] <;> rfl)), by repeat (first | (with_reducible first | exact HI0.out | apply IsS82.alloc | apply IsS82.drewN | apply IsS82.drew | apply IsS82.set_1 | apply IsS82.set_2) | exact HI0.out), by repeat (first | (with_reducible first | exact HB.out | apply below_alloc | apply pw_below_drewN | apply below_drew1 | refine below_set ?_ (IsS82.ge HI0.out)) | exact HB.out), by repeat (first | (with_reducible first | exact HK.out | apply KeepBut.set_ | apply keep_drewN | apply keep_drew | apply keep_alloc) | exact HK.out)⟩
     ·exact ax12
    ·replace c16 := Bool.eq_false_iff.mpr c16
     subst c16
     rw [if_neg (show ¬ (false = true) by decide)] at H
     simp only [Option.some.injEq, Prod.mk.injEq] at H
     obtain ⟨rfl, rfl, rfl⟩ := H
     go_wp2_with (first | ((with_reducible refine gd 18 122 ?_); refine gc 18 Tryz.func122 #[.pointer (some ⟨g, 0, none⟩), .int .i64 50] (spec_l1Cur_one.calls g s0_0 x1001_1 x1002_1 50 false t210 t211 w0 _ ax27 ax28 A15.out) ?_; rintro e w25 ⟨rfl, hi, hb, hk⟩; refine ⟨_, rfl, ?_⟩; replace HK := Aside0.mk (KeepBut.trans ax29 hk (.inl rfl)); replace HB := Aside0.mk (hb); replace HI0 := Aside0.mk (hi); (try clear hb); (try clear hb2); (try clear hk); (try clear hi)))
     go_ret
     exact ⟨ax26, by repeat (first | (with_reducible first | exact HI0.out | apply IsS82.alloc | apply IsS82.drewN | apply IsS82.drew | apply IsS82.set_1 | apply IsS82.set_2) | exact HI0.out), by repeat (first | (with_reducible first | exact HB.out | apply below_alloc | apply pw_below_drewN | apply below_drew1 | refine below_set ?_ (IsS82.ge HI0.out)) | exact HB.out), by repeat (first | (with_reducible first | exact HK.out | apply KeepBut.set_ | apply keep_drewN | apply keep_drew | apply keep_alloc) | exact HK.out)⟩

/-! ### spec_l1Cur_words: function 139 -/
mutual
def spec_l1Cur_words.l0 : Nat → List ByteArray → Int → List Int → Int → Int → Option (List ByteArray × Int × Int)
 | 0, _, _, _, _, _ => none
 | k + 1, x3, x4, x1000, x1001, x1002 => if x4 > 0 then ((spec_l1Cur_word.f k x1000 x1001 x1002).bind fun bt227 => (if (x3.length : Int) > 0 then ((spec_l1Cur_one.f x1000 bt227.2.1 bt227.2.2 3).bind fun bt230 => (spec_l1Cur_words.j1 k x3 x4 bt227.1 bt230.1 x1000 bt230.2.1 bt230.2.2)) else (spec_l1Cur_words.j1 k x3 x4 bt227.1 false x1000 bt227.2.1 bt227.2.2))) else ((spec_l1Cur_one.f x1000 x1001 x1002 40).bind fun bt258 => (if bt258.1 = true then (spec_l1Cur_words.l1 k x3 0 x1000 bt258.2.1 bt258.2.2) else (some (x3, bt258.2.1, bt258.2.2))))
def spec_l1Cur_words.j1 : Nat → List ByteArray → Int → ByteArray → Bool → List Int → Int → Int → Option (List ByteArray × Int × Int)
 | 0, _, _, _, _, _, _, _ => none
 | k + 1, x3, x4, x5, x23, x1000, x1001, x1002 => if x23 = true then ((spec_l1Cur_pick.f x1000 x1001 x1002 (x3.length : Int)).bind fun bt233 => (if 0 ≤ bt233.1 then (if bt233.1 < (x3.length : Int) then ((spec_l1Cur_one.f x1000 bt233.2.1 bt233.2.2 2).bind fun bt237 => (if bt237.1 = true then (spec_l1Cur_words.j2 k x3 x4 (rdOf ByteArray.empty x3 bt233.1) (decide (((rdOf ByteArray.empty x3 bt233.1).size : Int) < 12)) x1000 bt237.2.1 bt237.2.2) else (spec_l1Cur_words.j2 k x3 x4 (rdOf ByteArray.empty x3 bt233.1) false x1000 bt237.2.1 bt237.2.2))) else (none)) else (none))) else (if x3.length < 8796093022208 then (spec_l1Cur_words.l0 k (x3 ++ [x5]) (wrap64 (x4 - 1)) x1000 x1001 x1002) else (none))
def spec_l1Cur_words.j2 : Nat → List ByteArray → Int → ByteArray → Bool → List Int → Int → Int → Option (List ByteArray × Int × Int)
 | 0, _, _, _, _, _, _, _ => none
 | k + 1, x3, x4, x5, x37, x1000, x1001, x1002 => if x37 = true then ((spec_l1Cur_of.f x1000 x1001 x1002 (([(⟨#[97]⟩ : ByteArray), (⟨#[98]⟩ : ByteArray), (⟨#[99]⟩ : ByteArray)] : List ByteArray))).bind fun bt243 => (if x5.size + bt243.1.size ≤ 9223372036854775807 then (if x3.length < 8796093022208 then (spec_l1Cur_words.l0 k (x3 ++ [x5 ++ bt243.1]) (wrap64 (x4 - 1)) x1000 bt243.2.1 bt243.2.2) else (none)) else (none))) else (if (x5.size : Int) > 0 then (if 0 ≤ (wrap64 ((x5.size : Int) - 1)) then (if (wrap64 ((x5.size : Int) - 1)) ≤ (x5.size : Int) then (if x3.length < 8796093022208 then (spec_l1Cur_words.l0 k (x3 ++ [x5.extract 0 ((wrap64 ((x5.size : Int) - 1)) : Int).toNat]) (wrap64 (x4 - 1)) x1000 x1001 x1002) else (none)) else (none)) else (none)) else (if x3.length < 8796093022208 then (spec_l1Cur_words.l0 k (x3 ++ [x5]) (wrap64 (x4 - 1)) x1000 x1001 x1002) else (none)))
def spec_l1Cur_words.l1 : Nat → List ByteArray → Int → List Int → Int → Int → Option (List ByteArray × Int × Int)
 | 0, _, _, _, _, _ => none
 | k + 1, x3, x6, x1000, x1001, x1002 => if x6 < 41 then (if x3.length < 8796093022208 then (spec_l1Cur_words.l1 k (x3 ++ [strOfNums (([(wrap64 (97 + (Int.tmod x6 26))) % 256, (wrap64 (97 + (wrap64 (Int.tdiv x6 26)))) % 256] : List Int))]) (wrap64 (x6 + 1)) x1000 x1001 x1002) else (none)) else (some (x3, x1001, x1002))
end
def spec_l1Cur_words.f (k : Nat) (s0_0 : List Int) (s0_1 : Int) (s0_2 : Int) : Option (List ByteArray × Int × Int) := (spec_l1Cur_among.f s0_0 s0_1 s0_2 (([4, 6, 2, 8, 1, 0, 12, 3] : List Int))).bind fun bt224 => (spec_l1Cur_words.l0 k (([] : List ByteArray)) bt224.1 s0_0 bt224.2.1 bt224.2.2)
theorem spec_l1Cur_words.mono_l : ∀ k, (∀ y0 y1 y2 y3 y4, LeO (spec_l1Cur_words.l0 k y0 y1 y2 y3 y4) (spec_l1Cur_words.l0 (k + 1) y0 y1 y2 y3 y4)) ∧ (∀ y0 y1 y2 y3 y4 y5 y6, LeO (spec_l1Cur_words.j1 k y0 y1 y2 y3 y4 y5 y6) (spec_l1Cur_words.j1 (k + 1) y0 y1 y2 y3 y4 y5 y6)) ∧ (∀ y0 y1 y2 y3 y4 y5 y6, LeO (spec_l1Cur_words.j2 k y0 y1 y2 y3 y4 y5 y6) (spec_l1Cur_words.j2 (k + 1) y0 y1 y2 y3 y4 y5 y6)) ∧ (∀ y0 y1 y2 y3 y4, LeO (spec_l1Cur_words.l1 k y0 y1 y2 y3 y4) (spec_l1Cur_words.l1 (k + 1) y0 y1 y2 y3 y4))
 | 0 => ⟨fun _ _ _ _ _ r h => by simp [spec_l1Cur_words.l0] at h, fun _ _ _ _ _ _ _ r h => by simp [spec_l1Cur_words.j1] at h, fun _ _ _ _ _ _ _ r h => by simp [spec_l1Cur_words.j2] at h, fun _ _ _ _ _ r h => by simp [spec_l1Cur_words.l1] at h⟩
 | k + 1 => by
  obtain ⟨ih0, ih1, ih2, ih3⟩ := spec_l1Cur_words.mono_l k
  refine ⟨?_, ?_, ?_, ?_⟩ <;> intros
  all_goals (first | unfold spec_l1Cur_words.l0 | unfold spec_l1Cur_words.j1 | unfold spec_l1Cur_words.j2 | unfold spec_l1Cur_words.l1)
  all_goals (repeat' first | (with_reducible first | exact ih0 .. | exact ih1 .. | exact ih2 .. | exact ih3 .. | exact spec_l1Cur_word.mono .. | exact LeO.refl _ | exact LeO.none _ | refine LeO.ite ?_ ?_ | refine LeO.bind ?_ (fun _ => ?_)) | exact ih0 .. | exact ih1 .. | exact ih2 .. | exact ih3 .. | exact spec_l1Cur_word.mono .. | exact LeO.none _ | refine LeO.ite ?_ ?_ | refine LeO.bind ?_ (fun _ => ?_))
theorem spec_l1Cur_words.mono : ∀ a0 a1 a2 k, LeO (spec_l1Cur_words.f k a0 a1 a2) (spec_l1Cur_words.f (k + 1) a0 a1 a2) := by
 intro a0 a1 a2 k
 obtain ⟨ih0, ih1, ih2, ih3⟩ := spec_l1Cur_words.mono_l k
 unfold spec_l1Cur_words.f
 repeat' first | (with_reducible first | exact ih0 .. | exact ih1 .. | exact ih2 .. | exact ih3 .. | exact spec_l1Cur_word.mono .. | exact LeO.refl _ | exact LeO.none _ | refine LeO.ite ?_ ?_ | refine LeO.bind ?_ (fun _ => ?_)) | exact ih0 .. | exact ih1 .. | exact ih2 .. | exact ih3 .. | exact spec_l1Cur_word.mono .. | exact LeO.none _ | refine LeO.ite ?_ ?_ | refine LeO.bind ?_ (fun _ => ?_)
set_option maxHeartbeats 8000000 in
set_option maxRecDepth 100000 in
theorem spec_l1Cur_words.calls (k : Nat) (g : Nat) (s0_0 : List Int) (s0_1 : Int) (s0_2 : Int) (r1 : List ByteArray) (r2 : Int) (r3 : Int) (w0 w : World) (hI : IsS82 w0 w g s0_0 s0_1 s0_2) (hB : Below w0.heap.size w0 w) (h : spec_l1Cur_words.f k s0_0 s0_1 s0_2 = some (r1, r2, r3)) :
  Calls Tryz.prog 139 #[.pointer (some ⟨g, 0, none⟩)] w fun e w' => ∃ v0_ : Value, e = .returned (v0_) ∧ Kd.R Kd.string 9 w' w.heap.size (fun _ => True) v0_ r1 ∧ IsS82 w0 w' g s0_0 r2 r3 ∧ Below w0.heap.size w0 w' ∧ KeepBut w w' g none := by
 have HI0 := Aside0.mk hI; have HK := Aside0.mk (KeepBut.refl w g none); have HL := Aside0.mk hB.size; clear hI; have HW0 := Aside0.mk hB.size; have HB := Aside0.mk hB; clear hB
 have H : ((spec_l1Cur_among.f s0_0 s0_1 s0_2 (([4, 6, 2, 8, 1, 0, 12, 3] : List Int))).bind fun bt224 => (spec_l1Cur_words.l0 k (([] : List ByteArray)) bt224.1 s0_0 bt224.2.1 bt224.2.2)) = some (r1, r2, r3) := h
 clear h
 obtain ⟨y218, hy218⟩ : ∃ y_ : List ByteArray, y_ = (([] : List ByteArray)) := ⟨_, rfl⟩
 replace H : ((spec_l1Cur_among.f s0_0 s0_1 s0_2 (([4, 6, 2, 8, 1, 0, 12, 3] : List Int))).bind fun bt224 => (spec_l1Cur_words.l0 k y218 bt224.1 s0_0 bt224.2.1 bt224.2.2)) = some (r1, r2, r3) := by first | (rw [hy218]; with_reducible exact H) | (have H2_ := (Option.bind_some _ _).symm.trans H; rw [hy218]; with_reducible exact H2_) | (have H2_ := (Option.bind_some _ _).symm.trans H; with_reducible exact H2_) | with_reducible exact H | (rw [hy218]; exact H) | exact H
 have Ny218 := Aside0.mk hy218; clear hy218
 obtain ⟨y221, hy221⟩ : ∃ y_ : List Int, y_ = (([4, 6, 2, 8, 1, 0, 12, 3] : List Int)) := ⟨_, rfl⟩
 replace H : ((spec_l1Cur_among.f s0_0 s0_1 s0_2 y221).bind fun bt224 => (spec_l1Cur_words.l0 k y218 bt224.1 s0_0 bt224.2.1 bt224.2.2)) = some (r1, r2, r3) := by first | (rw [hy221]; with_reducible exact H) | (have H2_ := (Option.bind_some _ _).symm.trans H; rw [hy221]; with_reducible exact H2_) | (have H2_ := (Option.bind_some _ _).symm.trans H; with_reducible exact H2_) | with_reducible exact H | (rw [hy221]; exact H) | exact H
 have Ny221 := Aside0.mk hy221; clear hy221
 obtain ⟨⟨t224, t225, t226⟩, A2, H⟩ := bs H
 have H' := Aside0.mk H
 clear H
 go_enter Tryz.func139, Tryz.ntmps139
 go_wp2_with (first | ((with_reducible refine gate_dst (N := 7) rfl ?_); (try (refine gate_guard (by rfl) ?_; dsimp only)); refine Kd.R_lit Kd.string _ 9 ?hg (N := 7) ?hd (xs := ([] : List ByteArray)) (inner := []) (ok := fun _ => True) (okp := fun _ => True) ?hr ?hp (fun _ hk => hk) trivial (Below.refl _ _) (Nat.le_refl _) (by simp) ?_; (case hd => rfl); (case hg => rfl); (case hr => exact ax31); (case hp => exact ax32); intro v219 w3 ho4 hb hg_ hnew_; clear hg_ hnew_; (first | rw [← Ny218.out] at ho4 | (simp only [Int.reduceToNat] at ho4; rw [← Ny218.out] at ho4)); have HO220 := Aside0.mk (Kd.R_lower ho4 (keep_size (w := w) (g := g) (row := none) ax29)); replace HK := Aside0.mk (KeepBut.trans ax29 (KeepBut.of_below hb g none) (.inl rfl)); replace HB := Aside0.mk (below_step ax28 hb); replace HI0 := Aside0.mk (IsS82.below ax27 hb); clear hb ho4) | ((with_reducible refine gate_dst (N := 9) rfl ?_); (try (refine gate_guard (by rfl) ?_; dsimp only)); refine Kd.R_lit (Kd.int .i64) _ 3 ?hg (N := 9) ?hd (xs := ([4, 6, 2, 8, 1, 0, 12, 3] : List Int)) (inner := [.int .i64 4, .int .i64 6, .int .i64 2, .int .i64 8, .int .i64 1, .int .i64 0, .int .i64 12, .int .i64 3]) (ok := fun _ => True) (okp := fun _ => True) ?hr ?hp (fun _ hk => hk) trivial (Below.refl _ _) (Nat.le_refl _) (by simp) ?_; (case hd => rfl); (case hg => rfl); (case hr => exact ax31); (case hp => exact (Reps.one (show Kd.M (Kd.int .i64) _ _ _ 4 [.int .i64 4] from rfl) (Reps.one (show Kd.M (Kd.int .i64) _ _ _ 6 [.int .i64 6] from rfl) (Reps.one (show Kd.M (Kd.int .i64) _ _ _ 2 [.int .i64 2] from rfl) (Reps.one (show Kd.M (Kd.int .i64) _ _ _ 8 [.int .i64 8] from rfl) (Reps.one (show Kd.M (Kd.int .i64) _ _ _ 1 [.int .i64 1] from rfl) (Reps.one (show Kd.M (Kd.int .i64) _ _ _ 0 [.int .i64 0] from rfl) (Reps.one (show Kd.M (Kd.int .i64) _ _ _ 12 [.int .i64 12] from rfl) (Reps.one (show Kd.M (Kd.int .i64) _ _ _ 3 [.int .i64 3] from rfl) (Reps.none _ _)))))))))); intro v222 w5 ho6 hb hg_ hnew_; clear hg_ hnew_; (first | rw [← Ny221.out] at ho6 | (simp only [Int.reduceToNat] at ho6; rw [← Ny221.out] at ho6)); replace HO220 := uR HO220 hb; have HO223 := Aside0.mk (Kd.R_lower ho6 (keep_size (w := w) (g := g) (row := none) ax29)); replace HK := Aside0.mk (KeepBut.trans ax29 (KeepBut.of_below hb g none) (.inl rfl)); replace HB := Aside0.mk (below_step ax28 hb); replace HI0 := Aside0.mk (IsS82.below ax27 hb); clear hb ho6; obtain ⟨Ao7, co7, eo7⟩ := Kd.R_slice HO223.out; subst eo7) | ((with_reducible refine gd 10 186 ?_); refine gc 10 Tryz.func186 #[.pointer (some ⟨g, 0, none⟩), .slice Ao7 y221.length co7] (spec_l1Cur_among.calls g s0_0 s0_1 s0_2 _ _ y221 t224 t225 t226 w0 _ ax27 ax28 (by repeat (first | exact (Kd.R_reads' HO223.out).2.2 | (with_reducible refine Kd.C_alloc ?_ _) | (with_reducible refine Kd.C_drewN ?_ _) | (with_reducible refine Kd.C_drew ?_))) ((Kd.R_reads' HO223.out).2.1) (far_slice (IsS82.own_ne HI0.out HO223.out (by decide))) A2.out) ?_; rintro e w8 ⟨rfl, hi, hb, hk⟩; refine ⟨_, rfl, ?_⟩; replace HO220 := Aside0.mk (Kd.R_mono (Kd.R_keep (IsS82.apart (show IsS82 w0 _ g s0_0 s0_1 s0_2 from by repeat (first | (with_reducible first | exact HI0.out | apply IsS82.alloc | apply IsS82.drewN | apply IsS82.drew | apply IsS82.set_1 | apply IsS82.set_2) | exact HI0.out)) ax90 (by decide)) hk (fun _ h => h.2)) (fun _ h => h.1)); replace HO223 := Aside0.mk (Kd.R_mono (Kd.R_keep (IsS82.apart (show IsS82 w0 _ g s0_0 s0_1 s0_2 from by repeat (first | (with_reducible first | exact HI0.out | apply IsS82.alloc | apply IsS82.drewN | apply IsS82.drew | apply IsS82.set_1 | apply IsS82.set_2) | exact HI0.out)) (by (with_reducible repeat (first | apply Kd.R_alloc | apply Kd.R_drewN | apply Kd.R_drew)); exact HO223.out) (by decide)) hk (fun _ h => h.2)) (fun _ h => h.1)); replace HK := Aside0.mk (KeepBut.trans ax29 hk (.inl rfl)); replace HB := Aside0.mk (hb); replace HI0 := Aside0.mk (hi); (try clear hb); (try clear hb2); (try clear hk); (try clear hi)))
 go_loopg [3, 4] k (fun kq v3 v4 w' => ∃ (x3_1 : List ByteArray) (x4_1 : Int) (x1001_1 : Int) (x1002_1 : Int), v4 = .int .i64 x4_1 ∧ Aside0 (spec_l1Cur_words.l0 kq x3_1 x4_1 s0_0 x1001_1 x1002_1 = some (r1, r2, r3)) ∧ Aside0 (kq ≤ k) ∧ Aside0 (Kd.R Kd.string 9 w' w.heap.size (fun _ => True) v3 x3_1) ∧ Aside0 (IsS82 w0 w' g s0_0 x1001_1 x1002_1) ∧ Aside0 (KeepBut w w' g none) ∧ Aside0 (Below w0.heap.size w0 w'))
 case atStart => exact ⟨(y218), (t224), (t225), (t226), ax30, H', ⟨Nat.le_refl _⟩, ⟨ax90⟩, ⟨ax27⟩, ⟨ax29⟩, ⟨ax28⟩⟩
 case round =>
  clear H'
  obtain ⟨x3_1, x4_1, x1001_1, x1002_1, rfl, HA, HK1, HO_3, HI0, HK, HB⟩ := hrel
  cases gk with
  | zero => exact absurd HA.out (by simp [spec_l1Cur_words.l0])
  | succ k1 =>
   have H := HA.out; clear HA
   simp only [spec_l1Cur_words.l0] at H
   by_cases c9 : x4_1 > 0
   ·rw [if_pos c9] at H
    have c9b0 : decide (0 < x4_1) = true := decide_eq_true c9
    clear c9
    obtain ⟨⟨t227, t228, t229⟩, A10, H⟩ := bs H
    have HC11 := Aside0.mk H; clear H
    go_upto_region 6 with (first | ((with_reducible refine gd 16 147 ?_); refine gc 16 Tryz.func147 #[.pointer (some ⟨g, 0, none⟩)] (spec_l1Cur_word.calls k1 g s0_0 x1001_1 x1002_1 t227 t228 t229 w0 _ ax27 ax28 A10.out) ?_; rintro e w12 ⟨rfl, hi, hb, hk⟩; refine ⟨_, rfl, ?_⟩; replace HO_3 := Aside0.mk (Kd.R_mono (Kd.R_keep (IsS82.apart (show IsS82 w0 _ g s0_0 x1001_1 x1002_1 from by repeat (first | (with_reducible first | exact HI0.out | apply IsS82.alloc | apply IsS82.drewN | apply IsS82.drew | apply IsS82.set_1 | apply IsS82.set_2) | exact HI0.out)) ax91 (by decide)) hk (fun _ h => h.2)) (fun _ h => h.1)); replace HK := Aside0.mk (KeepBut.trans ax29 hk (.inl rfl)); replace HB := Aside0.mk (hb); replace HI0 := Aside0.mk (hi); (try clear hb); (try clear hb2); (try clear hk); (try clear hi)))
    (try simp only [Act.put, List.setIfInBounds_toArray, List.set_cons_zero, List.set_cons_succ])
    go_cut [23] (fun v23 wc => ∃ (kq : Nat) (x23_10 : Bool) (x1001_10 : Int) (x1002_10 : Int), v23 = .bool x23_10 ∧ Aside0 (spec_l1Cur_words.j1 kq x3_1 x4_1 t227 x23_10 s0_0 x1001_10 x1002_10 = some (r1, r2, r3)) ∧ Aside0 (kq ≤ k1) ∧ Aside0 (Kd.R Kd.string 9 wc w.heap.size (fun _ => True) u3 x3_1) ∧ Aside0 (IsS82 w0 wc g s0_0 x1001_10 x1002_10) ∧ Aside0 (KeepBut w wc g none) ∧ Aside0 (Below w0.heap.size w0 wc))
    case first =>
     have H := HC11.out; clear HC11
     by_cases c13 : (x3_1.length : Int) > 0
     ·rw [if_pos c13] at H
      have c13b0 : decide (0 < (x3_1.length : Int)) = true := decide_eq_true c13
      have c13b1 : decide (0 < x3_1.length) = true := decide_eq_true (by omega)
      clear c13
      (first | rw [c13b0] | (simp only [i64_w, i32_w]; rw [c13b0]) | skip)
      obtain ⟨⟨t230, t231, t232⟩, A14, H⟩ := bs H
      have H' := Aside0.mk H
      clear H
      obtain ⟨Ao15, co15, eo15⟩ := Kd.R_slice HO_3.out
      subst eo15
      go_wp2_with (first | (go_at_call 122; (with_reducible refine (spec_l1Cur_one.calls g s0_0 t228 t229 3 t230 t231 t232 w0 _ ?side1 ?side2 A14.out).mono ?_); (case side1 => exact ax27); (case side2 => exact ax28); rintro e w16 ⟨rfl, hi, hb, hk⟩; replace HO_3 := Aside0.mk (Kd.R_mono (Kd.R_keep (IsS82.apart (show IsS82 w0 _ g s0_0 t228 t229 from by repeat (first | (with_reducible first | exact HI0.out | apply IsS82.alloc | apply IsS82.drewN | apply IsS82.drew | apply IsS82.set_1 | apply IsS82.set_2) | exact HI0.out)) ax91 (by decide)) hk (fun _ h => h.2)) (fun _ h => h.1)); replace HK := Aside0.mk (KeepBut.trans ax29 hk (.inl rfl)); replace HB := Aside0.mk (hb); replace HI0 := Aside0.mk (hi); (try clear hb); (try clear hb2); (try clear hk); (try clear hi)))
      go_meet
      case rel => exact ⟨_, (t230), (t231), (t232), ax30, H', ⟨ax37⟩, ⟨ax91⟩, ⟨ax27⟩, ⟨ax29⟩, ⟨ax28⟩⟩
     ·rw [if_neg c13] at H
      have c13b0 : decide (0 < (x3_1.length : Int)) = false := decide_eq_false c13
      have c13b1 : decide (0 < x3_1.length) = false := decide_eq_false (by omega)
      clear c13
      (first | rw [c13b0] | (simp only [i64_w, i32_w]; rw [c13b0]) | skip)
      have H' := Aside0.mk H
      clear H
      obtain ⟨Ao17, co17, eo17⟩ := Kd.R_slice HO_3.out
      subst eo17
      go_wp2
      go_meet
      case rel => exact ⟨_, (false), (t228), (t229), ax30, H', ⟨ax37⟩, ⟨ax91⟩, ⟨ax27⟩, ⟨ax29⟩, ⟨ax28⟩⟩
    case rest =>
     clear HC11
     (try clear c9);(try clear c9b0)
     obtain ⟨kq, x23_10, x1001_10, x1002_10, rfl, HA, HJ10, HO_3, HI0, HK, HB⟩ := hcut
     cases kq with
     | zero => exact absurd HA.out (by simp [spec_l1Cur_words.j1])
     | succ kj10 =>
      have H := HA.out; clear HA
      simp only [spec_l1Cur_words.j1] at H
      by_cases c18 : x23_10 = true
      ·subst c18
       rw [if_pos rfl] at H
       obtain ⟨⟨t233, t234, t235⟩, A19, H⟩ := bs H
       by_cases c20 : 0 ≤ t233
       ·rw [if_pos c20] at H
        have c20b0 : decide (0 ≤ t233) = true := decide_eq_true c20
        clear c20
        by_cases c21 : t233 < (x3_1.length : Int)
        ·rw [if_pos c21] at H
         have c21b0 : decide (t233 < (x3_1.length : Int)) = true := decide_eq_true c21
         clear c21; have HC22 := Aside0.mk H; clear H
         obtain ⟨Ao23, co23, eo23⟩ := Kd.R_slice HO_3.out
         subst eo23
         go_upto_region 8 with (first | ((with_reducible refine gd 28 127 ?_); refine gc 28 Tryz.func127 #[.pointer (some ⟨g, 0, none⟩), .int .i64 (x3_1.length : Int)] (spec_l1Cur_pick.calls g s0_0 x1001_10 x1002_10 (x3_1.length : Int) t233 t234 t235 w0 _ ax27 ax28 A19.out) ?_; rintro e w24 ⟨rfl, hi, hb, hk⟩; refine ⟨_, rfl, ?_⟩; replace HO_3 := Aside0.mk (Kd.R_mono (Kd.R_keep (IsS82.apart (show IsS82 w0 _ g s0_0 x1001_10 x1002_10 from by repeat (first | (with_reducible first | exact HI0.out | apply IsS82.alloc | apply IsS82.drewN | apply IsS82.drew | apply IsS82.set_1 | apply IsS82.set_2) | exact HI0.out)) ax91 (by decide)) hk (fun _ h => h.2)) (fun _ h => h.1)); replace HK := Aside0.mk (KeepBut.trans ax29 hk (.inl rfl)); replace HB := Aside0.mk (hb); replace HI0 := Aside0.mk (hi); (try clear hb); (try clear hb2); (try clear hk); (try clear hi); have p236 : 0 ≤ (t233 : Int) := of_decide_eq_true ax25; have q236 : t233 < (x3_1.length : Int) := of_decide_eq_true ax25; obtain ⟨ad236, e236, hx236_0⟩ := Kd.at_string (Kd.R_reads' HO_3.out).2.2 t233 p236 q236; cases e236; replace p236 := eq_true p236; replace q236 := eq_true q236))
         (try simp only [Act.put, List.setIfInBounds_toArray, List.set_cons_zero, List.set_cons_succ])
         go_cut [37] (fun v37 wc => ∃ (kq : Nat) (x37_21 : Bool) (x1001_21 : Int) (x1002_21 : Int), v37 = .bool x37_21 ∧ Aside0 (spec_l1Cur_words.j2 kq x3_1 x4_1 (rdOf ByteArray.empty x3_1 t233) x37_21 s0_0 x1001_21 x1002_21 = some (r1, r2, r3)) ∧ Aside0 (kq ≤ kj10) ∧ Aside0 (Kd.R Kd.string 9 wc w.heap.size (fun _ => True) (.slice (some ad236) x3_1.length co23) x3_1) ∧ Aside0 (IsS82 w0 wc g s0_0 x1001_21 x1002_21) ∧ Aside0 (KeepBut w wc g none) ∧ Aside0 (Below w0.heap.size w0 wc))
         case first =>
          have H := HC22.out; clear HC22
          obtain ⟨⟨t237, t238, t239⟩, A25, H⟩ := bs H
          by_cases c26 : t237 = true
          ·subst c26
           rw [if_pos rfl] at H
           have H' := Aside0.mk H
           clear H
           go_wp2_with (first | ((with_reducible refine gd 32 122 ?_); refine gc 32 Tryz.func122 #[.pointer (some ⟨g, 0, none⟩), .int .i64 2] (spec_l1Cur_one.calls g s0_0 t234 t235 2 true t238 t239 w0 _ ax27 ax28 A25.out) ?_; rintro e w27 ⟨rfl, hi, hb, hk⟩; refine ⟨_, rfl, ?_⟩; replace HO_3 := Aside0.mk (Kd.R_mono (Kd.R_keep (IsS82.apart (show IsS82 w0 _ g s0_0 t234 t235 from by repeat (first | (with_reducible first | exact HI0.out | apply IsS82.alloc | apply IsS82.drewN | apply IsS82.drew | apply IsS82.set_1 | apply IsS82.set_2) | exact HI0.out)) ax91 (by decide)) hk (fun _ h => h.2)) (fun _ h => h.1)); replace HK := Aside0.mk (KeepBut.trans ax29 hk (.inl rfl)); replace HB := Aside0.mk (hb); replace HI0 := Aside0.mk (hi); (try clear hb); (try clear hb2); (try clear hk); (try clear hi)))
           go_meet
           case rel => exact ⟨_, (decide (((rdOf ByteArray.empty x3_1 t233).size : Int) < 12)), (t238), (t239), ax30, H', ⟨ax92⟩, ⟨ax91⟩, ⟨ax27⟩, ⟨ax29⟩, ⟨ax28⟩⟩
          ·replace c26 := Bool.eq_false_iff.mpr c26
           subst c26
           rw [if_neg (show ¬ (false = true) by decide)] at H
           have H' := Aside0.mk H
           clear H
           go_wp2_with (first | ((with_reducible refine gd 32 122 ?_); refine gc 32 Tryz.func122 #[.pointer (some ⟨g, 0, none⟩), .int .i64 2] (spec_l1Cur_one.calls g s0_0 t234 t235 2 false t238 t239 w0 _ ax27 ax28 A25.out) ?_; rintro e w28 ⟨rfl, hi, hb, hk⟩; refine ⟨_, rfl, ?_⟩; replace HO_3 := Aside0.mk (Kd.R_mono (Kd.R_keep (IsS82.apart (show IsS82 w0 _ g s0_0 t234 t235 from by repeat (first | (with_reducible first | exact HI0.out | apply IsS82.alloc | apply IsS82.drewN | apply IsS82.drew | apply IsS82.set_1 | apply IsS82.set_2) | exact HI0.out)) ax91 (by decide)) hk (fun _ h => h.2)) (fun _ h => h.1)); replace HK := Aside0.mk (KeepBut.trans ax29 hk (.inl rfl)); replace HB := Aside0.mk (hb); replace HI0 := Aside0.mk (hi); (try clear hb); (try clear hb2); (try clear hk); (try clear hi)))
           go_meet
           case rel => exact ⟨_, (false), (t238), (t239), ax30, H', ⟨ax92⟩, ⟨ax91⟩, ⟨ax27⟩, ⟨ax29⟩, ⟨ax28⟩⟩
         case rest =>
          clear HC22
          (try clear p236);(try clear q236);(try clear hx236_0);(try clear c21);(try clear c21b0);(try clear c20);(try clear c20b0);(try clear c18)
          obtain ⟨kq, x37_21, x1001_21, x1002_21, rfl, HA, HJ21, HO_3, HI0, HK, HB⟩ := hcut
          cases kq with
          | zero => exact absurd HA.out (by simp [spec_l1Cur_words.j2])
          | succ kj21 =>
           have H := HA.out; clear HA
           simp only [spec_l1Cur_words.j2] at H
           by_cases c29 : x37_21 = true
           ·subst c29
            rw [if_pos rfl] at H
            obtain ⟨y240, hy240⟩ : ∃ y_ : List ByteArray, y_ = (([(⟨#[97]⟩ : ByteArray), (⟨#[98]⟩ : ByteArray), (⟨#[99]⟩ : ByteArray)] : List ByteArray)) := ⟨_, rfl⟩
            replace H : ((spec_l1Cur_of.f s0_0 x1001_21 x1002_21 y240).bind fun bt243 => (if (rdOf ByteArray.empty x3_1 t233).size + bt243.1.size ≤ 9223372036854775807 then (if x3_1.length < 8796093022208 then (spec_l1Cur_words.l0 kj21 (x3_1 ++ [(rdOf ByteArray.empty x3_1 t233) ++ bt243.1]) (wrap64 (x4_1 - 1)) s0_0 bt243.2.1 bt243.2.2) else (none)) else (none))) = some (r1, r2, r3) := by first | (rw [hy240]; with_reducible exact H) | (have H2_ := (Option.bind_some _ _).symm.trans H; rw [hy240]; with_reducible exact H2_) | (have H2_ := (Option.bind_some _ _).symm.trans H; with_reducible exact H2_) | with_reducible exact H | (rw [hy240]; exact H) | exact H
            have Ny240 := Aside0.mk hy240; clear hy240
            obtain ⟨⟨t243, t244, t245⟩, A30, H⟩ := bs H
            by_cases c31 : (rdOf ByteArray.empty x3_1 t233).size + t243.size ≤ 9223372036854775807
            ·rw [if_pos c31] at H
             have c31b0 := eq_true c31
             have c31b1 : decide ((rdOf ByteArray.empty x3_1 t233).size + t243.size ≤ 9223372036854775807) = true := decide_eq_true c31
             try have c31b2 : (9223372036854775807 < (rdOf ByteArray.empty x3_1 t233).size + t243.size) = False := eq_false (Nat.not_lt.2 c31)
             clear c31
             obtain ⟨js32, hjs32⟩ : ∃ j_ : ByteArray, ((rdOf ByteArray.empty x3_1 t233) ++ t243) = j_ := ⟨_, rfl⟩
             replace H : (if x3_1.length < 8796093022208 then (spec_l1Cur_words.l0 kj21 (x3_1 ++ [js32]) (wrap64 (x4_1 - 1)) s0_0 t244 t245) else (none)) = some (r1, r2, r3) := by first | (rw [hjs32] at H; exact H) | (simp only [hjs32] at H ⊢; exact H)
             by_cases c33 : x3_1.length < 8796093022208
             ·rw [if_pos c33] at H
              have LMc33 := Aside0.mk c33; clear c33
              obtain ⟨y246, hy246⟩ : ∃ y_ : List ByteArray, y_ = (x3_1 ++ [js32]) := ⟨_, rfl⟩
              replace H : (spec_l1Cur_words.l0 kj21 y246 (wrap64 (x4_1 - 1)) s0_0 t244 t245) = some (r1, r2, r3) := by first | (rw [hy246]; with_reducible exact H) | (have H2_ := (Option.bind_some _ _).symm.trans H; rw [hy246]; with_reducible exact H2_) | (have H2_ := (Option.bind_some _ _).symm.trans H; with_reducible exact H2_) | with_reducible exact H | (rw [hy246]; exact H) | exact H
              have Ny246 := Aside0.mk hy246; clear hy246
              have H' := Aside0.mk H
              clear H
              go_wp2_with (first | ((with_reducible refine gate_dst (N := 40) rfl ?_); (try (refine gate_guard (by rfl) ?_; dsimp only)); refine Kd.R_lit Kd.string _ 9 ?hg (N := 40) ?hd (xs := ([(⟨#[97]⟩ : ByteArray), (⟨#[98]⟩ : ByteArray), (⟨#[99]⟩ : ByteArray)] : List ByteArray)) (inner := [.string (⟨#[97]⟩ : ByteArray), .string (⟨#[98]⟩ : ByteArray), .string (⟨#[99]⟩ : ByteArray)]) (ok := fun _ => True) (okp := fun _ => True) ?hr ?hp (fun _ hk => hk) trivial (Below.refl _ _) (Nat.le_refl _) (by simp) ?_; (case hd => rfl); (case hg => rfl); (case hr => exact ax31); (case hp => exact ax93); intro v241 w34 ho35 hb hg_ hnew_; clear hg_ hnew_; (first | rw [← Ny240.out] at ho35 | (simp only [Int.reduceToNat] at ho35; rw [← Ny240.out] at ho35)); have HO242 := Aside0.mk (Kd.R_lower (Kd.R_new' ho35 (Kd.R_lt ax91)) (keep_size (w := w) (g := g) (row := none) ax29)); replace HO_3 := Aside0.mk (Kd.R_elder' ax91 (Kd.R_base ho35) hb); replace HK := Aside0.mk (KeepBut.trans ax29 (KeepBut.of_below hb g none) (.inl rfl)); replace HB := Aside0.mk (below_step ax28 hb); replace HI0 := Aside0.mk (IsS82.below ax27 hb); clear hb ho35; obtain ⟨Ao36, co36, eo36⟩ := Kd.R_slice HO242.out; subst eo36) | ((with_reducible refine gd 41 121 ?_); refine gc 41 Tryz.func121 #[.pointer (some ⟨g, 0, none⟩), .slice Ao36 y240.length co36] (spec_l1Cur_of.calls g s0_0 x1001_21 x1002_21 _ _ y240 t243 t244 t245 w0 _ ax27 ax28 (by repeat (first | exact (Kd.R_reads' HO242.out).2.2 | (with_reducible refine Kd.C_alloc ?_ _) | (with_reducible refine Kd.C_drewN ?_ _) | (with_reducible refine Kd.C_drew ?_))) ((Kd.R_reads' HO242.out).2.1) (far_slice (IsS82.own_ne HI0.out HO242.out (by decide))) A30.out) ?_; rintro e w37 ⟨rfl, hi, hb, hk⟩; refine ⟨_, rfl, ?_⟩; replace HO_3 := Aside0.mk (Kd.R_mono (Kd.R_keep (IsS82.apart (show IsS82 w0 _ g s0_0 x1001_21 x1002_21 from by repeat (first | (with_reducible first | exact HI0.out | apply IsS82.alloc | apply IsS82.drewN | apply IsS82.drew | apply IsS82.set_1 | apply IsS82.set_2) | exact HI0.out)) ax91 (by decide)) hk (fun _ h => h.2)) (fun _ h => h.1)); replace HO242 := Aside0.mk (Kd.R_mono (Kd.R_keep (IsS82.apart (show IsS82 w0 _ g s0_0 x1001_21 x1002_21 from by repeat (first | (with_reducible first | exact HI0.out | apply IsS82.alloc | apply IsS82.drewN | apply IsS82.drew | apply IsS82.set_1 | apply IsS82.set_2) | exact HI0.out)) ax94 (by decide)) hk (fun _ h => h.2)) (fun _ h => h.1)); replace HK := Aside0.mk (KeepBut.trans ax29 hk (.inl rfl)); replace HB := Aside0.mk (hb); replace HI0 := Aside0.mk (hi); (try clear hb); (try clear hb2); (try clear hk); (try clear hi)) | ((with_reducible refine gate_builtin (b := .append) (xs := #[.tmp 51, .tmp 53]) rfl ?_); (try (refine gate_guard (by rfl) ?_; dsimp only)); at_builtin; refine Kd.R_append Kd.string w.heap.size rfl (.tmp 51) (.tmp 53) 31 9 (.string ⟨#[]⟩) 16 rfl Tryz.underlying31 info9 rfl (by decide) (by omega) (.slice (some ad236) x3_1.length co23) x3_1 js32 [.string js32] (fun k_ => some k_ ≠ (.slice Ao36 y240.length co36 : Value).ownBlock) (fun _ => False) rfl rfl ?aP (fun _ hk => hk.elim) ?aF ?aO (Below.refl _ _) ?aS ?aL ?_; (case aP => exact rfl); (case aF => exact (fun k_ hk => Kd.fresh' (Kd.R_lt ax94) k_ hk)); (case aO => exact ax95); (case aS => exact ax96); (case aL => have := LMc33.out; omega); intro v247 w38 ho hb hg hat; rw [← Ny246.out] at ho; have n0_ := Aside0.mk (IsS82.grown ax27 hg (IsS82.own_ne HI0.out HO_3.out (by decide))); have n1_ := Aside0.mk (Kd.R_after (ok := (fun _ => True)) ax94 hg hat); have n2_ := Aside0.mk (below_weaken ax28 HL.out hb); have n3_ := Aside0.mk (KeepBut.trans ax29 (KeepBut.of_grown hg g) (Kd.R_base2 HO_3.out)); have n4_ := Aside0.mk (ho); clear HI0; clear HO242; clear HB; clear HK; clear HO_3; have HI0 := n0_; have HO242 := n1_; have HB := n2_; have HK := n3_; have HO248 := n4_; clear n0_ n1_ n2_ n3_ n4_; clear ho hb hg hat))
              go_roundg kj21
              case measure => have := HK1.out; have := HJ10.out; have := HJ21.out; omega
              case rel => exact ⟨(y246), (wrap64 (x4_1 - 1)), (t244), (t245), ax30, H', ⟨ax97⟩, ⟨(by (with_reducible repeat (first | apply Kd.R_alloc | apply Kd.R_drewN | apply Kd.R_drew)); exact Kd.R_mono HO248.out (fun _ hk => trivial))⟩, ⟨ax27⟩, ⟨ax29⟩, ⟨ax28⟩⟩
             ·exact ax10
            ·exact ax8
           ·replace c29 := Bool.eq_false_iff.mpr c29
            subst c29
            rw [if_neg (show ¬ (false = true) by decide)] at H
            by_cases c39 : ((rdOf ByteArray.empty x3_1 t233).size : Int) > 0
            ·rw [if_pos c39] at H
             have c39b0 : decide (0 < ((rdOf ByteArray.empty x3_1 t233).size : Int)) = true := decide_eq_true c39
             have c39b1 : decide (0 < (rdOf ByteArray.empty x3_1 t233).size) = true := decide_eq_true (by omega)
             clear c39
             obtain ⟨ji40, hji40⟩ : ∃ j_ : Int, (wrap64 (((rdOf ByteArray.empty x3_1 t233).size : Int) - 1)) = j_ := ⟨_, rfl⟩
             replace H : (if 0 ≤ (ji40) then (if (ji40) ≤ ((rdOf ByteArray.empty x3_1 t233).size : Int) then (if x3_1.length < 8796093022208 then (spec_l1Cur_words.l0 kj21 (x3_1 ++ [(rdOf ByteArray.empty x3_1 t233).extract 0 ((ji40) : Int).toNat]) (wrap64 (x4_1 - 1)) s0_0 x1001_21 x1002_21) else (none)) else (none)) else (none)) = some (r1, r2, r3) := by first | (rw [hji40] at H; exact H) | (simp only [hji40] at H ⊢; exact H)
             have hji40w : (IntKind.i64.wrap (((rdOf ByteArray.empty x3_1 t233).size : Int) - 1)) = ji40 := (i64_w _).trans hji40
             by_cases c41 : 0 ≤ (ji40)
             ·rw [if_pos c41] at H
              have c41b0 := eq_true c41
              have c41b1 : decide (0 ≤ (ji40)) = true := decide_eq_true c41
              clear c41
              by_cases c42 : (ji40) ≤ ((rdOf ByteArray.empty x3_1 t233).size : Int)
              ·rw [if_pos c42] at H
               have c42b0 := eq_true c42
               have c42b1 : decide ((ji40) ≤ ((rdOf ByteArray.empty x3_1 t233).size : Int)) = true := decide_eq_true c42
               clear c42
               obtain ⟨js43, hjs43⟩ : ∃ j_ : ByteArray, ((rdOf ByteArray.empty x3_1 t233).extract 0 ((ji40) : Int).toNat) = j_ := ⟨_, rfl⟩
               replace H : (if x3_1.length < 8796093022208 then (spec_l1Cur_words.l0 kj21 (x3_1 ++ [js43]) (wrap64 (x4_1 - 1)) s0_0 x1001_21 x1002_21) else (none)) = some (r1, r2, r3) := by first | (rw [hjs43] at H; exact H) | (simp only [hjs43] at H ⊢; exact H)
               by_cases c44 : x3_1.length < 8796093022208
               ·rw [if_pos c44] at H
                have LMc44 := Aside0.mk c44; clear c44
                obtain ⟨y249, hy249⟩ : ∃ y_ : List ByteArray, y_ = (x3_1 ++ [js43]) := ⟨_, rfl⟩
                replace H : (spec_l1Cur_words.l0 kj21 y249 (wrap64 (x4_1 - 1)) s0_0 x1001_21 x1002_21) = some (r1, r2, r3) := by first | (rw [hy249]; with_reducible exact H) | (have H2_ := (Option.bind_some _ _).symm.trans H; rw [hy249]; with_reducible exact H2_) | (have H2_ := (Option.bind_some _ _).symm.trans H; with_reducible exact H2_) | with_reducible exact H | (rw [hy249]; exact H) | exact H
                have Ny249 := Aside0.mk hy249; clear hy249
                have H' := Aside0.mk H
                clear H
                go_wp2_with (first | ((with_reducible refine gate_builtin (b := .append) (xs := #[.tmp 51, .tmp 53]) rfl ?_); (try (refine gate_guard (by rfl) ?_; dsimp only)); at_builtin; refine Kd.R_append Kd.string w.heap.size rfl (.tmp 51) (.tmp 53) 31 9 (.string ⟨#[]⟩) 16 rfl Tryz.underlying31 info9 rfl (by decide) (by omega) (.slice (some ad236) x3_1.length co23) x3_1 js43 [.string js43] (fun _ => True) (fun _ => False) rfl rfl ?aP (fun _ hk => hk.elim) ?aF ?aO (Below.refl _ _) ?aS ?aL ?_; (case aP => exact rfl); (case aF => exact ax35); (case aO => exact ax98); (case aS => exact ax96); (case aL => have := LMc44.out; omega); intro v250 w45 ho hb hg hat; rw [← Ny249.out] at ho; have n0_ := Aside0.mk (IsS82.grown ax27 hg (IsS82.own_ne HI0.out HO_3.out (by decide))); have n1_ := Aside0.mk (below_weaken ax28 HL.out hb); have n2_ := Aside0.mk (KeepBut.trans ax29 (KeepBut.of_grown hg g) (Kd.R_base2 HO_3.out)); have n3_ := Aside0.mk (ho); clear HI0; clear HB; clear HK; clear HO_3; have HI0 := n0_; have HB := n1_; have HK := n2_; have HO251 := n3_; clear n0_ n1_ n2_ n3_; clear ho hb hg hat))
                go_roundg kj21
                case measure => have := HK1.out; have := HJ10.out; have := HJ21.out; omega
                case rel => exact ⟨(y249), (wrap64 (x4_1 - 1)), (x1001_21), (x1002_21), ax30, H', ⟨ax97⟩, ⟨(by (with_reducible repeat (first | apply Kd.R_alloc | apply Kd.R_drewN | apply Kd.R_drew)); exact HO251.out)⟩, ⟨ax27⟩, ⟨ax29⟩, ⟨ax28⟩⟩
               ·rw [if_neg c44] at H
                exact absurd H (by simp)
              ·rw [if_neg c42] at H
               exact absurd H (by simp)
             ·rw [if_neg c41] at H
              exact absurd H (by simp)
            ·rw [if_neg c39] at H
             have c39b0 : decide (0 < ((rdOf ByteArray.empty x3_1 t233).size : Int)) = false := decide_eq_false c39
             have c39b1 : decide (0 < (rdOf ByteArray.empty x3_1 t233).size) = false := decide_eq_false (by omega)
             clear c39
             by_cases c46 : x3_1.length < 8796093022208
             ·rw [if_pos c46] at H
              have LMc46 := Aside0.mk c46; clear c46
              obtain ⟨y252, hy252⟩ : ∃ y_ : List ByteArray, y_ = (x3_1 ++ [(rdOf ByteArray.empty x3_1 t233)]) := ⟨_, rfl⟩
              replace H : (spec_l1Cur_words.l0 kj21 y252 (wrap64 (x4_1 - 1)) s0_0 x1001_21 x1002_21) = some (r1, r2, r3) := by first | (rw [hy252]; with_reducible exact H) | (have H2_ := (Option.bind_some _ _).symm.trans H; rw [hy252]; with_reducible exact H2_) | (have H2_ := (Option.bind_some _ _).symm.trans H; with_reducible exact H2_) | with_reducible exact H | (rw [hy252]; exact H) | exact H
              have Ny252 := Aside0.mk hy252; clear hy252
              have H' := Aside0.mk H
              clear H
              go_wp2_with (first | ((with_reducible refine gate_builtin (b := .append) (xs := #[.tmp 51, .tmp 53]) rfl ?_); (try (refine gate_guard (by rfl) ?_; dsimp only)); at_builtin; refine Kd.R_append Kd.string w.heap.size rfl (.tmp 51) (.tmp 53) 31 9 (.string ⟨#[]⟩) 16 rfl Tryz.underlying31 info9 rfl (by decide) (by omega) (.slice (some ad236) x3_1.length co23) x3_1 (rdOf ByteArray.empty x3_1 t233) [.string (rdOf ByteArray.empty x3_1 t233)] (fun _ => True) (fun _ => False) rfl rfl ?aP (fun _ hk => hk.elim) ?aF ?aO (Below.refl _ _) ?aS ?aL ?_; (case aP => exact rfl); (case aF => exact ax35); (case aO => exact ax98); (case aS => exact ax96); (case aL => have := LMc46.out; omega); intro v253 w47 ho hb hg hat; rw [← Ny252.out] at ho; have n0_ := Aside0.mk (IsS82.grown ax27 hg (IsS82.own_ne HI0.out HO_3.out (by decide))); have n1_ := Aside0.mk (below_weaken ax28 HL.out hb); have n2_ := Aside0.mk (KeepBut.trans ax29 (KeepBut.of_grown hg g) (Kd.R_base2 HO_3.out)); have n3_ := Aside0.mk (ho); clear HI0; clear HB; clear HK; clear HO_3; have HI0 := n0_; have HB := n1_; have HK := n2_; have HO254 := n3_; clear n0_ n1_ n2_ n3_; clear ho hb hg hat))
              go_roundg kj21
              case measure => have := HK1.out; have := HJ10.out; have := HJ21.out; omega
              case rel => exact ⟨(y252), (wrap64 (x4_1 - 1)), (x1001_21), (x1002_21), ax30, H', ⟨ax97⟩, ⟨(by (with_reducible repeat (first | apply Kd.R_alloc | apply Kd.R_drewN | apply Kd.R_drew)); exact HO254.out)⟩, ⟨ax27⟩, ⟨ax29⟩, ⟨ax28⟩⟩
             ·rw [if_neg c46] at H
              exact absurd H (by simp)
        ·rw [if_neg c21] at H
         exact absurd H (by simp)
       ·rw [if_neg c20] at H
        exact absurd H (by simp)
      ·replace c18 := Bool.eq_false_iff.mpr c18
       subst c18
       rw [if_neg (show ¬ (false = true) by decide)] at H
       by_cases c48 : x3_1.length < 8796093022208
       ·rw [if_pos c48] at H
        have LMc48 := Aside0.mk c48; clear c48
        obtain ⟨y255, hy255⟩ : ∃ y_ : List ByteArray, y_ = (x3_1 ++ [t227]) := ⟨_, rfl⟩
        replace H : (spec_l1Cur_words.l0 kj10 y255 (wrap64 (x4_1 - 1)) s0_0 x1001_10 x1002_10) = some (r1, r2, r3) := by first | (rw [hy255]; with_reducible exact H) | (have H2_ := (Option.bind_some _ _).symm.trans H; rw [hy255]; with_reducible exact H2_) | (have H2_ := (Option.bind_some _ _).symm.trans H; with_reducible exact H2_) | with_reducible exact H | (rw [hy255]; exact H) | exact H
        have Ny255 := Aside0.mk hy255; clear hy255
        have H' := Aside0.mk H
        clear H
        go_wp2_with (first | ((with_reducible refine gate_builtin (b := .append) (xs := #[.tmp 51, .tmp 53]) rfl ?_); (try (refine gate_guard (by rfl) ?_; dsimp only)); at_builtin; refine Kd.R_append Kd.string w.heap.size rfl (.tmp 51) (.tmp 53) 31 9 (.string ⟨#[]⟩) 16 rfl Tryz.underlying31 info9 rfl (by decide) (by omega) u3 x3_1 t227 [.string t227] (fun _ => True) (fun _ => False) rfl rfl ?aP (fun _ hk => hk.elim) ?aF ?aO (Below.refl _ _) ?aS ?aL ?_; (case aP => exact rfl); (case aF => exact ax35); (case aO => exact ax98); (case aS => exact ax96); (case aL => have := LMc48.out; omega); intro v256 w49 ho hb hg hat; rw [← Ny255.out] at ho; have n0_ := Aside0.mk (IsS82.grown ax27 hg (IsS82.own_ne HI0.out HO_3.out (by decide))); have n1_ := Aside0.mk (below_weaken ax28 HL.out hb); have n2_ := Aside0.mk (KeepBut.trans ax29 (KeepBut.of_grown hg g) (Kd.R_base2 HO_3.out)); have n3_ := Aside0.mk (ho); clear HI0; clear HB; clear HK; clear HO_3; have HI0 := n0_; have HB := n1_; have HK := n2_; have HO257 := n3_; clear n0_ n1_ n2_ n3_; clear ho hb hg hat))
        go_roundg kj10
        case measure => have := HK1.out; have := HJ10.out; omega
        case rel => exact ⟨(y255), (wrap64 (x4_1 - 1)), (x1001_10), (x1002_10), ax30, H', ⟨(by have := HK1.out; have := HJ10.out; omega)⟩, ⟨(by (with_reducible repeat (first | apply Kd.R_alloc | apply Kd.R_drewN | apply Kd.R_drew)); exact HO257.out)⟩, ⟨ax27⟩, ⟨ax29⟩, ⟨ax28⟩⟩
       ·rw [if_neg c48] at H
        exact absurd H (by simp)
   ·rw [if_neg c9] at H
    have c9b0 : decide (0 < x4_1) = false := decide_eq_false c9
    clear c9
    obtain ⟨⟨t258, t259, t260⟩, A50, H⟩ := bs H
    by_cases c51 : t258 = true
    ·subst c51
     rw [if_pos rfl] at H
     have H' := Aside0.mk H
     clear H
     go_wp2_with (first | ((with_reducible refine gd 56 122 ?_); refine gc 56 Tryz.func122 #[.pointer (some ⟨g, 0, none⟩), .int .i64 40] (spec_l1Cur_one.calls g s0_0 x1001_1 x1002_1 40 true t259 t260 w0 _ ax27 ax28 A50.out) ?_; rintro e w52 ⟨rfl, hi, hb, hk⟩; refine ⟨_, rfl, ?_⟩; replace HO_3 := Aside0.mk (Kd.R_mono (Kd.R_keep (IsS82.apart (show IsS82 w0 _ g s0_0 x1001_1 x1002_1 from by repeat (first | (with_reducible first | exact HI0.out | apply IsS82.alloc | apply IsS82.drewN | apply IsS82.drew | apply IsS82.set_1 | apply IsS82.set_2) | exact HI0.out)) ax91 (by decide)) hk (fun _ h => h.2)) (fun _ h => h.1)); replace HK := Aside0.mk (KeepBut.trans ax29 hk (.inl rfl)); replace HB := Aside0.mk (hb); replace HI0 := Aside0.mk (hi); (try clear hb); (try clear hb2); (try clear hk); (try clear hi)))
     go_loopg [3, 6] k1 (fun kq v3 v6 w' => ∃ (x3_2 : List ByteArray) (x6_2 : Int), v6 = .int .i64 x6_2 ∧ Aside0 (spec_l1Cur_words.l1 kq x3_2 x6_2 s0_0 t259 t260 = some (r1, r2, r3)) ∧ Aside0 (kq ≤ k1) ∧ Aside0 (Kd.R Kd.string 9 w' w.heap.size (fun _ => True) v3 x3_2) ∧ Aside0 (IsS82 w0 w' g s0_0 t259 t260) ∧ Aside0 (KeepBut w w' g none) ∧ Aside0 (Below w0.heap.size w0 w'))
     case atStart => exact ⟨(x3_1), (0), ax30, H', ⟨Nat.le_refl _⟩, ⟨ax91⟩, ⟨ax27⟩, ⟨ax29⟩, ⟨ax28⟩⟩
     case round =>
      clear H'
      (try clear c51);(try clear c9);(try clear c9b0)
      obtain ⟨x3_2, x6_2, rfl, HA, HK2, HO_3, HI0, HK, HB⟩ := hrel
      cases gk with
      | zero => exact absurd HA.out (by simp [spec_l1Cur_words.l1])
      | succ k2 =>
       have H := HA.out; clear HA
       simp only [spec_l1Cur_words.l1] at H
       by_cases c53 : x6_2 < 41
       ·rw [if_pos c53] at H
        have c53b0 : decide (x6_2 < 41) = true := decide_eq_true c53
        clear c53
        obtain ⟨y261, hy261⟩ : ∃ y_ : List Int, y_ = (([(wrap64 (97 + (Int.tmod x6_2 26))) % 256, (wrap64 (97 + (wrap64 (Int.tdiv x6_2 26)))) % 256] : List Int)) := ⟨_, rfl⟩
        replace H : (if x3_2.length < 8796093022208 then (spec_l1Cur_words.l1 k2 (x3_2 ++ [strOfNums y261]) (wrap64 (x6_2 + 1)) s0_0 t259 t260) else (none)) = some (r1, r2, r3) := by first | (rw [hy261]; with_reducible exact H) | (have H2_ := (Option.bind_some _ _).symm.trans H; rw [hy261]; with_reducible exact H2_) | (have H2_ := (Option.bind_some _ _).symm.trans H; with_reducible exact H2_) | with_reducible exact H | (rw [hy261]; exact H) | exact H
        have Ny261 := Aside0.mk hy261; clear hy261
        by_cases c54 : x3_2.length < 8796093022208
        ·rw [if_pos c54] at H
         have LMc54 := Aside0.mk c54; clear c54
         obtain ⟨y264, hy264⟩ : ∃ y_ : List ByteArray, y_ = (x3_2 ++ [strOfNums y261]) := ⟨_, rfl⟩
         replace H : (spec_l1Cur_words.l1 k2 y264 (wrap64 (x6_2 + 1)) s0_0 t259 t260) = some (r1, r2, r3) := by first | (rw [hy264]; with_reducible exact H) | (have H2_ := (Option.bind_some _ _).symm.trans H; rw [hy264]; with_reducible exact H2_) | (have H2_ := (Option.bind_some _ _).symm.trans H; with_reducible exact H2_) | with_reducible exact H | (rw [hy264]; exact H) | exact H
         have Ny264 := Aside0.mk hy264; clear hy264
         have H' := Aside0.mk H
         clear H
         go_wp2_with (first | ((with_reducible refine gate_dst (N := 70) rfl ?_); (try (refine gate_guard (by rfl) ?_; dsimp only)); refine Kd.R_lit (Kd.int .u8) _ 5 ?hg (N := 70) ?hd (xs := ([(wrap64 (97 + (Int.tmod x6_2 26))) % 256, (wrap64 (97 + (wrap64 (Int.tdiv x6_2 26)))) % 256] : List Int)) (inner := [.int .u8 ((wrap64 (97 + (Int.tmod x6_2 26))) % 256), .int .u8 ((wrap64 (97 + (wrap64 (Int.tdiv x6_2 26)))) % 256)]) (ok := fun _ => True) (okp := fun _ => True) ?hr ?hp (fun _ hk => hk) trivial (Below.refl _ _) (Nat.le_refl _) (by simp) ?_; (case hd => rfl); (case hg => rfl); (case hr => exact ax31); (case hp => exact (Reps.one (show Kd.M (Kd.int .u8) _ _ _ ((wrap64 (97 + (Int.tmod x6_2 26))) % 256) [.int .u8 ((wrap64 (97 + (Int.tmod x6_2 26))) % 256)] from rfl) (Reps.one (show Kd.M (Kd.int .u8) _ _ _ ((wrap64 (97 + (wrap64 (Int.tdiv x6_2 26)))) % 256) [.int .u8 ((wrap64 (97 + (wrap64 (Int.tdiv x6_2 26)))) % 256)] from rfl) (Reps.none _ _)))); intro v262 w55 ho56 hb hg_ hnew_; clear hg_ hnew_; (first | rw [← Ny261.out] at ho56 | (simp only [Int.reduceToNat] at ho56; rw [← Ny261.out] at ho56)); replace HO_3 := uR HO_3 hb; have HO263 := Aside0.mk (Kd.R_lower ho56 (keep_size (w := w) (g := g) (row := none) ax29)); replace HK := Aside0.mk (KeepBut.trans ax29 (KeepBut.of_below hb g none) (.inl rfl)); replace HB := Aside0.mk (below_step ax28 hb); replace HI0 := Aside0.mk (IsS82.below ax27 hb); clear hb ho56; have hcv57 := own_string (P := Tryz.prog) Tryz.underlying22 Tryz.underlying5 Tryz.underlying9 (Kd.own_of_R HO263.out)) | ((with_reducible refine gate_builtin (b := .append) (xs := #[.tmp 61, .tmp 72]) rfl ?_); (try (refine gate_guard (by rfl) ?_; dsimp only)); at_builtin; refine Kd.R_append Kd.string w.heap.size rfl (.tmp 61) (.tmp 72) 31 9 (.string ⟨#[]⟩) 16 rfl Tryz.underlying31 info9 rfl (by decide) (by omega) u3 x3_2 (strOfNums y261) [.string (strOfNums y261)] (fun _ => True) (fun _ => False) rfl rfl ?aP (fun _ hk => hk.elim) ?aF ?aO (Below.refl _ _) ?aS ?aL ?_; (case aP => exact rfl); (case aF => exact ax35); (case aO => exact ax98); (case aS => exact ax96); (case aL => have := LMc54.out; omega); intro v265 w58 ho hb hg hat; rw [← Ny264.out] at ho; have n0_ := Aside0.mk (IsS82.grown ax27 hg (IsS82.own_ne HI0.out HO_3.out (by decide))); have n1_ := Aside0.mk (Kd.R_over' (by (with_reducible repeat (first | apply Kd.R_alloc | apply Kd.R_drewN | apply Kd.R_drew)); exact HO263.out) (Kd.R_typed ax91) (by decide) hg); have n2_ := Aside0.mk (below_weaken ax28 HL.out hb); have n3_ := Aside0.mk (KeepBut.trans ax29 (KeepBut.of_grown hg g) (Kd.R_base2 HO_3.out)); have n4_ := Aside0.mk (ho); clear HI0; clear HO263; clear HB; clear HK; clear HO_3; have HI0 := n0_; have HO263 := n1_; have HB := n2_; have HK := n3_; have HO266 := n4_; clear n0_ n1_ n2_ n3_ n4_; clear ho hb hg hat))
         go_roundg k2
         case measure => have := HK1.out; have := HK2.out; omega
         case rel => exact ⟨(y264), (wrap64 (x6_2 + 1)), ax30, H', ⟨ax66⟩, ⟨(by (with_reducible repeat (first | apply Kd.R_alloc | apply Kd.R_drewN | apply Kd.R_drew)); exact HO266.out)⟩, ⟨ax27⟩, ⟨ax29⟩, ⟨ax28⟩⟩
        ·rw [if_neg c54] at H
         exact absurd H (by simp)
       ·rw [if_neg c53] at H
        have c53b0 : decide (x6_2 < 41) = false := decide_eq_false c53
        clear c53
        simp only [Option.some.injEq, Prod.mk.injEq] at H
        obtain ⟨rfl, rfl, rfl⟩ := H
        go_wp2
        go_ret
        exact ⟨_, by first | rfl | (simp [errW_none, errW_some] <;> rfl) | (simp [*, errW_none, errW_some] <;> rfl), by (with_reducible repeat (first | apply Kd.R_alloc | apply Kd.R_drewN | apply Kd.R_drew)); exact HO_3.out, by repeat (first | (with_reducible first | exact HI0.out | apply IsS82.alloc | apply IsS82.drewN | apply IsS82.drew | apply IsS82.set_1 | apply IsS82.set_2) | exact HI0.out), by repeat (first | (with_reducible first | exact HB.out | apply below_alloc | apply pw_below_drewN | apply below_drew1 | refine below_set ?_ (IsS82.ge HI0.out)) | exact HB.out), by repeat (first | (with_reducible first | exact HK.out | apply KeepBut.set_ | apply keep_drewN | apply keep_drew | apply keep_alloc) | exact HK.out)⟩
    ·replace c51 := Bool.eq_false_iff.mpr c51
     subst c51
     rw [if_neg (show ¬ (false = true) by decide)] at H
     simp only [Option.some.injEq, Prod.mk.injEq] at H
     obtain ⟨rfl, rfl, rfl⟩ := H
     go_wp2_with (first | ((with_reducible refine gd 56 122 ?_); refine gc 56 Tryz.func122 #[.pointer (some ⟨g, 0, none⟩), .int .i64 40] (spec_l1Cur_one.calls g s0_0 x1001_1 x1002_1 40 false t259 t260 w0 _ ax27 ax28 A50.out) ?_; rintro e w59 ⟨rfl, hi, hb, hk⟩; refine ⟨_, rfl, ?_⟩; replace HO_3 := Aside0.mk (Kd.R_mono (Kd.R_keep (IsS82.apart (show IsS82 w0 _ g s0_0 x1001_1 x1002_1 from by repeat (first | (with_reducible first | exact HI0.out | apply IsS82.alloc | apply IsS82.drewN | apply IsS82.drew | apply IsS82.set_1 | apply IsS82.set_2) | exact HI0.out)) ax91 (by decide)) hk (fun _ h => h.2)) (fun _ h => h.1)); replace HK := Aside0.mk (KeepBut.trans ax29 hk (.inl rfl)); replace HB := Aside0.mk (hb); replace HI0 := Aside0.mk (hi); (try clear hb); (try clear hb2); (try clear hk); (try clear hi)))
     go_ret
     exact ⟨_, by first | rfl | (simp [errW_none, errW_some] <;> rfl) | (simp [*, errW_none, errW_some] <;> rfl), by (with_reducible repeat (first | apply Kd.R_alloc | apply Kd.R_drewN | apply Kd.R_drew)); exact HO_3.out, by repeat (first | (with_reducible first | exact HI0.out | apply IsS82.alloc | apply IsS82.drewN | apply IsS82.drew | apply IsS82.set_1 | apply IsS82.set_2) | exact HI0.out), by repeat (first | (with_reducible first | exact HB.out | apply below_alloc | apply pw_below_drewN | apply below_drew1 | refine below_set ?_ (IsS82.ge HI0.out)) | exact HB.out), by repeat (first | (with_reducible first | exact HK.out | apply KeepBut.set_ | apply keep_drewN | apply keep_drew | apply keep_alloc) | exact HK.out)⟩

end Go.Proofs.YtcplbbflfgckbaaGreatDoor.X


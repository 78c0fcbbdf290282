/- Plain: numerals, checksums, sealed texts, encoded records: the program's and the reference's. -/
import Derived.Test.YtnjjchbhbicmoaaDoorX4
import Derived.Test.YtnjjchbhbicmoaaDoorX6
import Derived.Test.YtnjjchbhbicmoaaDoorX7
import Derived.Test.YtnjjchbhbicmoaaDoorX17
import Derived.Test.YtnjjchbhbicmoaaDoorPl
import Derived.Test.YtnjjchbhbicmoaaDoorRecs
import Derived.Lib.ItoaLen
set_option linter.unusedVariables false
set_option linter.unusedSimpArgs false
namespace Go.Proofs.YtnjjchbhbicmoaaDoor.Pl
open Go.RowKit Go.Proofs.YtnjjchbhbicmoaaDoorW.PrintWords Go.Proofs.YtnjjchbhbicmoaaDoorW.PrintLast Go.Proofs.YtnjjchbhbicmoaaDoorW.PrintMore Go.Proofs.YtnjjchbhbicmoaaDoor.X

/-- A number's decimal text. -/
def numI (n : Int) : ByteArray := ⟨(Lib.itoa n).toArray⟩
theorem numI_size {n : Int} (h0 : -9223372036854775808 ≤ n) (h1 : n ≤ 9223372036854775807) : (numI n).size ≤ 21 := by
  have := Lib.itoa_length_le n h0 h1
  simpa [numI, ByteArray.size] using this
theorem bytes_append (s t : ByteArray) : bytesOf (s ++ t) = bytesOf s ++ bytesOf t := by
  unfold bytesOf
  rw [← List.map_append]
  simp
theorem mk_append (a b : List UInt8) : (⟨(a ++ b).toArray⟩ : ByteArray) = ⟨a.toArray⟩ ++ ⟨b.toArray⟩ := by
  refine bytes_inj ?_
  rw [bytes_append]
  simp [bytesOf]
theorem digit_at : ∀ i : Fin 10, (⟨#[48, 49, 50, 51, 52, 53, 54, 55, 56, 57]⟩ : ByteArray).extract i.val (i.val + 1) = ⟨[UInt8.ofNat (48 + i.val)].toArray⟩ := by
  intro i
  refine bytes_inj ?_
  rw [bytes_extract]
  revert i
  decide
theorem dec_digits : ∀ n : Nat, ∀ b ∈ Lib.decDigits n, 48 ≤ b.toNat ∧ b.toNat ≤ 57 := by
  intro n
  induction n using Nat.strongRecOn with
  | _ n ih =>
    intro b hb
    rw [Lib.decDigits] at hb
    by_cases h : n < 10
    · rw [dif_pos h] at hb
      obtain rfl := List.mem_singleton.1 hb
      simp only [UInt8.toNat_ofNat']; omega
    · rw [dif_neg h] at hb
      rcases List.mem_append.1 hb with hb | hb
      · exact ih (n / 10) (by omega) b hb
      · obtain rfl := List.mem_singleton.1 hb
        simp only [UInt8.toNat_ofNat']; omega
theorem numI_digits {n : Int} (h : 0 ≤ n) {c : Int} (hc : c ∈ bytesOf (numI n)) : 48 ≤ c ∧ c ≤ 57 := by
  obtain ⟨m, rfl⟩ : ∃ m : Nat, n = m := ⟨n.toNat, by omega⟩
  unfold numI at hc
  rw [Lib.itoa_nonneg] at hc
  unfold bytesOf at hc
  obtain ⟨b, hb, rfl⟩ := List.mem_map.1 hc
  have := dec_digits m b (by simpa using hb)
  omega
theorem numI_small {n : Nat} (h : n < 10) : numI n = (⟨#[48, 49, 50, 51, 52, 53, 54, 55, 56, 57]⟩ : ByteArray).extract n (n + 1) := by
  rw [digit_at ⟨n, h⟩]
  unfold numI
  rw [Lib.itoa_nonneg, Lib.decDigits_one h]
theorem numI_big {n : Nat} (h : ¬ n < 10) : numI n = numI (n / 10 : Nat) ++ (⟨#[48, 49, 50, 51, 52, 53, 54, 55, 56, 57]⟩ : ByteArray).extract (n % 10) (n % 10 + 1) := by
  rw [digit_at ⟨n % 10, by omega⟩]
  unfold numI
  rw [Lib.itoa_nonneg, Lib.itoa_nonneg, Lib.decDigits, dif_neg h, mk_append]
theorem l1Num_ev (n : Nat) (hn : n ≤ 9223372036854775807) : Ev (fun k => spec_l1Num.f k n) (numI n) := by
  induction n using Nat.strongRecOn with
  | _ n ih =>
    refine Ev.step (fun k => by simp only [spec_l1Num.f]; rfl) ?_
    refine ev_neg (by omega) ?_
    by_cases h : n < 10
    · have e : wrap64 ((n : Int) + 1) = ((n + 1 : Nat) : Int) := by rw [w64 (by omega) (by omega)]; omega
      rw [e]
      refine ev_pos (by omega) (ev_pos (by omega) (ev_pos (by omega) (ev_pos (by omega) (ev_eq ?_))))
      exact (numI_small h).symm
    · have e1 : wrap64 (Int.tdiv (n : Int) 10) = ((n / 10 : Nat) : Int) := by
        rw [Int.tdiv_eq_ediv_of_nonneg (by omega), w64 (by omega) (by omega)]; omega
      have e2 : Int.tmod (n : Int) 10 = ((n % 10 : Nat) : Int) := by
        rw [Int.tmod_eq_emod_of_nonneg (by omega)]; omega
      have e3 : wrap64 (((n % 10 : Nat) : Int) + 1) = ((n % 10 + 1 : Nat) : Int) := by rw [w64 (by omega) (by omega)]; omega
      simp only [e1, e2, e3]
      refine ev_neg (by omega) (Ev.bind (ih (n / 10) (by omega) (by omega)) ?_)
      have hs := numI_size (n := ((n / 10 : Nat) : Int)) (by omega) (by omega)
      refine ev_pos (by omega) (ev_pos (by omega) (ev_pos (by omega) (ev_pos ?_ (ev_eq ?_))))
      · rw [ByteArray.size_extract]
        have : (⟨#[48, 49, 50, 51, 52, 53, 54, 55, 56, 57]⟩ : ByteArray).size = 10 := rfl
        omega
      · exact (numI_big h).symm
/-! ### checksums -/
def sumL : Int → List Int → Int
  | h, [] => h
  | h, c :: l => sumL ((41 * h + c + 1) % 999979) l
theorem sumL_range {h : Int} {l : List Int} (h0 : 0 ≤ h) (h1 : h < 999979) : 0 ≤ sumL h l ∧ sumL h l < 999979 := by
  induction l generalizing h with
  | nil => exact ⟨h0, h1⟩
  | cons c l ih => exact ih (by omega) (by omega)
def sumB (s : ByteArray) : Int := sumL 7 (bytesOf s)
theorem sumB_range (s : ByteArray) : 0 ≤ sumB s ∧ sumB s < 999979 := sumL_range (by omega) (by omega)
theorem sum_step {h c : Int} (h0 : 0 ≤ h) (h1 : h < 999979) (c0 : 0 ≤ c) (c1 : c ≤ 255) : Int.tmod (wrap64 ((wrap64 ((wrap64 (41 * h)) + (wrap64 c))) + 1)) 999979 = (41 * h + c + 1) % 999979 := by
  rw [w64 (x := 41 * h) (by omega) (by omega), w64 (x := c) (by omega) (by omega), w64 (x := 41 * h + c) (by omega) (by omega), w64 (x := 41 * h + c + 1) (by omega) (by omega), Int.tmod_eq_emod_of_nonneg (by omega)]
theorem l1Sum_ev (s : ByteArray) (hs : s.size ≤ 140737488351232) : Ev (fun k => spec_l1Sum.f k s) (sumB s) := by
  have key : ∀ m (i : Nat) (h : Int), s.size - i = m → i ≤ s.size → 0 ≤ h → h < 999979 → Ev (fun k => spec_l1Sum.l0 k s h i) (sumL h ((bytesOf s).drop i)) := by
    intro m
    induction m with
    | zero =>
      intro i h hm hi h0 h1
      obtain rfl : i = s.size := by omega
      refine Ev.step (fun k => by simp only [spec_l1Sum.l0]; rfl) (ev_neg (by omega) (ev_eq ?_))
      rw [bytes_end]; rfl
    | succ m ih =>
      intro i h hm hi h0 h1
      refine Ev.step (fun k => by simp only [spec_l1Sum.l0]; rfl) (ev_pos (by omega) (ev_pos (by omega) ?_))
      have hb := bt_range s (i : Int)
      rw [sum_step h0 h1 hb.1 (by omega), inc (by omega), bytes_drop (by omega)]
      exact ih (i + 1) _ (by omega) (by omega) (by omega) (by omega)
  simpa [spec_l1Sum.f, sumB] using key _ 0 7 rfl (Nat.zero_le _) (by omega) (by omega)
theorem checksum_ev (s : ByteArray) (hs : s.size ≤ 140737488351232) : Ev (fun k => impl_checksum.f k s) (sumB s) := by
  have key : ∀ m (i : Nat) (h : Int), s.size - i = m → i ≤ s.size → 0 ≤ h → h < 999979 → Ev (fun k => impl_checksum.l0 k s h (s.size : Int) i) (sumL h ((bytesOf s).drop i)) := by
    intro m
    induction m with
    | zero =>
      intro i h hm hi h0 h1
      obtain rfl : i = s.size := by omega
      refine Ev.step (fun k => by simp only [impl_checksum.l0]; rfl) (ev_neg (by omega) (ev_eq ?_))
      rw [bytes_end]; rfl
    | succ m ih =>
      intro i h hm hi h0 h1
      refine Ev.step (fun k => by simp only [impl_checksum.l0]; rfl) (ev_pos (by omega) (ev_pos (by omega) (ev_pos (by omega) ?_)))
      have hb := bt_range s (i : Int)
      rw [sum_step h0 h1 hb.1 (by omega), inc (by omega), bytes_drop (by omega)]
      exact ih (i + 1) _ (by omega) (by omega) (by omega) (by omega)
  simpa [impl_checksum.f, sumB] using key _ 0 7 rfl (Nat.zero_le _) (by omega) (by omega)
/-! ### sealed texts, lines -/
theorem size_append (s t : ByteArray) : (s ++ t).size = s.size + t.size := ByteArray.size_append
def sealB (s : ByteArray) : ByteArray := (s ++ (⟨#[35]⟩ : ByteArray)) ++ numI (sumB s)
theorem sum_size (s : ByteArray) : (numI (sumB s)).size ≤ 21 := by have := sumB_range s; exact numI_size (by omega) (by omega)
theorem l1Seal_ev (s : ByteArray) (hs : s.size ≤ 140737488351232) : Ev (fun k => spec_l1Seal.f k s) (sealB s) := by
  have h := sumB_range s
  have h2 := sum_size s
  have e1 : (⟨#[35]⟩ : ByteArray).size = 1 := rfl
  unfold spec_l1Seal.f
  refine ev_pos (by omega) (Ev.bind (l1Sum_ev s hs) (Ev.bind (a := numI (sumB s)) ?_ (ev_pos (by rw [size_append]; omega) (ev_eq rfl))))
  obtain ⟨n, hn⟩ : ∃ n : Nat, sumB s = n := ⟨(sumB s).toNat, by omega⟩
  rw [hn]
  exact l1Num_ev n (by omega)
def bodyB (k : Int) (c r : ByteArray) : ByteArray := (((numI k ++ (⟨#[32]⟩ : ByteArray)) ++ c) ++ (⟨#[64]⟩ : ByteArray)) ++ r
def lineB (k : Int) (c r : ByteArray) : ByteArray := sealB (bodyB k c r) ++ (⟨#[10]⟩ : ByteArray)
theorem body_size (k : Int) (c r : ByteArray) : (bodyB k c r).size = (numI k).size + 1 + c.size + 1 + r.size := by
  unfold bodyB
  have e1 : (⟨#[32]⟩ : ByteArray).size = 1 := rfl
  have e2 : (⟨#[64]⟩ : ByteArray).size = 1 := rfl
  simp only [size_append, e1, e2]
theorem seal_size (s : ByteArray) : (sealB s).size = s.size + 1 + (numI (sumB s)).size := by
  unfold sealB
  have e1 : (⟨#[35]⟩ : ByteArray).size = 1 := rfl
  simp only [size_append, e1]
theorem l12Line_ev (n : Nat) (c r : ByteArray) (hn : n < 1000000) (hc : c.size ≤ 1048576) (hr : r.size ≤ 1048576) : Ev (fun k => spec_l12Line.f k n c r) (lineB n c r) := by
  have h1 := numI_size (n := (n : Int)) (by omega) (by omega)
  have e1 : (⟨#[32]⟩ : ByteArray).size = 1 := rfl
  have e2 : (⟨#[64]⟩ : ByteArray).size = 1 := rfl
  have hb := body_size n c r
  have h2 := sum_size (bodyB n c r)
  have h3 := seal_size (bodyB n c r)
  unfold spec_l12Line.f
  refine Ev.bind (l1Num_ev n (by omega)) ?_
  refine ev_pos (by omega) (ev_pos (by rw [size_append]; omega) (ev_pos (by rw [size_append, size_append]; omega) (ev_pos (by rw [size_append, size_append, size_append]; omega) ?_)))
  exact Ev.bind (l1Seal_ev (bodyB n c r) (by omega)) (ev_pos (by omega) (ev_eq rfl))
/-- The encoding of a record with a number, or none. -/
def encB (n : Int) (c r : ByteArray) : ByteArray × Bool := if (0 ≤ n ∧ n ≤ 39) ∧ recB c r = true then (lineB n c r, true) else (ByteArray.empty, false)
theorem encB_ok {n : Int} {c r : ByteArray} (h0 : 0 ≤ n) (h1 : n ≤ 39) (h : recB c r = true) : encB n c r = (lineB n c r, true) := if_pos ⟨⟨h0, h1⟩, h⟩
theorem encB_no {n : Int} {c r : ByteArray} (h : ¬ ((0 ≤ n ∧ n ≤ 39) ∧ recB c r = true)) : encB n c r = ((⟨#[]⟩ : ByteArray), false) := if_neg h
theorem spec_EncodeRecord_ev (n : Int) (c r : ByteArray) (hc : c.size ≤ 1048576) (hr : r.size ≤ 1048576) :
    Ev (fun k => spec_EncodeRecord.f k n c r) (encB n c r) := by
  unfold spec_EncodeRecord.f spec_l1In.f
  by_cases h0 : n ≥ 0
  · simp only [if_pos h0, Option.bind_some]
    by_cases k1 : n ≤ 39
    · have h1 := k1
      simp only [h1, decide_true, if_true]
      refine Ev.bind (l12Record_ev c r (by omega) (by omega)) (ev_ite (fun h => ?_) (fun h => ev_eq ?_))
      · obtain ⟨m, rfl⟩ : ∃ m : Nat, n = m := ⟨n.toNat, by omega⟩
        refine Ev.bind (l12Line_ev m c r (by omega) hc hr) (ev_eq ?_)
        rw [encB_ok h0 k1 h]
      · rw [encB_no (fun hh => h hh.2)]
    · have h1 := k1
      simp only [h1, decide_false]
      exact ev_eq (by rw [encB_no (fun hh => k1 hh.1.2)])
  · simp only [if_neg h0, Option.bind_some]
    exact ev_eq (by rw [encB_no (fun hh => h0 hh.1.1)])
theorem AppendChecksum_ev (s : ByteArray) (hs : s.size ≤ 140737488351232) (hn : (35 : Int) ∉ bytesOf s) (hl : (sealB s).size ≤ 4000) : Ev (fun k => impl_AppendChecksum.f k s) (sealB s, true) := by
  have h := sumB_range s
  have h2 := sum_size s
  have h3 := seal_size s
  have e1 : (⟨#[35]⟩ : ByteArray).size = 1 := rfl
  unfold impl_AppendChecksum.f strconv_Itoa.f strings_Contains.f
  refine ev_pos (by omega) (Ev.bind (checksum_ev s hs) ?_)
  simp only [if_pos (show -9223372036854775808 ≤ sumB s ∧ sumB s ≤ 9223372036854775807 by omega), Option.bind_some, e1, if_true]
  refine ev_pos (by rw [size_append]; have : (⟨(Lib.itoa (sumB s)).toArray⟩ : ByteArray) = numI (sumB s) := rfl; rw [this]; omega) ?_
  have hlt : Lib.indexByte s.data.toList 35 < 0 := (indexByte_neg _ _).2 (fun hm => hn (by unfold bytesOf; exact List.mem_map.2 ⟨35, hm, rfl⟩))
  have : decide (0 ≤ Lib.indexByte s.data.toList ((⟨#[35]⟩ : ByteArray).data.toList.headD 0)) = false := by
    rw [decide_eq_false_iff_not]; exact fun hh => by have : Lib.indexByte s.data.toList 35 ≥ 0 := hh; omega
  rw [this]
  refine ev_neg (by simp) (ev_neg ?_ (ev_eq rfl))
  have : ((sealB s).size : Int) ≤ 4000 := by omega
  exact fun hh => absurd this (by have : ((sealB s).size : Int) > 4000 := hh; omega)
theorem recB_parts {c r : ByteArray} (h : recB c r = true) : c.size ≤ 160 ∧ r.size ≤ 520 ∧ (∀ x ∈ bytesOf c, 32 ≤ x ∧ x ≤ 126 ∧ x ≠ 35 ∧ x ≠ 64) ∧ (∀ x ∈ bytesOf r, 32 ≤ x ∧ x ≤ 126 ∧ x ≠ 35) ∧ bytesOf c ≠ [] := by
  simp only [recB, Bool.and_eq_true, List.all_eq_true, Bool.not_eq_true', decide_eq_true_eq, List.any_eq_false, okB] at h
  obtain ⟨⟨⟨h0, h1, h2⟩, h3⟩, h4, h5⟩ := h
  refine ⟨by omega, by omega, fun x hx => ?_, fun x hx => ?_, fun e => by rw [e] at h0; simp at h0⟩
  · have := h1 x hx; have := h3 x hx; omega
  · have := h4 x hx; omega
theorem body_no35 {k : Int} (hk : 0 ≤ k) {c r : ByteArray} (h : recB c r = true) : (35 : Int) ∉ bytesOf (bodyB k c r) := by
  obtain ⟨_, _, h1, h2, _⟩ := recB_parts h
  have e1 : bytesOf (⟨#[32]⟩ : ByteArray) = [32] := rfl
  have e2 : bytesOf (⟨#[64]⟩ : ByteArray) = [64] := rfl
  unfold bodyB
  simp only [bytes_append, e1, e2, List.mem_append, List.mem_singleton, not_or]
  refine ⟨⟨⟨⟨fun hm => ?_, by decide⟩, fun hm => ?_⟩, by decide⟩, fun hm => ?_⟩
  · have := numI_digits hk hm; omega
  · have := h1 _ hm; omega
  · have := h2 _ hm; omega
theorem impl_EncodeRecord_ev (n : Int) (c r : ByteArray) (hc : c.size ≤ 1048576) (hr : r.size ≤ 1048576) :
    Ev (fun k => impl_EncodeRecord.f k n c r) (encB n c r) := by
  have e1 : (⟨#[32]⟩ : ByteArray).size = 1 := rfl
  have e2 : (⟨#[64]⟩ : ByteArray).size = 1 := rfl
  unfold impl_EncodeRecord.f impl_in.f
  have bad : ∀ v, v = ((⟨#[]⟩ : ByteArray), false) → Ev (fun k => impl_EncodeRecord.j0 k n true c r) v := by
    intro v hv
    refine Ev.step (fun k => by unfold impl_EncodeRecord.j0; rfl) ?_
    exact ev_pos rfl (ev_eq hv.symm)
  by_cases h0 : n ≥ 0
  · simp only [if_pos h0, Option.bind_some]
    by_cases k1 : n ≤ 39
    · have h1 := k1
      simp only [h1, decide_true, if_true]
      refine Ev.bind (implRecord_ev c r (by omega) (by omega)) ?_
      cases h : recB c r with
      | false => exact bad _ (encB_no (fun hh => by rw [h] at hh; cases hh.2))
      | true =>
        refine Ev.step (fun k => by simp only [impl_EncodeRecord.j0]; rfl) ?_
        have hns := numI_size (n := n) (by omega) (by omega)
        have hb := body_size n c r
        have h2 := sum_size (bodyB n c r)
        have h3 := seal_size (bodyB n c r)
        obtain ⟨p1, p2, _⟩ := recB_parts h
        refine ev_neg (by simp) ?_
        simp only [strconv_Itoa.f, if_pos (show -9223372036854775808 ≤ n ∧ n ≤ 9223372036854775807 by omega), Option.bind_some]
        have en : (⟨(Lib.itoa n).toArray⟩ : ByteArray) = numI n := rfl
        rw [en]
        refine ev_pos (by omega) (ev_pos (by rw [size_append]; omega) (ev_pos (by rw [size_append, size_append]; omega) (ev_pos (by rw [size_append, size_append, size_append]; omega) ?_)))
        refine Ev.bind (AppendChecksum_ev (bodyB n c r) (by omega) (body_no35 h0 h) (by omega)) (ev_pos (by simp only; omega) (ev_eq ?_))
        rw [encB_ok h0 k1 h]; rfl
    · have h1 := k1
      simp only [h1, decide_false]
      exact bad _ (encB_no (fun hh => k1 hh.1.2))
  · simp only [if_neg h0, Option.bind_some]
    exact bad _ (encB_no (fun hh => h0 hh.1.1))
end Go.Proofs.YtnjjchbhbicmoaaDoor.Pl

/- Plain lemmas: rounds ('Ev'), loops, bytes, wrap. No program in it. -/
import Derived.Test.YtcplbbflfgckbaaGreatDoorK
import Derived.Lib.Strings
import Derived.Lib.Bytealg
set_option linter.unusedVariables false
set_option linter.unusedSimpArgs false
namespace Go.Proofs.YtcplbbflfgckbaaGreatDoor.Pl
open Go.RowKit Go.Proofs.YtcplbbflfgckbaaGreatDoorW.PrintWords Go.Proofs.YtcplbbflfgckbaaGreatDoorW.PrintLast Go.Proofs.YtcplbbflfgckbaaGreatDoorW.PrintMore

theorem w64 {x : Int} (h1 : -9223372036854775808 ≤ x) (h2 : x ≤ 9223372036854775807) : wrap64 x = x := by unfold wrap64; omega
section
variable {α β : Type} {A B : Nat → Option α} {r : α}
theorem ev_pos {c : Prop} [Decidable c] (hc : c) (h : Ev A r) : Ev (fun k => if c then A k else B k) r := Ev.congr (fun _ => if_pos hc) h
theorem ev_neg {c : Prop} [Decidable c] (hc : ¬ c) (h : Ev B r) : Ev (fun k => if c then A k else B k) r := Ev.congr (fun _ => if_neg hc) h
theorem ev_ite {c : Prop} [Decidable c] (h1 : c → Ev A r) (h2 : ¬ c → Ev B r) : Ev (fun k => if c then A k else B k) r := by
  by_cases hc : c
  · exact ev_pos hc (h1 hc)
  · exact ev_neg hc (h2 hc)
theorem ev_eq {a : α} (h : a = r) : Ev (fun _ => some a) r := h ▸ Ev.now a
theorem ev_some {a : β} {f : Nat → β → Option α} (h : Ev (fun k => f k a) r) : Ev (fun k => (some a).bind (f k)) r := h
theorem ev_down {R : Nat → α} {g : Nat → Nat → Option α} (n : Nat) (hend : Ev (fun k => g k n) (R n)) (hstep : ∀ i, i < n → Ev (fun k => g k (i + 1)) (R (i + 1)) → Ev (fun k => g k i) (R i)) : ∀ i, i ≤ n → Ev (fun k => g k i) (R i) := by
  have : ∀ d i, n - i = d → i ≤ n → Ev (fun k => g k i) (R i) := by
    intro d
    induction d with
    | zero => intro i h1 h2; obtain rfl : i = n := by omega
              exact hend
    | succ d ih => intro i h1 h2; exact hstep i (by omega) (ih (i + 1) (by omega) (by omega))
  intro i hi
  exact this _ i rfl hi
end
/-- For all places below n, then fin. -/
def allN (n : Nat) (P : Nat → Bool) : Bool := (List.range n).all P
theorem allN_iff {n : Nat} {P : Nat → Bool} : allN n P = true ↔ ∀ i, i < n → P i = true := by simp [allN]
theorem ev_all {g : Nat → Nat → Option Bool} {n : Nat} {P : Nat → Bool} {fin : Bool} (hend : Ev (fun k => g k n) fin) (hstep : ∀ i, i < n → ∀ R, Ev (fun k => g k (i + 1)) R → Ev (fun k => g k i) (P i && R)) : Ev (fun k => g k 0) (allN n P && fin) := by
  have h := ev_down (g := g) (R := fun i => ((List.range n).drop i).all P && fin) n (by rw [List.drop_of_length_le (by simp)]; simpa using hend) (fun i hi ih => by
    have e : (List.range n).drop i = i :: (List.range n).drop (i + 1) := by
      rw [List.drop_eq_getElem_cons (by simpa using hi)]; simp
    have := hstep i hi _ ih
    rw [e, List.all_cons, Bool.and_assoc]
    exact this) 0 (Nat.zero_le _)
  simpa [allN] using h
theorem rdOf_nat {α : Type} (z : α) (l : List α) (i : Nat) : rdOf z l (i : Int) = l.getD i z := rfl
theorem getD_mem {α : Type} {l : List α} {i : Nat} (h : i < l.length) (z : α) : l.getD i z ∈ l := by
  rw [List.getD_eq_getElem?_getD, List.getElem?_eq_getElem h]; simp
theorem inc {i : Nat} (h : i ≤ 9223372036854775806) : wrap64 ((i : Int) + 1) = ((i + 1 : Nat) : Int) := by rw [w64 (by omega) (by omega)]; omega
theorem ev_eqlist {α : Type} [DecidableEq α] {z : α} {xs ys : List α} (hl : xs.length = ys.length) {g : Nat → Nat → Option Bool} (hend : Ev (fun k => g k xs.length) true) (hstep : ∀ i, i < xs.length → ∀ R, Ev (fun k => g k (i + 1)) R → Ev (fun k => g k i) (decide (xs.getD i z = ys.getD i z) && R)) : Ev (fun k => g k 0) (decide (xs = ys)) := by
  have h := ev_all (P := fun i => decide (xs.getD i z = ys.getD i z)) hend hstep
  rw [Bool.and_true] at h
  have e : allN xs.length (fun i => decide (xs.getD i z = ys.getD i z)) = decide (xs = ys) := by
    rw [Bool.eq_iff_iff, allN_iff, decide_eq_true_iff]
    constructor
    · intro h
      refine List.ext_getElem hl fun i h1 h2 => ?_
      have := of_decide_eq_true (h i h1)
      simpa [List.getD, List.getElem?_eq_getElem h1, List.getElem?_eq_getElem h2] using this
    · rintro rfl i _; simp
  rwa [e] at h
/-! ### bytes -/
instance : DecidableEq ByteArray := fun a b => decidable_of_iff (bytesOf a = bytesOf b) ⟨by
  intro h
  cases a with
  | mk a => cases b with
    | mk b =>
      congr 1
      apply Array.toList_inj.1
      unfold bytesOf at h
      refine List.map_inj_right (f := fun b : UInt8 => (b.toNat : Int)) ?_ |>.1 h
      intro x y hxy
      exact UInt8.toNat.inj (by have h2 : (x.toNat : Int) = (y.toNat : Int) := hxy; omega), fun h => by rw [h]⟩
theorem toList_bytes (s : ByteArray) : s.toList = s.data.toList := Lib.toList_data s
theorem bt_eq (s : ByteArray) (i : Nat) : bt s i = (bytesOf s).getD i 0 := by rw [← rd_bytesOf]; rfl
theorem drop_cons {α : Type} {l : List α} {i : Nat} (h : i < l.length) (z : α) : l.drop i = l.getD i z :: l.drop (i + 1) := by
  rw [List.drop_eq_getElem_cons h]; simp [List.getD, List.getElem?_eq_getElem h]
theorem bytes_inj {s t : ByteArray} (h : bytesOf s = bytesOf t) : s = t := by
  cases s with
  | mk a => cases t with
    | mk b =>
      congr 1
      apply Array.toList_inj.1
      unfold bytesOf at h
      refine List.map_inj_right (f := fun b : UInt8 => (b.toNat : Int)) ?_ |>.1 h
      intro x y hxy
      exact UInt8.toNat.inj (by have h2 : (x.toNat : Int) = (y.toNat : Int) := hxy; omega)
theorem toList_inj {s t : ByteArray} : s.toList = t.toList ↔ s = t := by
  rw [toList_bytes, toList_bytes]
  constructor
  · intro h
    exact bytes_inj (by unfold bytesOf; rw [h])
  · rintro rfl; rfl
theorem bytes_size (s : ByteArray) : (bytesOf s).length = s.size := bytesOf_length s
end Go.Proofs.YtcplbbflfgckbaaGreatDoor.Pl


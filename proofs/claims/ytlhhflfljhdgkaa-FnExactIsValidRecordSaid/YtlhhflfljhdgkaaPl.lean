/- Plain lemmas: rounds ('Ev'), loops, bytes, wrap. No program in it. -/
import Derived.Test.YtlhhflfljhdgkaaWMore
import Derived.Test.YtlhhflfljhdgkaaWNEv
import Derived.Lib.Strings
import Derived.Lib.Bytealg
namespace Go.Proofs.Ytlhhflfljhdgkaa.Pl
open Go.RowKit Go.Proofs.YtlhhflfljhdgkaaW.PrintWords Go.Proofs.YtlhhflfljhdgkaaW.PrintLast Go.Proofs.YtlhhflfljhdgkaaW.PrintMore

theorem w64 {x : Int} (h1 : -9223372036854775808 ≤ x) (h2 : x ≤ 9223372036854775807) : wrap64 x = x := by unfold wrap64; omega
section
variable {α β : Type} {A B : Nat → Option α} {r : α}
theorem ev_pos {c : Prop} [Decidable c] (hc : c) (h : Ev A r) : Ev (fun k => if c then A k else B k) r := Ev.congr (fun _ => if_pos hc) h
theorem ev_neg {c : Prop} [Decidable c] (hc : ¬ c) (h : Ev B r) : Ev (fun k => if c then A k else B k) r := Ev.congr (fun _ => if_neg hc) h
theorem ev_ite {c : Prop} [Decidable c] (h1 : c → Ev A r) (h2 : ¬ c → Ev B r) : Ev (fun k => if c then A k else B k) r := by
  by_cases hc : c
  · exact ev_pos hc (h1 hc)
  · exact ev_neg hc (h2 hc)
theorem ev_eq {a : α} (h : a = r) : Ev (fun _ => some a) r := h ▸ Ev.now a
theorem ev_some {a : β} {f : Nat → β → Option α} (h : Ev (fun k => f k a) r) : Ev (fun k => (some a).bind (f k)) r := h
theorem ev_down {R : Nat → α} {g : Nat → Nat → Option α} (n : Nat) (hend : Ev (fun k => g k n) (R n)) (hstep : ∀ i, i < n → Ev (fun k => g k (i + 1)) (R (i + 1)) → Ev (fun k => g k i) (R i)) : ∀ i, i ≤ n → Ev (fun k => g k i) (R i) := by
  have : ∀ d i, n - i = d → i ≤ n → Ev (fun k => g k i) (R i) := by
    intro d
    induction d with
    | zero => intro i h1 h2; obtain rfl : i = n := by omega
              exact hend
    | succ d ih => intro i h1 h2; exact hstep i (by omega) (ih (i + 1) (by omega) (by omega))
  intro i hi
  exact this _ i rfl hi
end
/-! ### bytes -/
theorem toList_bytes (s : ByteArray) : s.toList = s.data.toList := Lib.toList_data s
theorem bt_eq (s : ByteArray) (i : Nat) : bt s i = (bytesOf s).getD i 0 := by rw [← rd_bytesOf]; rfl
theorem drop_cons {α : Type} {l : List α} {i : Nat} (h : i < l.length) (z : α) : l.drop i = l.getD i z :: l.drop (i + 1) := by
  rw [List.drop_eq_getElem_cons h]; simp [List.getD, List.getElem?_eq_getElem h]
theorem bytes_drop {s : ByteArray} {i : Nat} (h : i < s.size) : (bytesOf s).drop i = bt s i :: (bytesOf s).drop (i + 1) := by
  rw [bt_eq]; exact drop_cons (by rw [bytesOf_length]; exact h) 0
theorem bytes_end (s : ByteArray) : (bytesOf s).drop s.size = [] := by rw [List.drop_eq_nil_iff]; simp [bytesOf_length]
theorem bytes_range {s : ByteArray} {c : Int} (h : c ∈ bytesOf s) : 0 ≤ c ∧ c ≤ 255 := by
  unfold bytesOf at h
  obtain ⟨b, _, rfl⟩ := List.mem_map.1 h
  have := b.toNat_lt
  omega
theorem bytes_inj {s t : ByteArray} (h : bytesOf s = bytesOf t) : s = t := by
  cases s with
  | mk a => cases t with
    | mk b =>
      congr 1
      apply Array.toList_inj.1
      unfold bytesOf at h
      refine List.map_inj_right (f := fun b : UInt8 => (b.toNat : Int)) ?_ |>.1 h
      intro x y hxy
      exact UInt8.toNat.inj (by have h2 : (x.toNat : Int) = (y.toNat : Int) := hxy; omega)
theorem bytes_nil {s : ByteArray} : s.toList = [] ↔ bytesOf s = [] := by rw [toList_bytes]; simp [bytesOf]
theorem bytes_size (s : ByteArray) : (bytesOf s).length = s.size := bytesOf_length s
theorem indexByte_neg (l : List UInt8) (c : UInt8) : Lib.indexByte l c < 0 ↔ c ∉ l := by
  induction l with
  | nil => simp [Lib.indexByte]
  | cons b l ih =>
    have hge := Lib.indexByte_ge l c
    simp only [Lib.indexByte, List.mem_cons, not_or]
    by_cases h : b = c
    · subst h; simp
    · have h' : (b == c) = false := by simpa using h
      rw [h']
      simp only [Bool.false_eq_true, if_false]
      by_cases hm : Lib.indexByte l c = -1
      · rw [hm]; simp
        exact ⟨fun e => h e.symm, ih.1 (by omega)⟩
      · have : (Lib.indexByte l c == -1) = false := by simpa using hm
        rw [this]; simp only [Bool.false_eq_true, if_false]
        constructor
        · intro hlt; omega
        · intro ⟨_, h2⟩; have := ih.2 h2; omega
end Go.Proofs.Ytlhhflfljhdgkaa.Pl

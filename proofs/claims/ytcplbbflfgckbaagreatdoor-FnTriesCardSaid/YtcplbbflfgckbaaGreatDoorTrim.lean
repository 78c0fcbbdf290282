/- Plain lemmas: rounds ('Ev'), loops, bytes, wrap. No program in it. -/
import Derived.Test.YtcplbbflfgckbaaGreatDoorK
import Derived.Lib.Strings
import Derived.Lib.Bytealg
import Derived.Test.YtcplbbflfgckbaaGreatDoorX9
import Derived.Test.YtcplbbflfgckbaaGreatDoorX20
import Derived.Laws.BitsLemmas
import Derived.Lib.SlicesCompact
import Derived.Lib.RowBridge
import Derived.Sort.Walk0
import Derived.Test.YtcplbbflfgckbaaGreatDoorX5
import Derived.Test.YtcplbbflfgckbaaGreatDoorX12
import Derived.Test.YtcplbbflfgckbaaGreatDoorX15
import Derived.Lib.SlTrimSet
set_option linter.unusedVariables false
set_option linter.unusedSimpArgs false
namespace Go.Proofs.YtcplbbflfgckbaaGreatDoor.Pl
open Go.RowKit Go.Proofs.YtcplbbflfgckbaaGreatDoorW.PrintWords Go.Proofs.YtcplbbflfgckbaaGreatDoorW.PrintLast Go.Proofs.YtcplbbflfgckbaaGreatDoorW.PrintMore

theorem w64 {x : Int} (h1 : -9223372036854775808 ≤ x) (h2 : x ≤ 9223372036854775807) : wrap64 x = x := by unfold wrap64; omega
section
variable {α β : Type} {A B : Nat → Option α} {r : α}
theorem ev_pos {c : Prop} [Decidable c] (hc : c) (h : Ev A r) : Ev (fun k => if c then A k else B k) r := Ev.congr (fun _ => if_pos hc) h
theorem ev_neg {c : Prop} [Decidable c] (hc : ¬ c) (h : Ev B r) : Ev (fun k => if c then A k else B k) r := Ev.congr (fun _ => if_neg hc) h
theorem ev_ite {c : Prop} [Decidable c] (h1 : c → Ev A r) (h2 : ¬ c → Ev B r) : Ev (fun k => if c then A k else B k) r := by
  by_cases hc : c
  · exact ev_pos hc (h1 hc)
  · exact ev_neg hc (h2 hc)
theorem ev_eq {a : α} (h : a = r) : Ev (fun _ => some a) r := h ▸ Ev.now a
theorem ev_some {a : β} {f : Nat → β → Option α} (h : Ev (fun k => f k a) r) : Ev (fun k => (some a).bind (f k)) r := h
end
theorem rdOf_nat {α : Type} (z : α) (l : List α) (i : Nat) : rdOf z l (i : Int) = l.getD i z := rfl
theorem rd_nat (l : List Int) (i : Nat) : rd l (i : Int) = l.getD i 0 := rfl
theorem getD_mem {α : Type} {l : List α} {i : Nat} (h : i < l.length) (z : α) : l.getD i z ∈ l := by
  rw [List.getD_eq_getElem?_getD, List.getElem?_eq_getElem h]; simp
theorem inc {i : Nat} (h : i ≤ 9223372036854775806) : wrap64 ((i : Int) + 1) = ((i + 1 : Nat) : Int) := by rw [w64 (by omega) (by omega)]; omega
/-! ### bytes -/
instance : DecidableEq ByteArray := fun a b => decidable_of_iff (bytesOf a = bytesOf b) ⟨by
  intro h
  cases a with
  | mk a => cases b with
    | mk b =>
      congr 1
      apply Array.toList_inj.1
      unfold bytesOf at h
      refine List.map_inj_right (f := fun b : UInt8 => (b.toNat : Int)) ?_ |>.1 h
      intro x y hxy
      exact UInt8.toNat.inj (by have h2 : (x.toNat : Int) = (y.toNat : Int) := hxy; omega), fun h => by rw [h]⟩
theorem toList_bytes (s : ByteArray) : s.toList = s.data.toList := Lib.toList_data s
theorem bt_eq (s : ByteArray) (i : Nat) : bt s i = (bytesOf s).getD i 0 := by rw [← rd_bytesOf]; rfl
theorem drop_cons {α : Type} {l : List α} {i : Nat} (h : i < l.length) (z : α) : l.drop i = l.getD i z :: l.drop (i + 1) := by
  rw [List.drop_eq_getElem_cons h]; simp [List.getD, List.getElem?_eq_getElem h]
theorem bytes_inj {s t : ByteArray} (h : bytesOf s = bytesOf t) : s = t := by
  cases s with
  | mk a => cases t with
    | mk b =>
      congr 1
      apply Array.toList_inj.1
      unfold bytesOf at h
      refine List.map_inj_right (f := fun b : UInt8 => (b.toNat : Int)) ?_ |>.1 h
      intro x y hxy
      exact UInt8.toNat.inj (by have h2 : (x.toNat : Int) = (y.toNat : Int) := hxy; omega)
theorem toList_inj {s t : ByteArray} : s.toList = t.toList ↔ s = t := by
  rw [toList_bytes, toList_bytes]
  constructor
  · intro h
    exact bytes_inj (by unfold bytesOf; rw [h])
  · rintro rfl; rfl
theorem bytes_nil {s : ByteArray} : s.toList = [] ↔ bytesOf s = [] := by rw [toList_bytes]; simp [bytesOf]
theorem bytes_size (s : ByteArray) : (bytesOf s).length = s.size := bytesOf_length s
end Go.Proofs.YtcplbbflfgckbaaGreatDoor.Pl
set_option linter.unusedVariables false
set_option linter.unusedSimpArgs false
namespace Go.Proofs.YtcplbbflfgckbaaGreatDoor.Pl
open Go.RowKit Go.Proofs.YtcplbbflfgckbaaGreatDoorW.PrintWords Go.Proofs.YtcplbbflfgckbaaGreatDoorW.PrintLast Go.Proofs.YtcplbbflfgckbaaGreatDoorW.PrintMore Go.Proofs.YtcplbbflfgckbaaGreatDoor.X

/-- A code's bytes. -/
def isCodeB (l : List Int) : Prop := ∀ y ∈ l, 0 ≤ y ∧ y ≤ 255
theorem and255 {x : Int} (h0 : 0 ≤ x) (h1 : x < 2 ^ 63) : Go.bits .and .u64 x 255 = x % 256 := by
  have hw : ∀ n : Int, 0 ≤ n → n < 2 ^ 63 → IntKind.u64.wrap n = n := fun n a b => by simp only [IntKind.wrap, IntKind.bits, IntKind.signed]; simp; omega
  exact bits_mask .u64 63 (by decide) hw 8 (by decide) x h0 h1
theorem u64w (x : Int) : 0 ≤ IntKind.u64.wrap x ∧ IntKind.u64.wrap x < 18446744073709551616 := by
  simp only [IntKind.wrap, IntKind.bits, IntKind.signed]; simp; omega
/-- Where the draw stands: at most at n. -/
structure At (n : Nat) (a : Int) : Prop where
  lo : 0 ≤ a
  hi : a ≤ n
theorem At.le {n m : Nat} {a : Int} (h : At n a) (hm : n ≤ m) : At m a := ⟨h.lo, by have := h.hi; omega⟩
theorem next_ev {l : List Int} (hl : isCodeB l) {n : Nat} {a s : Int} (h : At n a) (hn : n ≤ 2000000000) : ∃ b a' s', spec_l1Cur_next.f l a s = some (b, a', s') ∧ At (n + 1) a' ∧ 0 ≤ b ∧ b ≤ 255 := by
  obtain ⟨h0, h1⟩ := h
  have hw := w64 (x := a + 1) (by omega) (by omega)
  have key : ∀ y : Int, 0 ≤ Go.bits .and .u64 (IntKind.u64.wrap y / 1099511627776) 255 ∧ Go.bits .and .u64 (IntKind.u64.wrap y / 1099511627776) 255 ≤ 255 := fun y => by
    have := u64w y
    rw [and255 (by omega) (by omega)]
    omega
  unfold spec_l1Cur_next.f
  rw [hw]
  by_cases h2 : a < (l.length : Int)
  · rw [if_pos h2, if_pos h0, if_pos (by omega)]
    have hm : 0 ≤ rd l a ∧ rd l a ≤ 255 := by
      obtain ⟨i, rfl⟩ : ∃ i : Nat, a = i := ⟨a.toNat, by omega⟩
      exact hl _ (getD_mem (by omega) 0)
    exact ⟨_, _, _, rfl, ⟨by omega, by omega⟩, by rw [w64 (by omega) (by omega)]; omega, by rw [w64 (by omega) (by omega)]; omega⟩
  · have kk : ∀ y : Int, wrap64 (Go.bits .and .u64 (IntKind.u64.wrap y / 1099511627776) 255) = Go.bits .and .u64 (IntKind.u64.wrap y / 1099511627776) 255 := fun y => by have := key y; exact w64 (by omega) (by omega)
    rw [if_neg h2, if_neg (by omega), kk]
    exact ⟨_, _, _, rfl, ⟨by omega, by omega⟩, (key _).1, (key _).2⟩
theorem tmod_lt {b n : Int} (h0 : 0 ≤ b) (h1 : 1 < n) : 0 ≤ Int.tmod b n ∧ Int.tmod b n < n := ⟨Int.tmod_nonneg _ h0, Int.tmod_lt_of_pos _ (by omega)⟩
theorem pick_ev {l : List Int} (hl : isCodeB l) {n : Nat} {a s : Int} (h : At n a) (hn : n ≤ 1000000000) (c : Int) : ∃ b a' s', spec_l1Cur_pick.f l a s c = some (b, a', s') ∧ At (n + 2) a' ∧ 0 ≤ b ∧ (1 ≤ c → b < c) := by
  unfold spec_l1Cur_pick.f
  by_cases h1 : c ≤ 1
  · rw [if_pos h1]; exact ⟨_, _, _, rfl, h.le (by omega), by omega, fun _ => by omega⟩
  · rw [if_neg h1]
    obtain ⟨b, a1, s1, e1, g1, b0, b1⟩ := next_ev hl (s := s) h (by omega)
    rw [e1]
    simp only [Option.bind_some]
    by_cases h2 : c > 200
    · rw [if_pos h2]
      obtain ⟨b', a2, s2, e2, g2, c0, c1⟩ := next_ev hl (s := s1) g1 (by omega)
      rw [e2]
      simp only [Option.bind_some]
      rw [if_neg (by omega), w64 (x := b * 256) (by omega) (by omega), w64 (x := b * 256 + b') (by omega) (by omega)]
      have := tmod_lt (b := b * 256 + b') (n := c) (by omega) (by omega)
      exact ⟨_, _, _, rfl, g2, this.1, fun _ => this.2⟩
    · rw [if_neg h2, if_neg (by omega)]
      have := tmod_lt (b := b) (n := c) (by omega) (by omega)
      exact ⟨_, _, _, rfl, g1.le (by omega), this.1, fun _ => this.2⟩
theorem one_ev {l : List Int} (hl : isCodeB l) {n : Nat} {a s : Int} (h : At n a) (hn : n ≤ 1000000000) (c : Int) : ∃ b a' s', spec_l1Cur_one.f l a s c = some (b, a', s') ∧ At (n + 2) a' := by
  unfold spec_l1Cur_one.f
  obtain ⟨b, a1, s1, e1, g1, _⟩ := pick_ev hl (s := s) h hn c
  rw [e1]
  exact ⟨_, _, _, rfl, g1⟩
theorem of_ev {l : List Int} (hl : isCodeB l) {n : Nat} {a s : Int} (h : At n a) (hn : n ≤ 1000000000) (ts : List ByteArray) (ht : 0 < ts.length) : ∃ b a' s', spec_l1Cur_of.f l a s ts = some (b, a', s') ∧ At (n + 2) a' ∧ b ∈ ts := by
  unfold spec_l1Cur_of.f
  obtain ⟨b, a1, s1, e1, g1, b0, b1⟩ := pick_ev hl (s := s) h hn (ts.length : Int)
  have hb := b1 (by omega)
  rw [e1]
  simp only [Option.bind_some]
  rw [if_pos b0, if_pos hb]
  refine ⟨_, _, _, rfl, g1, ?_⟩
  obtain ⟨i, rfl⟩ : ∃ i : Nat, b = i := ⟨b.toNat, by omega⟩
  exact getD_mem (by omega) _
theorem among_ev {l : List Int} (hl : isCodeB l) {n : Nat} {a s : Int} (h : At n a) (hn : n ≤ 1000000000) (ts : List Int) (ht : 0 < ts.length) : ∃ b a' s', spec_l1Cur_among.f l a s ts = some (b, a', s') ∧ At (n + 2) a' ∧ b ∈ ts := by
  unfold spec_l1Cur_among.f
  obtain ⟨b, a1, s1, e1, g1, b0, b1⟩ := pick_ev hl (s := s) h hn (ts.length : Int)
  have hb := b1 (by omega)
  rw [e1]
  simp only [Option.bind_some]
  rw [if_pos b0, if_pos hb]
  refine ⟨_, _, _, rfl, g1, ?_⟩
  obtain ⟨i, rfl⟩ : ∃ i : Nat, b = i := ⟨b.toNat, by omega⟩
  exact getD_mem (by omega) _
theorem spoilt_ev {l : List Int} (hl : isCodeB l) {n : Nat} {a s : Int} (h : At n a) (hn : n ≤ 1000000) (t w : ByteArray) (ht : t.size ≤ 1000000000) (hw0 : 0 < w.size) (hw1 : w.size ≤ 1000000) : ∃ b a' s', spec_l1Cur_spoilt.f l a s t w = some (b, a', s') ∧ At (n + 6) a' ∧ b.size ≤ t.size + w.size + 1 := by
  unfold spec_l1Cur_spoilt.f
  have hex : ∀ (x : ByteArray) (i j : Nat), (x.extract i j).size = min j x.size - i := fun x i j => ByteArray.size_extract
  by_cases h1 : t.toList = ([] : List UInt8)
  · rw [if_pos h1, if_pos (by decide), if_pos (by omega)]
    exact ⟨_, _, _, rfl, h.le (by omega), by rw [hex]; omega⟩
  · rw [if_neg h1]
    have ht0 : 0 < t.size := by
      rcases Nat.eq_zero_or_pos t.size with h2 | h2
      · exact absurd (bytes_nil.2 (List.eq_nil_of_length_eq_zero (by rw [bytes_size]; exact h2))) h1
      · exact h2
    obtain ⟨i, a1, s1, e1, g1, i0, i1⟩ := pick_ev hl (s := s) h (by omega) (t.size : Int)
    obtain ⟨j, a2, s2, e2, g2, j0, j1⟩ := pick_ev hl (s := s1) g1 (by omega) (w.size : Int)
    obtain ⟨c, a3, s3, e3, g3, c0, c1⟩ := pick_ev hl (s := s2) g2 (by omega) 3
    have hi := i1 (by omega)
    have hj := j1 (by omega)
    rw [e1]; simp only [Option.bind_some]
    rw [e2]; simp only [Option.bind_some]
    rw [if_pos j0, if_pos (by omega), if_pos (by decide), if_pos (by rw [hex]; omega), e3]
    simp only [Option.bind_some]
    rw [w64 (x := i + 1) (by omega) (by omega)]
    by_cases h2 : c = 0
    · rw [if_pos h2, if_pos i0, if_pos (by omega), if_pos (by simp only [hex]; omega), if_pos (by simp only [hex, ByteArray.size_append]; omega)]
      exact ⟨_, _, _, rfl, g3, by simp only [hex, ByteArray.size_append]; omega⟩
    · rw [if_neg h2]
      by_cases h3 : c = 1
      · rw [if_pos h3, if_pos i0, if_pos (by omega), if_pos (by simp only [hex]; omega), if_pos (by omega), if_pos (by omega), if_pos (by simp only [hex, ByteArray.size_append]; omega)]
        exact ⟨_, _, _, rfl, g3, by simp only [hex, ByteArray.size_append]; omega⟩
      · rw [if_neg h3]
        first
        | (rw [if_pos i0, if_pos (by omega), if_pos (by omega), if_pos (by omega), if_pos (by simp only [hex]; omega)]; exact ⟨_, _, _, rfl, g3, by simp only [hex, ByteArray.size_append]; omega⟩)
        | (repeat rw [if_pos (by first | omega | (simp only [hex]; omega) | (simp only [hex, ByteArray.size_append]; omega))]); exact ⟨_, _, _, rfl, g3, by simp only [hex, ByteArray.size_append]; omega⟩
end Go.Proofs.YtcplbbflfgckbaaGreatDoor.Pl
set_option linter.unusedVariables false
set_option linter.unusedSimpArgs false
namespace Go.Proofs.YtcplbbflfgckbaaGreatDoor.Pl
open Go.RowKit Go.Proofs.YtcplbbflfgckbaaGreatDoorW.PrintWords Go.Proofs.YtcplbbflfgckbaaGreatDoorW.PrintLast Go.Proofs.YtcplbbflfgckbaaGreatDoorW.PrintMore Go.Proofs.YtcplbbflfgckbaaGreatDoor.X

/-- F draws an x that is so; behind it the draw stands at most at n. -/
def Dr {α : Type} (F : Nat → Option (α × Int × Int)) (n : Nat) (Q : α → Prop) : Prop := ∃ x a s, Ev F (x, a, s) ∧ At n a ∧ Q x
section
variable {α β : Type} {F A B : Nat → Option (α × Int × Int)} {n m : Nat} {Q : α → Prop}
theorem Dr.bind {G : Nat → α × Int × Int → Option (β × Int × Int)} {R : β → Prop} (h : Dr F n Q) (hg : ∀ x a s, At n a → Q x → Dr (fun k => G k (x, a, s)) m R) : Dr (fun k => (F k).bind (G k)) m R := by
  obtain ⟨x, a, s, h1, h2, h3⟩ := h
  obtain ⟨y, b, t, g1, g2, g3⟩ := hg x a s h2 h3
  exact ⟨y, b, t, Ev.bind h1 g1, g2, g3⟩
theorem Dr.fin {γ : Type} {G : Nat → α × Int × Int → Option γ} {R : γ → Prop} (h : Dr F n Q) (hg : ∀ x a s, At n a → Q x → ∃ r, Ev (fun k => G k (x, a, s)) r ∧ R r) : ∃ r, Ev (fun k => (F k).bind (G k)) r ∧ R r := by
  obtain ⟨x, a, s, h1, h2, h3⟩ := h
  obtain ⟨r, g1, g2⟩ := hg x a s h2 h3
  exact ⟨r, Ev.bind h1 g1, g2⟩
/-- A step that draws nothing. -/
theorem Dr.ev {γ : Type} {C : Nat → Option γ} {c : γ} {G : Nat → γ → Option (α × Int × Int)} (h : Ev C c) (hg : Dr (fun k => G k c) n Q) : Dr (fun k => (C k).bind (G k)) n Q := by
  obtain ⟨y, b, t, g1, g2, g3⟩ := hg
  exact ⟨y, b, t, Ev.bind h g1, g2, g3⟩
theorem Dr.le {R : α → Prop} (h : Dr F n Q) (hm : n ≤ m) (hR : ∀ x, Q x → R x) : Dr F m R := by
  obtain ⟨x, a, s, h1, h2, h3⟩ := h
  exact ⟨x, a, s, h1, h2.le hm, hR x h3⟩
theorem Dr.ret {x : α} {a s : Int} (h : At n a) (hx : Q x) : Dr (fun _ => some (x, a, s)) n Q := ⟨x, a, s, ev_eq rfl, h, hx⟩
theorem Dr.pos {c : Prop} [Decidable c] (hc : c) (h : Dr A n Q) : Dr (fun k => if c then A k else B k) n Q := by
  obtain ⟨x, a, s, h1, h2, h3⟩ := h
  exact ⟨x, a, s, ev_pos hc h1, h2, h3⟩
theorem Dr.neg {c : Prop} [Decidable c] (hc : ¬ c) (h : Dr B n Q) : Dr (fun k => if c then A k else B k) n Q := by
  obtain ⟨x, a, s, h1, h2, h3⟩ := h
  exact ⟨x, a, s, ev_neg hc h1, h2, h3⟩
theorem Dr.ite {c : Prop} [Decidable c] (hp : c → Dr A n Q) (hn : ¬ c → Dr B n Q) : Dr (fun k => if c then A k else B k) n Q := by
  by_cases hc : c
  · exact (hp hc).pos hc
  · exact (hn hc).neg hc
theorem Dr.step {G : Nat → Option (α × Int × Int)} (e : ∀ k, F (k + 1) = G k) (h : Dr G n Q) : Dr F n Q := by
  obtain ⟨x, a, s, h1, h2, h3⟩ := h
  exact ⟨x, a, s, Ev.step e h1, h2, h3⟩
end
theorem ev_eq' {α : Type} {x : Option α} {r : α} (h : x = some r) : Ev (fun _ => x) r := h ▸ Ev.now r
theorem small_mem' {ts : List ByteArray} {b : ByteArray} {m : Nat} (h : b ∈ ts) (hs : ts.all (fun t => decide (t.size ≤ m)) = true) : b.size ≤ m := of_decide_eq_true (List.all_eq_true.1 hs b h)
theorem pick_dr {l : List Int} (hl : isCodeB l) {n : Nat} {a s : Int} (h : At n a) (hn : n ≤ 1000000000) (c : Int) : Dr (fun _ => spec_l1Cur_pick.f l a s c) (n + 2) (fun b => 0 ≤ b ∧ (1 ≤ c → b < c)) := by
  obtain ⟨b, a1, s1, e, g, h1, h2⟩ := pick_ev hl (s := s) h hn c
  exact ⟨b, a1, s1, ev_eq' e, g, h1, h2⟩
theorem one_dr {l : List Int} (hl : isCodeB l) {n : Nat} {a s : Int} (h : At n a) (hn : n ≤ 1000000000) (c : Int) : Dr (fun _ => spec_l1Cur_one.f l a s c) (n + 2) (fun _ => True) := by
  obtain ⟨b, a1, s1, e, g⟩ := one_ev hl (s := s) h hn c
  exact ⟨b, a1, s1, ev_eq' e, g, trivial⟩
theorem of_dr {l : List Int} (hl : isCodeB l) {n : Nat} {a s : Int} (h : At n a) (hn : n ≤ 1000000000) (ts : List ByteArray) (ht : 0 < ts.length) : Dr (fun _ => spec_l1Cur_of.f l a s ts) (n + 2) (fun b => b ∈ ts) := by
  obtain ⟨b, a1, s1, e, g, h1⟩ := of_ev hl (s := s) h hn ts ht
  exact ⟨b, a1, s1, ev_eq' e, g, h1⟩
theorem among_dr {l : List Int} (hl : isCodeB l) {n : Nat} {a s : Int} (h : At n a) (hn : n ≤ 1000000000) (ts : List Int) (ht : 0 < ts.length) : Dr (fun _ => spec_l1Cur_among.f l a s ts) (n + 2) (fun b => b ∈ ts) := by
  obtain ⟨b, a1, s1, e, g, h1⟩ := among_ev hl (s := s) h hn ts ht
  exact ⟨b, a1, s1, ev_eq' e, g, h1⟩
theorem spoilt_dr {l : List Int} (hl : isCodeB l) {n : Nat} {a s : Int} (h : At n a) (hn : n ≤ 1000000) (t w : ByteArray) (ht : t.size ≤ 1000000000) (hw0 : 0 < w.size) (hw1 : w.size ≤ 1000000) : Dr (fun _ => spec_l1Cur_spoilt.f l a s t w) (n + 6) (fun b => b.size ≤ t.size + w.size + 1) := by
  obtain ⟨b, a1, s1, e, g, h1⟩ := spoilt_ev hl (s := s) h hn t w ht hw0 hw1
  exact ⟨b, a1, s1, ev_eq' e, g, h1⟩
theorem code_of_wf' {l : List Int} (h : ∀ y ∈ l, (Lit.int .u8 y).wf = true) : isCodeB l := fun y hy => by
  have := h y hy
  simp [Lit.wf, IntKind.min, IntKind.max, IntKind.signed, IntKind.bits] at this
  omega
end Go.Proofs.YtcplbbflfgckbaaGreatDoor.Pl
set_option linter.unusedVariables false
set_option linter.unusedSimpArgs false
namespace Go.Proofs.YtcplbbflfgckbaaGreatDoor.Pl
open Go.RowKit Go.Proofs.YtcplbbflfgckbaaGreatDoorW.PrintWords

abbrev Wd := List UInt8
def bw (s : ByteArray) : Wd := s.data.toList
def wb (l : Wd) : ByteArray := ⟨l.toArray⟩
theorem bw_wb (l : Wd) : bw (wb l) = l := by simp [bw, wb]
theorem wb_bw (s : ByteArray) : wb (bw s) = s := by simp [bw, wb]
theorem bw_inj {s t : ByteArray} (h : bw s = bw t) : s = t := by rw [← wb_bw s, h, wb_bw]
theorem bw_size (s : ByteArray) : (bw s).length = s.size := Array.length_toList
theorem wb_size (l : Wd) : (wb l).size = l.length := by simp [wb, ByteArray.size]
theorem toList_bw (s : ByteArray) : s.toList = bw s := toList_bytes s
/-! ### the order -/
theorem lt_irr (a : Wd) : ¬ a < a := List.lt_irrefl a
theorem lt_tr {a b c : Wd} (h1 : a < b) (h2 : b < c) : a < c := List.lt_trans h1 h2
theorem lt_tri (a b : Wd) : a < b ∨ a = b ∨ b < a := by
  by_cases h1 : a < b
  · exact .inl h1
  · by_cases h2 : b < a
    · exact .inr (.inr h2)
    · exact .inr (.inl (List.le_antisymm (List.not_lt.1 h2) (List.not_lt.1 h1)))
theorem le_of_lt' {a b : Wd} (h : a < b) : a ≤ b := List.le_of_lt h
theorem le_iff (a b : Wd) : a ≤ b ↔ a < b ∨ a = b := by
  constructor
  · intro h
    rcases lt_tri a b with h1 | h1 | h1
    · exact .inl h1
    · exact .inr h1
    · exact absurd h1 (List.not_lt.2 h)
  · rintro (h | rfl)
    · exact le_of_lt' h
    · exact List.le_refl _
theorem lt_append (a : Wd) (x : UInt8) (b : Wd) : a < a ++ x :: b := by
  induction a with
  | nil => exact List.Lex.nil
  | cons y a ih => exact List.Lex.cons ih
theorem lt_take {w : Wd} {n : Nat} (h : n < w.length) : w.take n < w := by
  have e : w = w.take n ++ w[n] :: w.drop (n + 1) := by rw [← List.drop_eq_getElem_cons h, List.take_append_drop]
  exact Eq.mp (congrArg (fun z => w.take n < z) e.symm) (lt_append _ _ _)
/-! ### sorted, each once -/
def SS (l : List Wd) : Prop := l.Pairwise (· < ·)
theorem SS.ext : ∀ {l m : List Wd}, SS l → SS m → (∀ x, x ∈ l ↔ x ∈ m) → l = m
  | [], [], _, _, _ => rfl
  | [], y :: m, _, _, h => absurd ((h y).2 List.mem_cons_self) (by simp)
  | x :: l, [], _, _, h => absurd ((h x).1 List.mem_cons_self) (by simp)
  | x :: l, y :: m, hl, hm, h => by
    have hl' := List.pairwise_cons.1 hl
    have hm' := List.pairwise_cons.1 hm
    have e : x = y := by
      rcases lt_tri x y with h1 | h1 | h1
      · rcases List.mem_cons.1 ((h x).1 List.mem_cons_self) with rfl | h2
        · rfl
        · exact absurd (lt_tr h1 (hm'.1 x h2)) (lt_irr _)
      · exact h1
      · rcases List.mem_cons.1 ((h y).2 List.mem_cons_self) with rfl | h2
        · rfl
        · exact absurd (lt_tr h1 (hl'.1 y h2)) (lt_irr _)
    subst e
    congr 1
    refine SS.ext hl'.2 hm'.2 fun z => ⟨fun hz => ?_, fun hz => ?_⟩
    · rcases List.mem_cons.1 ((h z).1 (List.mem_cons_of_mem _ hz)) with rfl | h2
      · exact absurd (hl'.1 z hz) (lt_irr _)
      · exact h2
    · rcases List.mem_cons.1 ((h z).2 (List.mem_cons_of_mem _ hz)) with rfl | h2
      · exact absurd (hm'.1 z hz) (lt_irr _)
      · exact h2
/-- A word put to its place, once. -/
def ins : List Wd → Wd → List Wd
  | [], w => [w]
  | x :: l, w => if x < w then x :: ins l w else if x = w then x :: l else w :: x :: l
theorem mem_ins (l : List Wd) (w x : Wd) : x ∈ ins l w ↔ x = w ∨ x ∈ l := by
  induction l with
  | nil => simp [ins]
  | cons y l ih =>
    unfold ins
    by_cases h1 : y < w
    · rw [if_pos h1, List.mem_cons, ih, List.mem_cons]
      constructor
      · rintro (h | h | h)
        · exact .inr (.inl h)
        · exact .inl h
        · exact .inr (.inr h)
      · rintro (h | h | h)
        · exact .inr (.inl h)
        · exact .inl h
        · exact .inr (.inr h)
    · rw [if_neg h1]
      by_cases h2 : y = w
      · rw [if_pos h2]; subst h2; simp
      · rw [if_neg h2]; simp
theorem ins_SS {l : List Wd} (h : SS l) (w : Wd) : SS (ins l w) := by
  induction l with
  | nil => simp [ins, SS]
  | cons y l ih =>
    have h' := List.pairwise_cons.1 h
    unfold ins
    by_cases h1 : y < w
    · rw [if_pos h1]
      refine List.pairwise_cons.2 ⟨fun z hz => ?_, ih h'.2⟩
      rcases (mem_ins l w z).1 hz with rfl | hz
      · exact h1
      · exact h'.1 z hz
    · rw [if_neg h1]
      by_cases h2 : y = w
      · rw [if_pos h2]; exact h
      · rw [if_neg h2]
        have h3 : w < y := by
          rcases lt_tri y w with h4 | h4 | h4
          · exact absurd h4 h1
          · exact absurd h4 h2
          · exact h4
        refine List.pairwise_cons.2 ⟨fun z hz => ?_, h⟩
        rcases List.mem_cons.1 hz with rfl | hz
        · exact h3
        · exact lt_tr h3 (h'.1 z hz)
/-- The words of a list, sorted, each once. -/
def setW (l : List Wd) : List Wd := Lib.compact (l.mergeSort fun x y => decide (x ≤ y))
theorem sorted_le (l : List Wd) : (l.mergeSort fun x y => decide (x ≤ y)).Pairwise (· ≤ ·) := by
  have h := List.pairwise_mergeSort (le := fun x y : Wd => decide (x ≤ y)) (fun a b c h1 h2 => by
    simp only [decide_eq_true_eq] at h1 h2 ⊢; exact List.le_trans h1 h2) (fun a b => by
    simp only [Bool.or_eq_true, decide_eq_true_eq]; exact List.le_total a b) l
  exact h.imp (fun h => by simpa using h)
theorem getE_eq {l : List Wd} {i : Nat} (h : i < l.length) : l.toArray[i]! = l[i] := by
  rw [getElem!_pos l.toArray i (by simpa using h)]; simp
theorem mem_compact (l : List Wd) (x : Wd) : x ∈ Lib.compact l ↔ x ∈ l := by
  unfold Lib.compact Lib.compactUpTo
  rw [List.mem_map]
  constructor
  · rintro ⟨i, hi, rfl⟩
    have hi' := List.mem_range.1 (List.mem_filter.1 hi).1
    rw [getE_eq hi']
    exact List.getElem_mem hi'
  · intro hx
    obtain ⟨n, hn, hnx⟩ := List.getElem_of_mem hx
    have key : ∀ d n (hn : n < l.length), n ≤ d → l[n] = x → ∃ i, i ∈ (List.range l.length).filter (Lib.keeps l.toArray) ∧ l.toArray[i]! = x := by
      intro d
      induction d with
      | zero =>
        intro n hn hd he
        obtain rfl : n = 0 := by omega
        exact ⟨0, List.mem_filter.2 ⟨List.mem_range.2 hn, by simp [Lib.keeps]⟩, by rw [getE_eq hn]; exact he⟩
      | succ d ih =>
        intro n hn hd he
        by_cases hk : Lib.keeps l.toArray n = true
        · exact ⟨n, List.mem_filter.2 ⟨List.mem_range.2 hn, hk⟩, by rw [getE_eq hn]; exact he⟩
        · have h0 : n ≠ 0 := fun e => hk (by subst e; simp [Lib.keeps])
          have h1 : l.toArray[n]! = l.toArray[n - 1]! := by
            simp only [Lib.keeps, decide_eq_true_eq, not_or, Classical.not_not] at hk
            exact hk.2
          rw [getE_eq hn, getE_eq (by omega : n - 1 < l.length)] at h1
          exact ih (n - 1) (by omega) (by omega) (h1.symm.trans he)
    exact key n n hn (Nat.le_refl _) hnx
theorem compact_SS {l : List Wd} (h : l.Pairwise (· ≤ ·)) : SS (Lib.compact l) := by
  unfold SS Lib.compact Lib.compactUpTo
  rw [List.pairwise_map]
  have hr : ((List.range l.length).filter (Lib.keeps l.toArray)).Pairwise (· < ·) := List.pairwise_lt_range.filter _
  refine List.Pairwise.imp_of_mem ?_ hr
  intro i j hi hj hij
  have hi' := List.mem_range.1 (List.mem_filter.1 hi).1
  have hj' := List.mem_range.1 (List.mem_filter.1 hj).1
  have hk := (List.mem_filter.1 hj).2
  rw [getE_eq hi', getE_eq hj']
  have mono : ∀ a b (ha : a < l.length) (hb : b < l.length), a ≤ b → l[a] ≤ l[b] := by
    intro a b ha hb hab
    rcases Nat.lt_or_ge a b with h1 | h1
    · exact List.pairwise_iff_getElem.1 h a b ha hb h1
    · obtain rfl : a = b := by omega
      exact List.le_refl _
  rcases (le_iff _ _).1 (mono i j hi' hj' (by omega)) with h1 | h1
  · exact h1
  · exfalso
    have h2 := mono i (j - 1) hi' (by omega) (by omega)
    have h3 := mono (j - 1) j (by omega) hj' (by omega)
    have e : l[j] = l[j - 1]'(by omega) := by
      rw [h1] at h2
      exact List.le_antisymm h2 h3
    simp only [Lib.keeps, decide_eq_true_eq] at hk
    rw [getE_eq hj', getE_eq (by omega : j - 1 < l.length)] at hk
    rcases hk with hk | hk
    · omega
    · exact hk e
theorem setW_SS (l : List Wd) : SS (setW l) := compact_SS (sorted_le l)
theorem mem_setW (l : List Wd) (x : Wd) : x ∈ setW l ↔ x ∈ l := by
  unfold setW
  rw [mem_compact, List.mem_mergeSort]
theorem setW_length (l : List Wd) : (setW l).length ≤ l.length := by
  unfold setW
  have := Lib.compact_length_le (l.mergeSort fun x y => decide (x ≤ y))
  rwa [List.length_mergeSort] at this
theorem setW_of_SS {l : List Wd} (h : SS l) : setW l = l := (setW_SS l).ext h (fun x => mem_setW l x)
theorem SS.nodup {l : List Wd} (h : SS l) : l.Nodup := h.imp (fun h e => by subst e; exact lt_irr _ h)
/-! ### beginnings -/
/-- All beginnings of a word but the empty one. -/
def inits (w : Wd) : List Wd := (List.range w.length).map fun n => w.take (n + 1)
theorem mem_inits (w p : Wd) : p ∈ inits w ↔ p <+: w ∧ p ≠ [] := by
  unfold inits
  rw [List.mem_map]
  constructor
  · rintro ⟨n, hn, rfl⟩
    have hn := List.mem_range.1 hn
    refine ⟨List.take_prefix _ _, fun e => ?_⟩
    have := congrArg List.length e
    rw [List.length_take, List.length_nil] at this
    omega
  · rintro ⟨h, hne⟩
    have hl := h.length_le
    have h0 : 0 < p.length := List.length_pos_iff.2 hne
    exact ⟨p.length - 1, List.mem_range.2 (by omega), by rw [Nat.sub_add_cancel h0]; exact (List.prefix_iff_eq_take.1 h).symm⟩
/-- The beginnings of all words, the empty one too, sorted. -/
def prefs (ws : List Wd) : List Wd := setW ([] :: ws.flatMap inits)
theorem mem_prefs (ws : List Wd) (p : Wd) : p ∈ prefs ws ↔ p = [] ∨ ∃ w ∈ ws, p <+: w := by
  unfold prefs
  rw [mem_setW, List.mem_cons, List.mem_flatMap]
  constructor
  · rintro (h | ⟨w, hw, h⟩)
    · exact .inl h
    · exact .inr ⟨w, hw, ((mem_inits w p).1 h).1⟩
  · rintro (h | ⟨w, hw, h⟩)
    · exact .inl h
    · by_cases e : p = []
      · exact .inl e
      · exact .inr ⟨w, hw, (mem_inits w p).2 ⟨h, e⟩⟩
theorem prefs_SS (ws : List Wd) : SS (prefs ws) := setW_SS _
theorem prefs_congr {ws vs : List Wd} (h : ∀ x, x ∈ ws ↔ x ∈ vs) : prefs ws = prefs vs :=
  (prefs_SS ws).ext (prefs_SS vs) (fun p => by
    rw [mem_prefs, mem_prefs]
    exact or_congr Iff.rfl ⟨fun ⟨w, hw, hp⟩ => ⟨w, (h w).1 hw, hp⟩, fun ⟨w, hw, hp⟩ => ⟨w, (h w).2 hw, hp⟩⟩)
theorem flat_length {ws : List Wd} {m : Nat} (h : ∀ w ∈ ws, w.length ≤ m) : (ws.flatMap inits).length ≤ ws.length * m := by
  induction ws with
  | nil => simp
  | cons w ws ih =>
    rw [List.flatMap_cons, List.length_append, List.length_cons, Nat.add_mul, Nat.one_mul]
    have h1 := h w List.mem_cons_self
    have h2 := ih (fun v hv => h v (List.mem_cons_of_mem _ hv))
    have h3 : (inits w).length = w.length := by simp [inits]
    omega
theorem prefs_length {ws : List Wd} {m : Nat} (h : ∀ w ∈ ws, w.length ≤ m) : (prefs ws).length ≤ ws.length * m + 1 := by
  have h1 := setW_length ([] :: ws.flatMap inits)
  have h2 := flat_length h
  unfold prefs
  rw [List.length_cons] at h1
  omega
theorem dropLast_prefix' {p w : Wd} (h : p <+: w) : p.dropLast <+: w := (List.dropLast_prefix p).trans h
theorem dropLast_mem {ws : List Wd} {p : Wd} (h : p ∈ prefs ws) : p.dropLast ∈ prefs ws := by
  rw [mem_prefs] at h ⊢
  rcases h with rfl | ⟨w, hw, hp⟩
  · exact .inl rfl
  · exact .inr ⟨w, hw, dropLast_prefix' hp⟩
theorem dropLast_lt {p : Wd} (h : p ≠ []) : p.dropLast < p := by
  rw [List.dropLast_eq_take]
  exact lt_take (by have := List.length_pos_iff.2 h; omega)
theorem prefs_head (ws : List Wd) : ∃ l, prefs ws = [] :: l := by
  have h := prefs_SS ws
  have h0 : ([] : Wd) ∈ prefs ws := (mem_prefs ws []).2 (.inl rfl)
  cases e : prefs ws with
  | nil => rw [e] at h0; simp at h0
  | cons x l =>
    refine ⟨l, ?_⟩
    rw [e] at h h0
    rcases List.mem_cons.1 h0 with h1 | h1
    · rw [h1]
    · exact absurd ((List.pairwise_cons.1 h).1 [] h1) (List.not_lt_nil x)
/-- Where a word stands in a sorted list. -/
theorem SS.idx_lt {l : List Wd} (h : SS l) {i j : Nat} (hi : i < l.length) (hj : j < l.length) (hlt : l[i] < l[j]) : i < j := by
  rcases Nat.lt_or_ge i j with h1 | h1
  · exact h1
  · rcases Nat.lt_or_ge j i with h2 | h2
    · exact absurd (lt_tr hlt (List.pairwise_iff_getElem.1 h j i hj hi h2)) (lt_irr _)
    · obtain rfl : i = j := by omega
      exact absurd hlt (lt_irr _)
end Go.Proofs.YtcplbbflfgckbaaGreatDoor.Pl
set_option linter.unusedVariables false
set_option linter.unusedSimpArgs false
namespace Go.Proofs.YtcplbbflfgckbaaGreatDoor.Pl
open Go.RowKit Go.Proofs.YtcplbbflfgckbaaGreatDoorW.PrintWords Go.Proofs.YtcplbbflfgckbaaGreatDoor.X

abbrev ND := S74
instance : DecidableEq ND := fun a b => decidable_of_iff (a.f0 = b.f0 ∧ a.f1 = b.f1 ∧ a.f2 = b.f2) ⟨fun ⟨h1, h2, h3⟩ => by cases a; cases b; simp at h1 h2 h3; subst h1; subst h2; subst h3; rfl, fun h => by subst h; exact ⟨rfl, rfl, rfl⟩⟩
def zND : ND := ⟨0, 0, false⟩
/-- The letter of a node, as a byte. -/
def letterB (c : Int) : UInt8 := UInt8.ofNat (97 + c.toNat)
/-- The letter of a beginning, as a number. -/
def ltr (p : Wd) : Int := (((p.getLast?.getD 0).toNat : Int) - 97) % 256
def nodeOf (ws ps : List Wd) (p : Wd) : ND := if p = [] then ⟨-1, -1, decide (p ∈ ws)⟩ else ⟨ltr p, (ps.idxOf p.dropLast : Int), decide (p ∈ ws)⟩
/-- The trie of words. -/
def trie (ws : List Wd) : List ND := (prefs ws).map (nodeOf ws (prefs ws))
theorem trie_congr {ws vs : List Wd} (h : ∀ x, x ∈ ws ↔ x ∈ vs) : trie ws = trie vs := by
  unfold trie
  rw [prefs_congr h]
  refine List.map_congr_left fun p _ => ?_
  unfold nodeOf
  rw [show decide (p ∈ ws) = decide (p ∈ vs) from by rw [decide_eq_decide]; exact h p]
theorem trie_length (ws : List Wd) : (trie ws).length = (prefs ws).length := by simp [trie]
/-- The prefixes of nodes, each put together behind those ahead of it; none if a node is out of order. -/
def goP : List Wd → List ND → Option (List Wd)
  | out, [] => some out
  | out, n :: ns => if 0 ≤ n.f1 ∧ n.f1 < (out.length : Int) ∧ 0 ≤ n.f0 ∧ n.f0 ≤ 25 then goP (out ++ [out.getD n.f1.toNat [] ++ [letterB n.f0]]) ns else none
def prefP (t : List ND) : Option (List Wd) := if 1 ≤ t.length ∧ t.length ≤ 481 then goP [[]] (t.drop 1) else none
theorem goP_spec : ∀ {ns : List ND} {out P : List Wd}, goP out ns = some P → P.take out.length = out ∧ P.length = out.length + ns.length ∧
    ∀ j (hj : j < ns.length), 0 ≤ ns[j].f1 ∧ ns[j].f1 < ((out.length + j : Nat) : Int) ∧ 0 ≤ ns[j].f0 ∧ ns[j].f0 ≤ 25 ∧ P.getD (out.length + j) [] = P.getD ns[j].f1.toNat [] ++ [letterB ns[j].f0]
  | [], out, P, h => by
    cases h
    exact ⟨List.take_length, rfl, fun j hj => absurd hj (Nat.not_lt_zero _)⟩
  | n :: ns, out, P, h => by
    unfold goP at h
    by_cases hc : 0 ≤ n.f1 ∧ n.f1 < (out.length : Int) ∧ 0 ≤ n.f0 ∧ n.f0 ≤ 25
    case neg => rw [if_neg hc] at h; cases h
    rw [if_pos hc] at h
    obtain ⟨h1, h2, h3⟩ := goP_spec h
    rw [List.length_append, List.length_singleton] at h1 h2 h3
    have ho : P.take out.length = out := by
      have := congrArg (List.take out.length) h1
      rwa [List.take_take, List.take_left, Nat.min_eq_left (by omega)] at this
    have hat : ∀ i, i < out.length → P.getD i [] = out.getD i [] := by
      intro i hi
      rw [← ho]
      simp only [List.getD_eq_getElem?_getD]
      rw [List.getElem?_take_of_lt hi]
    refine ⟨ho, by rw [h2, List.length_cons]; omega, fun j hj => ?_⟩
    cases j with
    | zero =>
      refine ⟨hc.1, by simpa using hc.2.1, hc.2.2.1, hc.2.2.2, ?_⟩
      have e : P.getD out.length [] = out.getD n.f1.toNat [] ++ [letterB n.f0] := by
        have := congrArg (fun l => l.getD out.length []) h1
        simp only [List.getD_eq_getElem?_getD] at this
        rw [List.getElem?_take_of_lt (by omega), List.getElem?_append_right (Nat.le_refl _)] at this
        simpa using this
      rw [Nat.add_zero, e, List.getElem_cons_zero, hat _ (by omega)]
    | succ j =>
      have := h3 j (by simpa using hj)
      rw [List.getElem_cons_succ]
      rw [show out.length + (j + 1) = out.length + 1 + j by omega]
      exact this
theorem prefP_spec {t : List ND} {P : List Wd} (h : prefP t = some P) : 1 ≤ t.length ∧ t.length ≤ 481 ∧ P.length = t.length ∧ P.getD 0 [] = [] ∧
    ∀ i, 0 < i → (hi : i < t.length) → 0 ≤ t[i].f1 ∧ t[i].f1 < (i : Int) ∧ 0 ≤ t[i].f0 ∧ t[i].f0 ≤ 25 ∧ P.getD i [] = P.getD t[i].f1.toNat [] ++ [letterB t[i].f0] := by
  unfold prefP at h
  by_cases hc : 1 ≤ t.length ∧ t.length ≤ 481
  case neg => rw [if_neg hc] at h; cases h
  rw [if_pos hc] at h
  obtain ⟨h1, h2, h3⟩ := goP_spec h
  rw [List.length_singleton] at h1 h2 h3
  rw [List.length_drop] at h2
  refine ⟨hc.1, hc.2, by omega, ?_, fun i h0 hi => ?_⟩
  · have := congrArg (fun l => l.getD 0 []) h1
    simp only [List.getD_eq_getElem?_getD] at this
    rw [List.getElem?_take_of_lt (by omega)] at this
    simpa using this
  · obtain ⟨j, rfl⟩ : ∃ j, i = j + 1 := ⟨i - 1, by omega⟩
    have := h3 j (by rw [List.length_drop]; omega)
    simp only [List.getElem_drop] at this
    simp only [Nat.add_comm 1 j] at this
    exact this
/-- A word of letters. -/
def okW (w : Wd) : Prop := w.length ≤ 12 ∧ ∀ b ∈ w, 97 ≤ b.toNat ∧ b.toNat ≤ 122
theorem ltr_range {p : Wd} (h : p ≠ []) (hb : ∀ b ∈ p, 97 ≤ b.toNat ∧ b.toNat ≤ 122) : 0 ≤ ltr p ∧ ltr p ≤ 25 ∧ letterB (ltr p) = p.getLast h := by
  have e : p.getLast?.getD 0 = p.getLast h := by rw [List.getLast?_eq_some_getLast h]; rfl
  have hr := hb (p.getLast h) (List.getLast_mem h)
  have hl : ltr p = ((p.getLast h).toNat : Int) - 97 := by
    unfold ltr
    rw [e]; omega
  refine ⟨by omega, by omega, ?_⟩
  unfold letterB
  rw [hl, show 97 + (((p.getLast h).toNat : Int) - 97).toNat = (p.getLast h).toNat by omega]
  exact UInt8.ofNat_toNat
theorem prefs_okW {ws : List Wd} (h : ∀ w ∈ ws, okW w) {p : Wd} (hp : p ∈ prefs ws) : okW p := by
  rcases (mem_prefs ws p).1 hp with rfl | ⟨w, hw, hpw⟩
  · exact ⟨by simp, by simp⟩
  · have hw' := h w hw
    exact ⟨Nat.le_trans hpw.length_le hw'.1, fun b hb => hw'.2 b (hpw.subset hb)⟩
theorem trie_bound {ws : List Wd} (h : ∀ w ∈ ws, okW w) (hl : ws.length ≤ 40) : 1 ≤ (trie ws).length ∧ (trie ws).length ≤ 481 := by
  rw [trie_length]
  obtain ⟨l, e⟩ := prefs_head ws
  have h1 := prefs_length (ws := ws) (m := 12) (fun w hw => (h w hw).1)
  have h2 : (prefs ws).length = l.length + 1 := by rw [e]; rfl
  have h3 : ws.length * 12 ≤ 40 * 12 := Nat.mul_le_mul_right _ hl
  omega
/-- The prefixes of a trie of words are the words' beginnings. -/
theorem prefP_trie {ws : List Wd} (h : ∀ w ∈ ws, okW w) (hl : ws.length ≤ 40) : prefP (trie ws) = some (prefs ws) := by
  unfold prefP
  rw [if_pos (trie_bound h hl)]
  have hS := prefs_SS ws
  have key : ∀ d k, (prefs ws).length - k = d → 1 ≤ k → k ≤ (prefs ws).length → goP ((prefs ws).take k) ((trie ws).drop k) = some (prefs ws) := by
    intro d
    induction d with
    | zero =>
      intro k hd h1 hk
      rw [List.drop_of_length_le (by rw [trie_length]; omega), List.take_of_length_le (by omega)]
      rfl
    | succ d ih =>
      intro k hd h1 hk
      have hk' : k < (prefs ws).length := by omega
      have hk2 : k < (trie ws).length := by rw [trie_length]; exact hk'
      rw [List.drop_eq_getElem_cons hk2]
      have hne : (prefs ws)[k] ≠ [] := by
        intro e
        have h0 : (prefs ws)[0]'(by omega) < (prefs ws)[k] := List.pairwise_iff_getElem.1 hS 0 k (by omega) hk' (by omega)
        rw [e] at h0
        exact List.not_lt_nil _ h0
      have hn : (trie ws)[k] = nodeOf ws (prefs ws) (prefs ws)[k] := by simp [trie]
      have hmem := List.getElem_mem hk'
      have hdm := dropLast_mem hmem
      have hj := List.idxOf_lt_length_of_mem hdm
      have hjv : (prefs ws)[(prefs ws).idxOf (prefs ws)[k].dropLast] = (prefs ws)[k].dropLast := List.getElem_idxOf hj
      have hjk : (prefs ws).idxOf (prefs ws)[k].dropLast < k := hS.idx_lt hj hk' (by rw [hjv]; exact dropLast_lt hne)
      obtain ⟨r1, r2, r3⟩ := ltr_range hne (prefs_okW h hmem).2
      have hlen : ((prefs ws).take k).length = k := by rw [List.length_take]; omega
      unfold goP
      rw [hn]
      unfold nodeOf
      rw [if_neg hne]
      rw [if_pos ⟨Int.natCast_nonneg _, by rw [hlen]; exact Int.ofNat_lt.2 hjk, r1, r2⟩]
      have e : ((prefs ws).take k).getD (((prefs ws).idxOf (prefs ws)[k].dropLast : Nat) : Int).toNat [] ++ [letterB (ltr (prefs ws)[k])] = (prefs ws)[k] := by
        rw [r3, Int.toNat_natCast, List.getD_eq_getElem?_getD, List.getElem?_take_of_lt hjk, List.getElem?_eq_getElem hj, Option.getD_some, hjv]
        exact List.dropLast_concat_getLast hne
      rw [e, ← List.take_succ_eq_append_getElem hk']
      exact ih (k + 1) (by omega) (by omega) hk'
  obtain ⟨l, e⟩ := prefs_head ws
  have h1 := key _ 1 rfl (Nat.le_refl _) (by rw [e]; simp)
  rwa [show (prefs ws).take 1 = [[]] by rw [e]; rfl] at h1
/-- The words of a trie. -/
def wordsP (t : List ND) (P : List Wd) : List Wd := ((List.range t.length).filter fun i => (t.getD i zND).f2).map fun i => P.getD i []
theorem wordsP_trie {ws : List Wd} (h : SS ws) : wordsP (trie ws) (prefs ws) = ws := by
  have e : wordsP (trie ws) (prefs ws) = (prefs ws).filter fun p => decide (p ∈ ws) := by
    unfold wordsP
    rw [trie_length]
    have e1 : (List.range (prefs ws).length).filter (fun i => ((trie ws).getD i zND).f2) = (List.range (prefs ws).length).filter ((fun p => decide (p ∈ ws)) ∘ fun i => (prefs ws).getD i []) := by
      refine List.filter_congr fun i hi => ?_
      have hi := List.mem_range.1 hi
      have hi2 : i < (trie ws).length := by rw [trie_length]; exact hi
      simp only [Function.comp, List.getD_eq_getElem?_getD, List.getElem?_eq_getElem hi, List.getElem?_eq_getElem hi2, Option.getD_some]
      have hn : (trie ws)[i] = nodeOf ws (prefs ws) (prefs ws)[i] := by simp [trie]
      rw [hn]; unfold nodeOf
      split <;> rfl
    rw [e1, ← List.filter_map]
    congr 1
    refine List.ext_getElem (by simp) fun i h1 h2 => ?_
    simp [List.getD_eq_getElem?_getD, List.getElem?_eq_getElem h2]
  rw [e]
  refine SS.ext ((prefs_SS ws).filter _) h fun x => ?_
  rw [List.mem_filter, decide_eq_true_eq]
  exact ⟨fun hx => hx.2, fun hx => ⟨(mem_prefs ws x).2 (.inr ⟨x, hx, List.prefix_refl x⟩), hx⟩⟩
theorem wordsP_length (t : List ND) (P : List Wd) : (wordsP t P).length ≤ t.length := by
  unfold wordsP
  rw [List.length_map]
  exact Nat.le_trans (List.length_filter_le _ _) (by simp)
theorem wordsP_mem {t : List ND} {P : List Wd} (hl : P.length = t.length) {w : Wd} (h : w ∈ wordsP t P) : w ∈ P := by
  unfold wordsP at h
  obtain ⟨i, hi, rfl⟩ := List.mem_map.1 h
  have := List.mem_range.1 (List.mem_filter.1 hi).1
  exact getD_mem (by omega) []
/-- What prefixes are made of. -/
theorem prefP_letters {t : List ND} {P : List Wd} (h : prefP t = some P) {p : Wd} (hp : p ∈ P) : ∀ b ∈ p, 97 ≤ b.toNat ∧ b.toNat ≤ 122 := by
  obtain ⟨h1, h2, h3, h4, h5⟩ := prefP_spec h
  have key : ∀ i, i < t.length → ∀ b ∈ P.getD i [], 97 ≤ b.toNat ∧ b.toNat ≤ 122 := by
    intro i
    induction i using Nat.strongRecOn with
    | _ i ih =>
      intro hi b hb
      rcases Nat.eq_zero_or_pos i with rfl | h0
      · rw [h4] at hb; simp at hb
      · obtain ⟨a1, a2, a3, a4, a5⟩ := h5 i h0 hi
        rw [a5] at hb
        rcases List.mem_append.1 hb with hb | hb
        · exact ih _ (by omega) (by omega) b hb
        · rw [List.mem_singleton] at hb
          subst hb
          unfold letterB
          rw [UInt8.toNat_ofNat', Nat.mod_eq_of_lt (by omega)]
          omega
  obtain ⟨i, hi, rfl⟩ := List.getElem_of_mem hp
  have := key i (by omega)
  rwa [List.getD_eq_getElem?_getD, List.getElem?_eq_getElem hi, Option.getD_some] at this
/-! ### what a valid trie is -/
def IsT (t : List ND) : Prop := ∃ ws, SS ws ∧ (∀ w ∈ ws, okW w) ∧ ws.length ≤ 40 ∧ t = trie ws
open Classical in
noncomputable def isT (t : List ND) : Bool := decide (IsT t)
theorem isT_iff (t : List ND) : isT t = true ↔ IsT t := by unfold isT; simp
/-- What is known of a valid trie. -/
structure TOk (t : List ND) (P : List Wd) : Prop where
  pre : prefP t = some P
  short : ∀ p ∈ P, p.length ≤ 12
theorem IsT.ok {t : List ND} (h : IsT t) : ∃ P, TOk t P := by
  obtain ⟨ws, _, h2, h3, rfl⟩ := h
  exact ⟨prefs ws, prefP_trie h2 h3, fun p hp => (prefs_okW h2 hp).1⟩
/-- As the program asks it. -/
theorem isT_prog (t : List ND) : IsT t ↔ ∃ P, prefP t = some P ∧ (∀ p ∈ P, p.length ≤ 12) ∧ (wordsP t P).length ≤ 40 ∧ (wordsP t P).Pairwise (· ≤ ·) ∧ trie (wordsP t P) = t := by
  constructor
  · rintro ⟨ws, h1, h2, h3, rfl⟩
    refine ⟨prefs ws, prefP_trie h2 h3, fun p hp => (prefs_okW h2 hp).1, ?_⟩
    rw [wordsP_trie h1]
    exact ⟨h3, h1.imp (fun h => le_of_lt' h), rfl⟩
  · rintro ⟨P, h1, h2, h3, h4, h5⟩
    have hP := prefP_spec h1
    refine ⟨setW (wordsP t P), setW_SS _, fun w hw => ?_, Nat.le_trans (setW_length _) h3, ?_⟩
    · have hm := wordsP_mem hP.2.2.1 ((mem_setW _ w).1 hw)
      exact ⟨h2 w hm, prefP_letters h1 hm⟩
    · rw [trie_congr (vs := wordsP t P) (fun x => mem_setW _ x), h5]
/-- As the reference asks it: ws are the words that it takes for the trie's. -/
theorem isT_ref (t : List ND) (hl : 1 ≤ t.length ∧ t.length ≤ 481) (ws : List Wd) (hw : ∀ P, TOk t P → ws = wordsP t P) : IsT t ↔ (∀ w ∈ ws, okW w) ∧ (setW ws).length ≤ 40 ∧ trie (setW ws) = t := by
  constructor
  · rintro ⟨vs, h1, h2, h3, rfl⟩
    have e := hw (prefs vs) ⟨prefP_trie h2 h3, fun p hp => (prefs_okW h2 hp).1⟩
    rw [wordsP_trie h1] at e
    subst e
    rw [setW_of_SS h1]
    exact ⟨h2, h3, rfl⟩
  · rintro ⟨h1, h2, h3⟩
    exact ⟨setW ws, setW_SS _, fun w hw => h1 w ((mem_setW _ w).1 hw), h2, h3.symm⟩
end Go.Proofs.YtcplbbflfgckbaaGreatDoor.Pl
set_option linter.unusedVariables false
set_option linter.unusedSimpArgs false
namespace Go.Proofs.YtcplbbflfgckbaaGreatDoor.Pl
open Go.RowKit Go.Proofs.YtcplbbflfgckbaaGreatDoorW.PrintWords Go.Proofs.YtcplbbflfgckbaaGreatDoorW.PrintLast Go.Proofs.YtcplbbflfgckbaaGreatDoorW.PrintMore Go.Proofs.YtcplbbflfgckbaaGreatDoor.X

theorem l1In_eq (a b c : Int) : spec_l1In.f a b c = some (decide (b ≤ a ∧ a ≤ c)) := by
  unfold spec_l1In.f
  by_cases h : a ≥ b
  · rw [if_pos h]; congr 1; rw [decide_eq_decide]; exact ⟨fun h2 => ⟨h, h2⟩, fun h2 => h2.2⟩
  · rw [if_neg h]; congr 1; symm; rw [decide_eq_false_iff_not]; exact fun h2 => h h2.1
theorem bt_bw {s : ByteArray} {i : Nat} (h : i < s.size) : bt s (i : Int) = (((bw s)[i]'(by rw [bw_size]; exact h)).toNat : Int) := by
  rw [bt_eq]
  have h2 : i < (bytesOf s).length := by rw [bytes_size]; exact h
  rw [List.getD_eq_getElem?_getD, List.getElem?_eq_getElem h2]
  simp [bytesOf, bw]
theorem u8_inj {a b : UInt8} (h : (a.toNat : Int) = (b.toNat : Int)) : a = b := UInt8.toNat.inj (by omega)
theorem u8_lt (a b : UInt8) : a < b ↔ (a.toNat : Int) < (b.toNat : Int) := by
  rw [UInt8.lt_iff_toNat_lt]; omega
/-! ### the order -/
theorem l2Before_ev (a b : ByteArray) (ha : a.size ≤ 9223372036854775806) (hb : b.size ≤ 9223372036854775806) : Ev (fun k => spec_l2Before.f k a b) (decide (bw a < bw b)) := by
  have key : ∀ d i, a.size - i = d → i ≤ a.size → i ≤ b.size → Ev (fun k => spec_l2Before.l0 k a b i) (decide ((bw a).drop i < (bw b).drop i)) := by
    intro d
    induction d with
    | zero =>
      intro i hd h1 h2
      obtain rfl : i = a.size := by omega
      refine Ev.step (fun k => by unfold spec_l2Before.l0; rfl) (ev_neg (by omega) ?_)
      refine Ev.step (fun k => by unfold spec_l2Before.j1; rfl) (ev_neg (by decide) (ev_eq ?_))
      rw [List.drop_of_length_le (by rw [bw_size]; omega)]
      rw [decide_eq_decide]
      rcases Nat.lt_or_ge a.size b.size with h3 | h3
      · rw [List.drop_eq_getElem_cons (by rw [bw_size]; exact h3)]
        exact ⟨fun _ => List.nil_lt_cons _ _, fun _ => by omega⟩
      · rw [List.drop_of_length_le (by rw [bw_size]; omega)]
        exact ⟨fun h => by omega, fun h => absurd h (lt_irr _)⟩
    | succ d ih =>
      intro i hd h1 h2
      have hi : i < a.size := by omega
      refine Ev.step (fun k => by unfold spec_l2Before.l0; rfl) (ev_pos (by omega) ?_)
      refine Ev.step (fun k => by unfold spec_l2Before.j1; rfl) ?_
      rw [List.drop_eq_getElem_cons (i := i) (l := bw a) (by rw [bw_size]; exact hi)]
      rcases Nat.lt_or_ge i b.size with h3 | h3
      · rw [List.drop_eq_getElem_cons (i := i) (l := bw b) (by rw [bw_size]; exact h3)]
        refine ev_pos (decide_eq_true (by omega)) (ev_pos (by omega) (ev_pos (by omega) (ev_pos (by omega) ?_)))
        rw [bt_bw hi, bt_bw h3]
        refine ev_ite (fun he => ?_) (fun hne => ?_)
        · rw [inc (by omega)]
          have he' := u8_inj he
          have e : decide ((bw a)[i]'(by rw [bw_size]; exact hi) :: (bw a).drop (i + 1) < (bw b)[i]'(by rw [bw_size]; exact h3) :: (bw b).drop (i + 1)) = decide ((bw a).drop (i + 1) < (bw b).drop (i + 1)) := by
            rw [decide_eq_decide, List.cons_lt_cons_iff, he']
            exact ⟨fun h => h.elim (fun h => absurd h (by rw [u8_lt]; omega)) (fun h => h.2), fun h => .inr ⟨rfl, h⟩⟩
          rw [e]
          exact ih (i + 1) (by omega) (by omega) (by omega)
        · refine ev_eq ?_
          rw [decide_eq_decide, List.cons_lt_cons_iff, u8_lt]
          exact ⟨fun h => .inl h, fun h => h.elim id (fun h => absurd (by rw [h.1]) hne)⟩
      · refine ev_neg (by rw [decide_eq_false (by omega)]; decide) (ev_eq ?_)
        rw [List.drop_of_length_le (l := bw b) (by rw [bw_size]; omega)]
        rw [decide_eq_decide]
        exact ⟨fun h => by omega, fun h => absurd h (List.not_lt_nil _)⟩
  have := key _ 0 rfl (Nat.zero_le _) (Nat.zero_le _)
  rw [List.drop_zero, List.drop_zero] at this
  exact this
/-! ### words -/
instance (w : Wd) : Decidable (okW w) := by unfold okW; exact inferInstance
theorem l2Word_ev (s : ByteArray) (hs : s.size ≤ 9223372036854775806) : Ev (fun k => spec_l2Word.f k s) (decide (okW (bw s))) := by
  have key : ∀ d i, 13 - i = d → i ≤ 13 → i ≤ s.size → Ev (fun k => spec_l2Word.l0 k s i) (decide ((bw s).length ≤ 12 ∧ ∀ b ∈ (bw s).drop i, 97 ≤ b.toNat ∧ b.toNat ≤ 122)) := by
    intro d
    induction d with
    | zero =>
      intro i hd h1 h2
      obtain rfl : i = 13 := by omega
      refine Ev.step (fun k => by unfold spec_l2Word.l0; rfl) ?_
      have fin : Ev (fun k => spec_l2Word.j1 k s ((13 : Nat) : Int) false) (decide ((bw s).length ≤ 12 ∧ ∀ b ∈ (bw s).drop 13, 97 ≤ b.toNat ∧ b.toNat ≤ 122)) := by
        refine Ev.step (fun k => by unfold spec_l2Word.j1; rfl) (ev_neg (by decide) (ev_eq ?_))
        rw [decide_eq_decide, bw_size]
        exact ⟨fun h => by omega, fun h => by omega⟩
      exact ev_ite (fun _ => by rw [decide_eq_false (by omega)]; exact fin) (fun _ => fin)
    | succ d ih =>
      intro i hd h1 h2
      refine Ev.step (fun k => by unfold spec_l2Word.l0; rfl) ?_
      rcases Nat.lt_or_ge i s.size with h3 | h3
      · refine ev_pos (by omega) ?_
        rw [decide_eq_true (show (i : Int) ≤ 12 by omega)]
        refine Ev.step (fun k => by unfold spec_l2Word.j1; rfl) (ev_pos rfl (ev_pos (by omega) (ev_pos (by omega) ?_)))
        rw [bt_bw h3]
        have e : (bw s).drop i = (bw s)[i]'(by rw [bw_size]; exact h3) :: (bw s).drop (i + 1) := List.drop_eq_getElem_cons (by rw [bw_size]; exact h3)
        refine ev_ite (fun hc => ev_eq ?_) (fun hc => ev_ite (fun hc2 => ev_eq ?_) (fun hc2 => ?_))
        · symm; rw [decide_eq_false_iff_not, e]; intro h; have := h.2 _ List.mem_cons_self; omega
        · symm; rw [decide_eq_false_iff_not, e]; intro h; have := h.2 _ List.mem_cons_self; omega
        · rw [inc (by omega)]
          have := ih (i + 1) (by omega) (by omega) (by omega)
          refine Eq.mp (congrArg _ ?_) this
          rw [decide_eq_decide, e]
          constructor
          · rintro ⟨h4, h5⟩
            refine ⟨h4, fun b hb => ?_⟩
            rcases List.mem_cons.1 hb with rfl | hb
            · omega
            · exact h5 b hb
          · rintro ⟨h4, h5⟩
            exact ⟨h4, fun b hb => h5 b (List.mem_cons_of_mem _ hb)⟩
      · refine ev_neg (by omega) ?_
        refine Ev.step (fun k => by unfold spec_l2Word.j1; rfl) (ev_neg (by decide) (ev_eq ?_))
        rw [decide_eq_decide, List.drop_of_length_le (by rw [bw_size]; omega), bw_size]
        exact ⟨fun h => ⟨by omega, by simp⟩, fun h => by omega⟩
  have := key _ 0 rfl (by omega) (Nat.zero_le _)
  rw [List.drop_zero] at this
  exact this
/-! ### a word put to its place -/
theorem l2Own_eq {l : List ByteArray} (h : l.length ≤ 1000000000) : spec_l2Own.f l = some l := by
  unfold spec_l2Own.f
  simp only [Option.bind_some, List.length_nil, List.nil_append]
  rw [if_pos (by omega)]
theorem l2Put_ev (l : List ByteArray) (w : ByteArray) (hl : l.length ≤ 4000000) (hs : ∀ x ∈ l, x.size ≤ 1000000000) (hw : w.size ≤ 1000000000) : Ev (fun k => spec_l2Put.f k l w) ((ins (l.map bw) (bw w)).map wb) := by
  have wbm : ∀ m : List ByteArray, (m.map bw).map wb = m := fun m => by rw [List.map_map]; exact (List.map_congr_left fun x _ => wb_bw x).trans (List.map_id m)
  have key : ∀ suf pre, l = pre ++ suf → Ev (fun k => spec_l2Put.l0 k l w pre.length) (pre ++ (ins (suf.map bw) (bw w)).map wb) := by
    intro suf
    induction suf with
    | nil =>
      intro pre he
      rw [List.append_nil] at he
      subst he
      refine Ev.step (fun k => by unfold spec_l2Put.l0; rfl) (ev_neg (by omega) (ev_pos (by omega) (ev_pos (by omega) ?_)))
      rw [Int.toNat_natCast, List.take_length, l2Own_eq (by omega)]
      refine ev_some (ev_some (ev_pos (by simp; omega) (ev_some (ev_some (ev_pos (by simp; omega) (ev_eq ?_))))))
      simp [ins, wb_bw]
    | cons x suf ih =>
      intro pre he
      have hlen : l.length = pre.length + (suf.length + 1) := by rw [he]; simp
      have hx : rdOf ByteArray.empty l (pre.length : Int) = x := by rw [rdOf_nat, he]; simp [List.getD]
      have hxm : x ∈ l := by rw [he]; simp
      have htake : l.take pre.length = pre := by rw [he]; simp
      have hdrop : l.drop pre.length = x :: suf := by rw [he]; simp
      have hb := l2Before_ev x w (by have := hs x hxm; omega) (by omega)
      refine Ev.step (fun k => by unfold spec_l2Put.l0; rfl) (ev_pos (by omega) (ev_pos (by omega) ?_))
      rw [hx]
      refine Ev.bind hb ?_
      rw [List.map_cons]
      unfold ins
      refine ev_ite (fun hc => ?_) (fun hc => ?_)
      · rw [if_pos (of_decide_eq_true hc), inc (by omega)]
        have := ih (pre ++ [x]) (by rw [he]; simp)
        rw [List.length_append, List.length_singleton] at this
        rw [List.map_cons, wb_bw]
        simpa using this
      · have hlt : ¬ bw x < bw w := fun h => hc (decide_eq_true h)
        rw [if_neg hlt]
        rw [toList_bw, toList_bw]
        refine ev_ite (fun hc2 => ?_) (fun hc2 => ?_)
        · rw [if_pos hc2]
          refine ev_eq ?_
          rw [List.map_cons, wb_bw, wbm, he]
        · rw [if_neg hc2]
          refine ev_pos (by omega) ?_
          rw [Int.toNat_natCast, htake, hdrop, l2Own_eq (by omega)]
          refine ev_some (ev_some (ev_pos (by simp; omega) (ev_some (ev_some (ev_pos (by simp; omega) (ev_eq ?_))))))
          rw [List.map_cons, List.map_cons, wb_bw, wb_bw, wbm]
          simp
  have := key l [] rfl
  rw [List.nil_append] at this
  exact this
/-! ### many words put to their places -/
theorem foldl_ins_SS {A : List Wd} (h : SS A) : ∀ l : List Wd, SS (l.foldl ins A)
  | [] => h
  | x :: l => by rw [List.foldl_cons]; exact foldl_ins_SS (ins_SS h x) l
theorem mem_foldl_ins : ∀ (l A : List Wd) (x : Wd), x ∈ l.foldl ins A ↔ x ∈ A ∨ x ∈ l
  | [], A, x => by simp
  | y :: l, A, x => by
    rw [List.foldl_cons, mem_foldl_ins l, mem_ins, List.mem_cons]
    constructor
    · rintro ((h | h) | h)
      · exact .inr (.inl h)
      · exact .inl h
      · exact .inr (.inr h)
    · rintro (h | h | h)
      · exact .inl (.inr h)
      · exact .inl (.inl h)
      · exact .inr h
theorem ins_length (l : List Wd) (w : Wd) : (ins l w).length ≤ l.length + 1 := by
  induction l with
  | nil => simp [ins]
  | cons x l ih =>
    unfold ins
    split
    · simp; omega
    · split <;> simp
theorem foldl_setW (l : List Wd) : l.foldl ins [] = setW l :=
  (foldl_ins_SS (by simp [SS]) l).ext (setW_SS l) (fun x => by rw [mem_foldl_ins, mem_setW]; simp)
theorem foldl_prefs (ws : List Wd) : (ws.flatMap inits).foldl ins [[]] = prefs ws :=
  (foldl_ins_SS (by simp [SS]) _).ext (prefs_SS ws) (fun x => by
    unfold prefs
    rw [mem_foldl_ins, mem_setW]
    simp)
theorem bw_map_wb (l : List Wd) : (l.map wb).map bw = l := by rw [List.map_map]; exact (List.map_congr_left fun x _ => bw_wb x).trans (List.map_id l)
/-- What the reference takes for the words of a list: themselves, sorted, each once, and whether all are words and not too many. -/
def refSet (ws : List Wd) : List Wd × Bool := if ∀ w ∈ ws, okW w then (setW ws, decide ((setW ws).length ≤ 40)) else ([], false)
theorem l2Set_ev (ws : List ByteArray) (hl : ws.length ≤ 2000000) (hs : ∀ x ∈ ws, x.size ≤ 1000000000) : Ev (fun k => spec_l2Set.f k ws) ((refSet (ws.map bw)).1.map wb, (refSet (ws.map bw)).2) := by
  have key : ∀ suf pre A, ws = pre ++ suf → A.length ≤ pre.length → (∀ x ∈ A, x.length ≤ 1000000000) → Ev (fun k => spec_l2Set.l0 k ws (A.map wb) pre.length)
      (if ∀ w ∈ suf.map bw, okW w then (((suf.map bw).foldl ins A).map wb, decide (((suf.map bw).foldl ins A).length ≤ 40)) else ([], false)) := by
    intro suf
    induction suf with
    | nil =>
      intro pre A he hA _
      rw [List.append_nil] at he
      subst he
      refine Ev.step (fun k => by unfold spec_l2Set.l0; rfl) (ev_neg (by omega) (ev_eq ?_))
      rw [if_pos (by simp)]
      simp
      omega
    | cons x suf ih =>
      intro pre A he hA hAs
      have hlen : ws.length = pre.length + (suf.length + 1) := by rw [he]; simp
      have hx : rdOf ByteArray.empty ws (pre.length : Int) = x := by rw [rdOf_nat, he]; simp [List.getD]
      have hxm : x ∈ ws := by rw [he]; simp
      refine Ev.step (fun k => by unfold spec_l2Set.l0; rfl) (ev_pos (by omega) (ev_pos (by omega) ?_))
      rw [hx]
      refine Ev.bind (l2Word_ev x (by have := hs x hxm; omega)) ?_
      refine ev_ite (fun hc => ?_) (fun hc => ?_)
      · have hp := l2Put_ev (A.map wb) x (by simp; omega) (fun y hy => by
          obtain ⟨z, hz, rfl⟩ := List.mem_map.1 hy
          rw [wb_size]; exact hAs z hz) (hs x hxm)
        rw [bw_map_wb] at hp
        refine Ev.bind hp ?_
        rw [inc (by omega)]
        have := ih (pre ++ [x]) (ins A (bw x)) (by rw [he]; simp) (by have := ins_length A (bw x); simp; omega) (fun y hy => by
          rcases (mem_ins A (bw x) y).1 hy with rfl | hy
          · rw [bw_size]; exact hs x hxm
          · exact hAs y hy)
        rw [List.length_append, List.length_singleton] at this
        refine Eq.mp (congrArg _ ?_) this
        have hx' : okW (bw x) := of_decide_eq_true hc
        rw [List.map_cons, List.foldl_cons]
        by_cases hall : ∀ w ∈ suf.map bw, okW w
        · rw [if_pos hall, if_pos (fun w hw => by
            rcases List.mem_cons.1 hw with rfl | hw
            · exact hx'
            · exact hall w hw)]
        · rw [if_neg hall, if_neg (fun h => hall fun w hw => h w (List.mem_cons_of_mem _ hw))]
      · refine ev_eq ?_
        rw [if_neg (fun h => hc (decide_eq_true (h (bw x) (by rw [List.map_cons]; exact List.mem_cons_self))))]
  have := key ws [] [] rfl (Nat.le_refl _) (by simp)
  unfold refSet
  rw [foldl_setW] at this
  refine Eq.mp (congrArg _ ?_) this
  split <;> rfl
end Go.Proofs.YtcplbbflfgckbaaGreatDoor.Pl
set_option linter.unusedVariables false
set_option linter.unusedSimpArgs false
namespace Go.Proofs.YtcplbbflfgckbaaGreatDoor.Pl
open Go.RowKit Go.Proofs.YtcplbbflfgckbaaGreatDoorW.PrintWords Go.Proofs.YtcplbbflfgckbaaGreatDoorW.PrintLast Go.Proofs.YtcplbbflfgckbaaGreatDoorW.PrintMore Go.Proofs.YtcplbbflfgckbaaGreatDoor.X

theorem rd_nd {t : List ND} {i : Nat} (h : i < t.length) : rd_T74 t (i : Int) = t[i] := by
  show t.getD (i : Int).toNat _ = _
  rw [Int.toNat_natCast, List.getD_eq_getElem?_getD, List.getElem?_eq_getElem h, Option.getD_some]
theorem letter_str {c : Int} (h1 : 0 ≤ c) (h2 : c ≤ 25) : strOfNums [(wrap64 (97 + c)) % 256] = wb [letterB c] := by
  unfold strOfNums wb letterB
  rw [w64 (by omega) (by omega), Int.emod_eq_of_lt (by omega) (by omega)]
  simp only [List.map_cons, List.map_nil]
  rw [show (97 + c).toNat = 97 + c.toNat by omega]
theorem wb_append (a b : Wd) : wb a ++ wb b = wb (a ++ b) := bw_inj (by simp [bw, wb, ByteArray.data_append])
theorem bw_append (a b : ByteArray) : bw (a ++ b) = bw a ++ bw b := by simp [bw, ByteArray.data_append]
theorem l2Prefix_loop (t : List ND) (ht : t.length ≤ 2000000) : ∀ i, i < t.length → ∀ s : ByteArray, s.size ≤ 13 → ∃ r, Ev (fun k => spec_l2Prefix.l0 k i s t) r ∧ r.size ≤ 13 ∧ ∀ P, prefP t = some P → (P.getD i []).length + s.size ≤ 12 → r = wb (P.getD i [] ++ bw s) := by
  have atZero : ∀ s : ByteArray, s.size ≤ 13 → Ev (fun k => spec_l2Prefix.l0 k ((0 : Nat) : Int) s t) s := by
    intro s hs
    refine Ev.step (fun k => by unfold spec_l2Prefix.l0; rfl) (ev_neg (by omega) ?_)
    exact Ev.step (fun k => by unfold spec_l2Prefix.j1; rfl) (ev_neg (by decide) (ev_pos (by omega) (ev_eq rfl)))
  intro i
  induction i using Nat.strongRecOn with
  | _ i ih =>
    intro hi s hs
    rcases Nat.eq_zero_or_pos i with rfl | h0
    · refine ⟨s, atZero s hs, hs, fun P hP _ => ?_⟩
      rw [(prefP_spec hP).2.2.2.1, List.nil_append, wb_bw]
    · have one : ∀ r : ByteArray, (⟨#[63]⟩ : ByteArray) = r → r.size ≤ 13 := fun r h => by rw [← h]; decide
      by_cases hs2 : s.size ≤ 12
      case neg =>
        refine ⟨⟨#[63]⟩, ?_, by decide, fun P _ hz => by omega⟩
        refine Ev.step (fun k => by unfold spec_l2Prefix.l0; rfl) (ev_pos (by omega) ?_)
        rw [decide_eq_false (by omega)]
        exact Ev.step (fun k => by unfold spec_l2Prefix.j1; rfl) (ev_neg (by decide) (ev_neg (by omega) (ev_eq rfl)))
      have begin_ : ∀ (r : ByteArray), Ev (fun k => if decide (0 ≤ t[i].f0 ∧ t[i].f0 ≤ 25) = true then (if (t[i].f1) ≥ (i : Int) then (some (⟨#[63]⟩ : ByteArray)) else ((some (([(wrap64 (97 + (t[i].f0))) % 256] : List Int) : List Int)).bind fun y107 => (if (strOfNums y107).size + s.size ≤ 9223372036854775807 then (spec_l2Prefix.l0 k (t[i].f1) ((strOfNums y107) ++ s) t) else (none)))) else (some (⟨#[63]⟩ : ByteArray))) r → Ev (fun k => spec_l2Prefix.l0 k i s t) r := by
        intro r hr
        refine Ev.step (fun k => by unfold spec_l2Prefix.l0; rfl) (ev_pos (by omega) ?_)
        rw [decide_eq_true (show (s.size : Int) ≤ 12 by omega)]
        refine Ev.step (fun k => by unfold spec_l2Prefix.j1; rfl) (ev_pos rfl (ev_pos (by omega) (ev_pos (by omega) ?_)))
        rw [rd_nd hi, l1In_eq]
        exact ev_some hr
      by_cases hf : 0 ≤ t[i].f0 ∧ t[i].f0 ≤ 25
      case neg =>
        refine ⟨⟨#[63]⟩, begin_ _ (ev_neg (by simpa using hf) (ev_eq rfl)), by decide, fun P hP _ => ?_⟩
        have := (prefP_spec hP).2.2.2.2 i h0 hi
        exact absurd ⟨this.2.2.1, this.2.2.2.1⟩ hf
      by_cases hp : t[i].f1 < (i : Int)
      case neg =>
        refine ⟨⟨#[63]⟩, begin_ _ (ev_pos (decide_eq_true hf) (ev_pos (by omega) (ev_eq rfl))), by decide, fun P hP _ => ?_⟩
        have := (prefP_spec hP).2.2.2.2 i h0 hi
        exact absurd this.2.1 hp
      have hls := letter_str hf.1 hf.2
      have hz : (wb [letterB t[i].f0] ++ s).size ≤ 13 := by rw [ByteArray.size_append, wb_size]; simp; omega
      by_cases hn : 0 ≤ t[i].f1
      case neg =>
        refine ⟨⟨#[63]⟩, begin_ _ (ev_pos (decide_eq_true hf) (ev_neg (by omega) (ev_some ?_))), by decide, fun P hP _ => ?_⟩
        · rw [hls]
          refine ev_pos (by rw [wb_size]; simp; omega) ?_
          refine Ev.step (fun k => by unfold spec_l2Prefix.l0; rfl) (ev_neg (by omega) ?_)
          exact Ev.step (fun k => by unfold spec_l2Prefix.j1; rfl) (ev_neg (by decide) (ev_neg (by omega) (ev_eq rfl)))
        · have := (prefP_spec hP).2.2.2.2 i h0 hi
          exact absurd this.1 hn
      obtain ⟨r, hr, hr2, hr3⟩ := ih t[i].f1.toNat (by omega) (by omega) (wb [letterB t[i].f0] ++ s) hz
      refine ⟨r, begin_ _ (ev_pos (decide_eq_true hf) (ev_neg (by omega) (ev_some ?_))), hr2, fun P hP hlen => ?_⟩
      · rw [hls]
        refine ev_pos (by rw [wb_size]; simp; omega) ?_
        rw [show ((t[i].f1.toNat : Nat) : Int) = t[i].f1 by omega] at hr
        exact hr
      · have := (prefP_spec hP).2.2.2.2 i h0 hi
        rw [this.2.2.2.2] at hlen ⊢
        rw [hr3 P hP (by rw [List.length_append, List.length_singleton] at hlen; rw [ByteArray.size_append, wb_size, List.length_singleton]; omega)]
        rw [bw_append, bw_wb, List.append_assoc]
theorem l2Prefix_ev (t : List ND) (ht : t.length ≤ 2000000) (i : Nat) (hi : i < t.length) : ∃ r, Ev (fun k => spec_l2Prefix.f k t i) r ∧ r.size ≤ 13 ∧ ∀ P, TOk t P → r = wb (P.getD i []) := by
  obtain ⟨r, h1, h2, h3⟩ := l2Prefix_loop t ht i hi ⟨#[]⟩ (by decide)
  refine ⟨r, h1, h2, fun P hP => ?_⟩
  have hl := (prefP_spec hP.pre).2.2.1
  have := hP.short _ (getD_mem (l := P) (i := i) (by omega) [])
  rw [h3 P hP.pre (by show _ + 0 ≤ 12; omega)]
  show wb (P.getD i [] ++ []) = _
  rw [List.append_nil]
theorem l2Words_ev (t : List ND) (ht : t.length ≤ 100000) : ∃ ws, Ev (fun k => spec_l2Words.f k t) ws ∧ ws.length ≤ t.length ∧ (∀ w ∈ ws, w.size ≤ 13) ∧ ∀ P, TOk t P → ws = (wordsP t P).map wb := by
  have hR : ∃ R : Nat → ByteArray, ∀ i, i < t.length → Ev (fun k => spec_l2Prefix.f k t i) (R i) ∧ (R i).size ≤ 13 ∧ ∀ P, TOk t P → R i = wb (P.getD i []) := by
    have : ∀ i, ∃ r : ByteArray, i < t.length → Ev (fun k => spec_l2Prefix.f k t i) r ∧ r.size ≤ 13 ∧ ∀ P, TOk t P → r = wb (P.getD i []) := fun i => by
      by_cases h : i < t.length
      · obtain ⟨r, h1⟩ := l2Prefix_ev t (by omega) i h
        exact ⟨r, fun _ => h1⟩
      · exact ⟨⟨#[]⟩, fun h2 => absurd h2 h⟩
    exact ⟨fun i => Classical.choose (this i), fun i => Classical.choose_spec (this i)⟩
  obtain ⟨R, hR⟩ := hR
  refine ⟨((List.range t.length).filter fun i => (t.getD i zND).f2).map R, ?_, ?_, ?_, ?_⟩
  · have key : ∀ d i, t.length - i = d → i ≤ t.length → ∀ acc : List ByteArray, acc.length ≤ i → Ev (fun k => spec_l2Words.l0 k acc i t) (acc ++ (((List.range t.length).drop i).filter fun i => (t.getD i zND).f2).map R) := by
      intro d
      induction d with
      | zero =>
        intro i hd hi acc ha
        refine Ev.step (fun k => by unfold spec_l2Words.l0; rfl) (ev_neg (by omega) (ev_eq ?_))
        rw [List.drop_of_length_le (by simp; omega)]
        simp
      | succ d ih =>
        intro i hd hi acc ha
        have hi' : i < t.length := by omega
        refine Ev.step (fun k => by unfold spec_l2Words.l0; rfl) (ev_pos (by omega) (ev_pos (by omega) ?_))
        have e : (List.range t.length).drop i = i :: (List.range t.length).drop (i + 1) := by
          rw [List.drop_eq_getElem_cons (by simpa using hi')]; simp
        have eg : (t.getD i zND).f2 = t[i].f2 := by rw [List.getD_eq_getElem?_getD, List.getElem?_eq_getElem hi', Option.getD_some]
        rw [rd_nd hi', e, List.filter_cons, eg]
        refine ev_ite (fun hc => ?_) (fun hc => ?_)
        · refine Ev.bind (hR i hi').1 (ev_pos (by omega) ?_)
          rw [inc (by omega), if_pos hc]
          have := ih (i + 1) (by omega) (by omega) (acc ++ [R i]) (by simp; omega)
          simpa using this
        · rw [inc (by omega), if_neg hc]
          exact ih (i + 1) (by omega) (by omega) acc (by omega)
    have := key _ 0 rfl (Nat.zero_le _) [] (Nat.le_refl _)
    rw [List.nil_append, List.drop_zero] at this
    exact this
  · rw [List.length_map]
    exact Nat.le_trans (List.length_filter_le _ _) (by simp)
  · intro w hw
    obtain ⟨i, hi, rfl⟩ := List.mem_map.1 hw
    exact (hR i (List.mem_range.1 (List.mem_filter.1 hi).1)).2.1
  · intro P hP
    unfold wordsP
    rw [List.map_map]
    exact List.map_congr_left fun i hi => (hR i (List.mem_range.1 (List.mem_filter.1 hi).1)).2.2 P hP
/-! ### the trie of words -/
theorem mem_map_bw {l : List ByteArray} {x : ByteArray} : bw x ∈ l.map bw ↔ x ∈ l := by
  rw [List.mem_map]
  exact ⟨fun ⟨y, hy, h⟩ => bw_inj h ▸ hy, fun h => ⟨x, h, rfl⟩⟩
theorem l2Has_ev (l : List ByteArray) (x : ByteArray) (hl : l.length ≤ 4000000) : Ev (fun k => spec_l2Has.f k l x) (decide (bw x ∈ l.map bw)) := by
  have key : ∀ suf pre, l = pre ++ suf → Ev (fun k => spec_l2Has.l0 k l x pre.length) (decide (bw x ∈ suf.map bw)) := by
    intro suf
    induction suf with
    | nil =>
      intro pre he
      rw [List.append_nil] at he
      subst he
      exact Ev.step (fun k => by unfold spec_l2Has.l0; rfl) (ev_neg (by omega) (ev_eq (by simp)))
    | cons y suf ih =>
      intro pre he
      have hlen : l.length = pre.length + (suf.length + 1) := by rw [he]; simp
      have hx : rdOf ByteArray.empty l (pre.length : Int) = y := by rw [rdOf_nat, he]; simp [List.getD]
      refine Ev.step (fun k => by unfold spec_l2Has.l0; rfl) (ev_pos (by omega) (ev_pos (by omega) ?_))
      rw [hx, toList_bw, toList_bw]
      refine ev_ite (fun hc => ev_eq ?_) (fun hc => ?_)
      · symm; rw [decide_eq_true_eq, List.map_cons, hc]; exact List.mem_cons_self
      · rw [inc (by omega)]
        have := ih (pre ++ [y]) (by rw [he]; simp)
        rw [List.length_append, List.length_singleton] at this
        refine Eq.mp (congrArg _ ?_) this
        rw [decide_eq_decide, List.map_cons, List.mem_cons]
        exact ⟨.inr, fun h => h.elim (fun h => absurd h.symm hc) id⟩
  exact key l [] rfl
theorem l2Place_ev (l : List ByteArray) (x : ByteArray) (hl : l.length ≤ 1000000) (hx : bw x ∈ l.map bw) : Ev (fun k => spec_l2Place.f k l x) (((l.map bw).idxOf (bw x) : Nat) : Int) := by
  have key : ∀ suf pre, l = pre ++ suf → bw x ∈ suf.map bw → Ev (fun k => spec_l2Place.l0 k l x pre.length) ((pre.length + (suf.map bw).idxOf (bw x) : Nat) : Int) := by
    intro suf
    induction suf with
    | nil => intro pre _ h; simp at h
    | cons y suf ih =>
      intro pre he hm
      have hlen : l.length = pre.length + (suf.length + 1) := by rw [he]; simp
      have hy : rdOf ByteArray.empty l (pre.length : Int) = y := by rw [rdOf_nat, he]; simp [List.getD]
      refine Ev.step (fun k => by unfold spec_l2Place.l0; rfl) (ev_pos (by omega) (ev_pos (by omega) ?_))
      rw [hy, toList_bw, toList_bw, List.map_cons, List.idxOf_cons]
      refine ev_ite (fun hc => ev_eq ?_) (fun hc => ?_)
      · rw [hc]; simp
      · rw [inc (by omega)]
        have hne : (bw y == bw x) = false := by simpa using hc
        rw [hne]
        have := ih (pre ++ [y]) (by rw [he]; simp) (by
          rw [List.map_cons, List.mem_cons] at hm
          exact hm.elim (fun h => absurd h.symm hc) id)
        rw [List.length_append, List.length_singleton] at this
        refine Eq.mp (congrArg _ ?_) this
        simp only [cond_false]
        omega
  have := key l [] rfl hx
  rw [List.length_nil, Nat.zero_add] at this
  exact this
theorem extract_wb (w : Wd) (n : Nat) : (wb w).extract 0 n = wb (w.take n) := bw_inj (by
  show ((wb w).extract 0 n).data.toList = _
  rw [Lib.extract_data, bw_wb]; simp [wb])
theorem last_ltr {w : Wd} (h : w ≠ []) : (bt (wb w) ((w.length - 1 : Nat) : Int) - 97) % 256 = ltr w := by
  have hl := List.length_pos_iff.2 h
  rw [bt_bw (by rw [wb_size]; omega)]
  unfold ltr
  rw [List.getLast?_eq_getElem?]
  have e : (bw (wb w))[w.length - 1]'(by rw [bw_wb]; omega) = w[w.length - 1] := by simp only [bw_wb]
  rw [e, List.getElem?_eq_getElem (by omega), Option.getD_some]
end Go.Proofs.YtcplbbflfgckbaaGreatDoor.Pl
set_option linter.unusedVariables false
set_option linter.unusedSimpArgs false
namespace Go.Proofs.YtcplbbflfgckbaaGreatDoor.Pl
open Go.RowKit Go.Proofs.YtcplbbflfgckbaaGreatDoorW.PrintWords Go.Proofs.YtcplbbflfgckbaaGreatDoorW.PrintLast Go.Proofs.YtcplbbflfgckbaaGreatDoorW.PrintMore Go.Proofs.YtcplbbflfgckbaaGreatDoor.X

theorem rdOf_map_wb (ps : List Wd) (i : Nat) (h : i < ps.length) : rdOf ByteArray.empty (ps.map wb) (i : Int) = wb ps[i] := by
  rw [rdOf_nat, List.getD_eq_getElem?_getD, List.getElem?_map, List.getElem?_eq_getElem h]; rfl
/-- The nodes put together one by one. -/
theorem l2Of_nodes (ws : List Wd) (hw : ws.length ≤ 100000) (hl : (prefs ws).length ≤ 100000) (hs : ∀ p ∈ prefs ws, p.length ≤ 1000000) : Ev (fun k => spec_l2Of.l2 k (ws.map wb) ((prefs ws).map wb) 0 []) (trie ws) := by
  have key : ∀ d i, (prefs ws).length - i = d → i ≤ (prefs ws).length → Ev (fun k => spec_l2Of.l2 k (ws.map wb) ((prefs ws).map wb) i ((trie ws).take i)) (trie ws) := by
    intro d
    induction d with
    | zero =>
      intro i hd hi
      refine Ev.step (fun k => by unfold spec_l2Of.l2; rfl) (ev_neg (by rw [List.length_map]; omega) (ev_eq ?_))
      rw [List.take_of_length_le (by rw [trie_length]; omega)]
    | succ d ih =>
      intro i hd hi
      have hi' : i < (prefs ws).length := by omega
      have hi2 : i < (trie ws).length := by rw [trie_length]; exact hi'
      have hmem := List.getElem_mem hi'
      have htk : ((trie ws).take i).length = i := by rw [List.length_take]; omega
      have hn : (trie ws)[i] = nodeOf ws (prefs ws) (prefs ws)[i] := by simp [trie]
      have hnext : ∀ nd : ND, nd = (trie ws)[i] → Ev (fun k => spec_l2Of.l2 k (ws.map wb) ((prefs ws).map wb) ((i + 1 : Nat) : Int) ((trie ws).take i ++ [nd])) (trie ws) := by
        rintro nd rfl
        rw [← List.take_succ_eq_append_getElem hi2]
        exact ih (i + 1) (by omega) (by omega)
      refine Ev.step (fun k => by unfold spec_l2Of.l2; rfl) (ev_pos (by rw [List.length_map]; omega) (ev_pos (by omega) ?_))
      rw [rdOf_map_wb _ _ hi']
      refine Ev.bind (l2Has_ev (ws.map wb) _ (by rw [List.length_map]; omega)) ?_
      rw [bw_map_wb, bw_wb, inc (by omega)]
      rcases Nat.eq_zero_or_pos i with h0 | h0
      · subst h0
        refine ev_neg (by omega) (ev_pos (by rw [htk]; omega) (hnext _ ?_))
        obtain ⟨l, e⟩ := prefs_head ws
        have e0 : (prefs ws)[0] = [] := by simp only [e, List.getElem_cons_zero]
        rw [hn, e0]
        unfold nodeOf
        rw [if_pos rfl]
      · have hne : (prefs ws)[i] ≠ [] := by
          intro e
          have h1 : (prefs ws)[0]'(by omega) < (prefs ws)[i] := List.pairwise_iff_getElem.1 (prefs_SS ws) 0 i (by omega) hi' h0
          rw [e] at h1
          exact List.not_lt_nil _ h1
        have hlp := List.length_pos_iff.2 hne
        have hsz := hs _ hmem
        have e1 : wrap64 (((wb (prefs ws)[i]).size : Int) - 1) = (((prefs ws)[i].length - 1 : Nat) : Int) := by
          rw [wb_size, w64 (by omega) (by omega)]; omega
        refine ev_pos (by omega) ?_
        rw [e1]
        refine ev_pos (by omega) (ev_pos (by rw [wb_size]; omega) (ev_pos (by rw [wb_size]; omega) ?_))
        rw [Int.toNat_natCast, extract_wb, ← List.dropLast_eq_take, last_ltr hne]
        refine Ev.bind (l2Place_ev ((prefs ws).map wb) (wb (prefs ws)[i].dropLast) (by rw [List.length_map]; omega) (by rw [bw_map_wb, bw_wb]; exact dropLast_mem hmem)) ?_
        refine ev_pos (by rw [htk]; omega) (hnext _ ?_)
        rw [hn, bw_map_wb, bw_wb]
        unfold nodeOf
        rw [if_neg hne]
  have := key _ 0 rfl (Nat.zero_le _)
  rw [List.take_zero] at this
  exact this
theorem inits_get (w : Wd) (n : Nat) (h : n < w.length) : (inits w).drop n = w.take (n + 1) :: (inits w).drop (n + 1) := by
  have hl : n < (inits w).length := by simpa [inits] using h
  rw [List.drop_eq_getElem_cons hl]
  congr 1
  simp [inits]
theorem inits_end (w : Wd) : (inits w).drop w.length = [] := by rw [List.drop_eq_nil_iff]; simp [inits]
theorem l2Of_ev (ws : List Wd) (hw : ws.length ≤ 100) (hs : ∀ w ∈ ws, w.length ≤ 100) : Ev (fun k => spec_l2Of.f k (ws.map wb)) (trie ws) := by
  have hpl := prefs_length (ws := ws) (m := 100) hs
  have hps : ∀ p ∈ prefs ws, p.length ≤ 100 := fun p hp => by
    rcases (mem_prefs ws p).1 hp with rfl | ⟨w, hw, hpw⟩
    · simp
    · exact Nat.le_trans hpw.length_le (hs w hw)
  have hnodes := l2Of_nodes ws (by omega) (by omega) (fun p hp => by have := hps p hp; omega)
  have inner : ∀ (i : Nat) (hi : i < ws.length) (R : List ND) (d n : Nat) (A : List Wd), ws[i].length - n = d → n ≤ ws[i].length → A.length ≤ 1 + 100 * i + n → (∀ x ∈ A, x.length ≤ 100) →
      ((((inits ws[i]).drop n).foldl ins A).length ≤ 1 + 100 * (i + 1) → (∀ x ∈ ((inits ws[i]).drop n).foldl ins A, x.length ≤ 100) → Ev (fun k => spec_l2Of.l0 k (ws.map wb) ((((inits ws[i]).drop n).foldl ins A).map wb) ((i + 1 : Nat) : Int)) R) → Ev (fun k => spec_l2Of.l1 k (ws.map wb) (A.map wb) i ((n + 1 : Nat) : Int)) R := by
    intro i hi R d
    have hwl := hs _ (List.getElem_mem hi)
    induction d with
    | zero =>
      intro n A hd hn hA hAs hnext
      obtain rfl : n = ws[i].length := by omega
      refine Ev.step (fun k => by unfold spec_l2Of.l1; rfl) (ev_pos (by omega) (ev_pos (by rw [List.length_map]; omega) ?_))
      rw [rdOf_map_wb _ _ hi]
      refine ev_neg (by rw [wb_size]; omega) ?_
      rw [inc (by omega)]
      rw [inits_end] at hnext
      exact hnext (by simp only [List.foldl_nil]; omega) hAs
    | succ d ih =>
      intro n A hd hn hA hAs hnext
      have hn' : n < ws[i].length := by omega
      refine Ev.step (fun k => by unfold spec_l2Of.l1; rfl) (ev_pos (by omega) (ev_pos (by rw [List.length_map]; omega) ?_))
      rw [rdOf_map_wb _ _ hi]
      refine ev_pos (by rw [wb_size]; omega) (ev_pos (by omega) ?_)
      rw [Int.toNat_natCast, extract_wb]
      have hp := l2Put_ev (A.map wb) (wb (ws[i].take (n + 1))) (by rw [List.length_map]; omega) (fun y hy => by
          obtain ⟨z, hz, rfl⟩ := List.mem_map.1 hy
          rw [wb_size]; have := hAs z hz; omega) (by rw [wb_size, List.length_take]; omega)
      rw [bw_map_wb, bw_wb] at hp
      refine Ev.bind hp ?_
      rw [inc (by omega)]
      have hil := ins_length A (ws[i].take (n + 1))
      refine ih (n + 1) _ (by omega) (by omega) (by omega) (fun x hx => ?_) (fun h1 h2 => ?_)
      · rcases (mem_ins A _ x).1 hx with rfl | hx
        · rw [List.length_take]; omega
        · exact hAs x hx
      · have e : ((inits ws[i]).drop n).foldl ins A = ((inits ws[i]).drop (n + 1)).foldl ins (ins A (ws[i].take (n + 1))) := by
          rw [inits_get _ _ hn', List.foldl_cons]
        rw [e] at hnext
        exact hnext h1 h2
  have outer : ∀ d i (A : List Wd), ws.length - i = d → i ≤ ws.length → A.length ≤ 1 + 100 * i → (∀ x ∈ A, x.length ≤ 100) → ((ws.drop i).flatMap inits).foldl ins A = prefs ws → Ev (fun k => spec_l2Of.l0 k (ws.map wb) (A.map wb) i) (trie ws) := by
    intro d
    induction d with
    | zero =>
      intro i A hd hi hA hAs he
      refine Ev.step (fun k => by unfold spec_l2Of.l0; rfl) (ev_neg (by rw [List.length_map]; omega) ?_)
      rw [List.drop_of_length_le (by omega)] at he
      simp only [List.flatMap_nil, List.foldl_nil] at he
      rw [he]
      exact hnodes
    | succ d ih =>
      intro i A hd hi hA hAs he
      have hi' : i < ws.length := by omega
      refine Ev.step (fun k => by unfold spec_l2Of.l0; rfl) (ev_pos (by rw [List.length_map]; omega) ?_)
      have h0 := inner i hi' (trie ws) ws[i].length 0 A (by omega) (Nat.zero_le _) (by omega) hAs (fun h1 h2 => ?_)
      · exact h0
      · rw [List.drop_zero] at h1 h2 ⊢
        refine ih (i + 1) _ (by omega) (by omega) h1 h2 ?_
        rw [List.drop_eq_getElem_cons hi', List.flatMap_cons, List.foldl_append] at he
        exact he
  have := outer _ 0 [[]] rfl (Nat.zero_le _) (by simp) (by simp) (by rw [List.drop_zero]; exact foldl_prefs ws)
  exact this
theorem l2Same_ev (a b : List ND) (ha : a.length ≤ 2000000) (hb : b.length ≤ 2000000) : Ev (fun k => spec_l2Same.f k a b) (decide (a = b)) := by
  have fin : ∀ i : Nat, (a.length ≤ i ∨ b.length ≤ i) → i ≤ a.length → i ≤ b.length → (a.take i = b.take i) → Ev (fun k => spec_l2Same.j1 k (i : Int) false a b) (decide (a = b)) := by
    intro i h h1 h2 ht
    refine Ev.step (fun k => by unfold spec_l2Same.j1; rfl) (ev_neg (by decide) (ev_eq ?_))
    rw [Bool.eq_iff_iff, beq_iff_eq, decide_eq_true_eq]
    constructor
    · intro he
      have he' : a.length = b.length := by omega
      rw [List.take_of_length_le (by omega), List.take_of_length_le (by omega)] at ht
      exact ht
    · rintro rfl; rfl
  have key : ∀ d i, a.length - i = d → i ≤ a.length → i ≤ b.length → a.take i = b.take i → Ev (fun k => spec_l2Same.l0 k (i : Int) a b) (decide (a = b)) := by
    intro d
    induction d with
    | zero =>
      intro i hd h1 h2 ht
      exact Ev.step (fun k => by unfold spec_l2Same.l0; rfl) (ev_neg (by omega) (fin i (by omega) h1 h2 ht))
    | succ d ih =>
      intro i hd h1 h2 ht
      have hia : i < a.length := by omega
      refine Ev.step (fun k => by unfold spec_l2Same.l0; rfl) (ev_pos (by omega) ?_)
      by_cases hib : i < b.length
      · rw [decide_eq_true (show (i : Int) < (b.length : Int) by omega)]
        refine Ev.step (fun k => by unfold spec_l2Same.j1; rfl) (ev_pos rfl (ev_pos (by omega) (ev_pos (by omega) (ev_pos (by omega) ?_))))
        rw [rd_nd hia, rd_nd hib]
        by_cases hc : a[i] = b[i]
        · refine ev_neg (by rw [hc]; simp) ?_
          rw [inc (by omega)]
          refine ih (i + 1) (by omega) (by omega) (by omega) ?_
          rw [List.take_succ_eq_append_getElem hia, List.take_succ_eq_append_getElem hib, ht, hc]
        · refine ev_pos ?_ (ev_eq ?_)
          · by_cases h1 : a[i].f0 = b[i].f0
            · by_cases h2 : a[i].f1 = b[i].f1
              · by_cases h3 : a[i].f2 = b[i].f2
                · exact absurd (show a[i] = b[i] by cases ha : a[i]; cases hb : b[i]; rw [ha, hb] at h1 h2 h3; simp at h1 h2 h3; rw [h1, h2, h3]) hc
                · simp [h3]
              · simp [h2]
            · simp [h1]
          · symm; rw [decide_eq_false_iff_not]; rintro rfl; exact hc rfl
      · rw [decide_eq_false (by omega)]
        exact fin i (by omega) h1 h2 ht
  exact key _ 0 rfl (Nat.zero_le _) (Nat.zero_le _) rfl
theorem l2Trie_ev (t : List ND) (ht : t.length ≤ 2000000) : Ev (fun k => spec_l2Trie.f k t) (isT t) := by
  unfold spec_l2Trie.f
  rw [l1In_eq]
  refine ev_some (ev_ite (fun hc => ?_) (fun hc => ev_eq ?_))
  · have hl := of_decide_eq_true hc
    obtain ⟨ws, h1, h2, h3, h4⟩ := l2Words_ev t (by omega)
    refine Ev.bind h1 ?_
    refine Ev.bind (l2Set_ev ws (by omega) (fun x hx => by have := h3 x hx; omega)) ?_
    have href := isT_ref t (by omega) (ws.map bw) (fun P hP => by rw [h4 P hP, bw_map_wb])
    unfold refSet
    by_cases hall : ∀ w ∈ ws.map bw, okW w
    · rw [if_pos hall]
      refine ev_ite (fun hc2 => ?_) (fun hc2 => ev_eq ?_)
      · have hl2 : (setW (ws.map bw)).length ≤ 40 := of_decide_eq_true hc2
        refine Ev.bind (l2Of_ev (setW (ws.map bw)) (by omega) (fun w hw => ?_)) ?_
        · have := (hall w ((mem_setW _ w).1 hw)).1; omega
        · have hb := trie_bound (ws := setW (ws.map bw)) (fun w hw => hall w ((mem_setW _ w).1 hw)) hl2
          refine Ev.bind (l2Same_ev _ t (by omega) ht) (ev_eq ?_)
          rw [Bool.eq_iff_iff, isT_iff, href, decide_eq_true_eq]
          exact ⟨fun h => ⟨hall, hl2, h⟩, fun h => h.2.2⟩
      · symm; rw [Bool.eq_false_iff, Ne, isT_iff, href]
        exact fun h => hc2 (decide_eq_true h.2.1)
    · rw [if_neg hall]
      refine ev_neg (by decide) (ev_eq ?_)
      symm; rw [Bool.eq_false_iff, Ne, isT_iff, href]
      exact fun h => hall h.1
  · symm; rw [Bool.eq_false_iff, Ne, isT_iff]
    rintro ⟨ws, h1, h2, h3, rfl⟩
    have := trie_bound h2 h3
    exact hc (decide_eq_true (by omega))
end Go.Proofs.YtcplbbflfgckbaaGreatDoor.Pl
set_option linter.unusedVariables false
set_option linter.unusedSimpArgs false
namespace Go.Proofs.YtcplbbflfgckbaaGreatDoor.Pl
open Go.RowKit Go.Proofs.YtcplbbflfgckbaaGreatDoorW.PrintWords Go.Proofs.YtcplbbflfgckbaaGreatDoorW.PrintLast Go.Proofs.YtcplbbflfgckbaaGreatDoorW.PrintMore Go.Proofs.YtcplbbflfgckbaaGreatDoor.X

theorem At.zero : At 0 0 := ⟨by omega, by omega⟩
theorem word_dr {l : List Int} (hl : isCodeB l) {n : Nat} {a s : Int} (h : At n a) (hn : n ≤ 900000) : Dr (fun k => spec_l1Cur_word.f k l a s) (n + 40) (fun w => w.size ≤ 25) := by
  unfold spec_l1Cur_word.f
  refine Dr.bind (among_dr hl h (by omega) _ (by decide)) fun c a1 s1 g1 hc => ?_
  have hc2 : 0 ≤ c ∧ c ≤ 12 := by
    simp only [List.mem_cons, List.not_mem_nil, or_false] at hc
    omega
  obtain ⟨m, rfl⟩ : ∃ m : Nat, c = m := ⟨c.toNat, by omega⟩
  have hm : m ≤ 12 := by omega
  clear hc hc2
  dsimp only
  have key : ∀ (m : Nat) (x : ByteArray) (p : Nat) (a s : Int), At p a → p + 2 * m ≤ 1000000 → x.size + m ≤ 12 → Dr (fun k => spec_l1Cur_word.l0 k x (m : Int) l a s) (p + 2 * m + 4) (fun w => w.size ≤ 25) := by
    intro m
    induction m with
    | zero =>
      intro x p a s g hp hx
      refine Dr.step (fun k => by unfold spec_l1Cur_word.l0; rfl) (Dr.neg (by omega) ?_)
      refine Dr.bind (one_dr hl g (by omega) 50) fun b a2 s2 g2 _ => ?_
      dsimp only
      refine Dr.ite (fun _ => ?_) (fun _ => (Dr.ret g2 (by omega)).le (by omega) (fun _ h => h))
      refine Dr.bind (of_dr hl g2 (by omega) _ (by decide)) fun y a3 s3 g3 hy => ?_
      have hy2 := small_mem' (m := 13) hy (by decide)
      dsimp only
      refine Dr.pos (by omega) ((Dr.ret g3 (by rw [ByteArray.size_append]; omega)).le (by omega) (fun _ h => h))
    | succ m ih =>
      intro x p a s g hp hx
      refine Dr.step (fun k => by unfold spec_l1Cur_word.l0; rfl) (Dr.pos (by omega) ?_)
      refine Dr.bind (of_dr hl g (by omega) _ (by decide)) fun y a3 s3 g3 hy => ?_
      have hy2 := small_mem' (m := 1) hy (by decide)
      have hdec : wrap64 (((m + 1 : Nat) : Int) - 1) = (m : Int) := by rw [w64 (by omega) (by omega)]; omega
      dsimp only
      rw [hdec]
      refine Dr.pos (by omega) ((ih (x ++ y) (p + 2) a3 s3 g3 (by omega) (by rw [ByteArray.size_append]; omega)).le (by omega) (fun _ h => h))
  exact (key m _ _ a1 s1 g1 (by omega) (by show (⟨#[]⟩ : ByteArray).size + m ≤ 12; show 0 + m ≤ 12; omega)).le (by omega) (fun _ h => h)
theorem words_dr {l : List Int} (hl : isCodeB l) {n : Nat} {a s : Int} (h : At n a) (hn : n ≤ 800000) : Dr (fun k => spec_l1Cur_words.f k l a s) (n + 1000) (fun ws => ws.length ≤ 60 ∧ ∀ w ∈ ws, w.size ≤ 25) := by
  unfold spec_l1Cur_words.f
  refine Dr.bind (among_dr hl h (by omega) _ (by decide)) fun c a1 s1 g1 hc => ?_
  have hc2 : 0 ≤ c ∧ c ≤ 12 := by
    simp only [List.mem_cons, List.not_mem_nil, or_false] at hc
    omega
  obtain ⟨m, rfl⟩ : ∃ m : Nat, c = m := ⟨c.toNat, by omega⟩
  have hm : m ≤ 12 := by omega
  clear hc hc2
  dsimp only
  have snoc : ∀ {ws : List ByteArray} {w : ByteArray}, (∀ x ∈ ws, x.size ≤ 25) → w.size ≤ 25 → ∀ x ∈ ws ++ [w], x.size ≤ 25 := fun h1 h2 x hx => by
    rcases List.mem_append.1 hx with h | h
    · exact h1 x h
    · rw [List.mem_singleton.1 h]; exact h2
  -- the many
  have many : ∀ (i : Nat) (ws : List ByteArray) (p : Nat) (a s : Int), i ≤ 41 → At p a → ws.length ≤ 60 - i → (∀ w ∈ ws, w.size ≤ 25) → Dr (fun k => spec_l1Cur_words.l1 k ws ((41 - i : Nat) : Int) l a s) p (fun ws => ws.length ≤ 60 ∧ ∀ w ∈ ws, w.size ≤ 25) := by
    intro i
    induction i with
    | zero =>
      intro ws p a s hi g h1 h2
      exact Dr.step (fun k => by unfold spec_l1Cur_words.l1; rfl) (Dr.neg (by omega) (Dr.ret g ⟨by omega, h2⟩))
    | succ i ih =>
      intro ws p a s hi g h1 h2
      have hw : wrap64 (((41 - (i + 1) : Nat) : Int) + 1) = ((41 - i : Nat) : Int) := by rw [w64 (by omega) (by omega)]; omega
      refine Dr.step (fun k => by unfold spec_l1Cur_words.l1; rfl) (Dr.pos (by omega) (Dr.pos (by omega) ?_))
      rw [hw]
      exact ih _ p a s (by omega) g (by rw [List.length_append]; simp only [List.length_cons, List.length_nil]; omega) (snoc h2 (by show (2 : Nat) ≤ 25; omega))
  -- behind one
  have key : ∀ (m : Nat) (ws : List ByteArray) (p : Nat) (a s : Int), At p a → p + 60 * m ≤ 900000 → ws.length + m ≤ 12 → (∀ w ∈ ws, w.size ≤ 25) → Dr (fun k => spec_l1Cur_words.l0 k ws (m : Int) l a s) (p + 60 * m + 4) (fun ws => ws.length ≤ 60 ∧ ∀ w ∈ ws, w.size ≤ 25) := by
    intro m
    induction m with
    | zero =>
      intro ws p a s g hp h1 h2
      refine Dr.step (fun k => by unfold spec_l1Cur_words.l0; rfl) (Dr.neg (by omega) ?_)
      refine Dr.bind (one_dr hl g (by omega) 40) fun b a2 s2 g2 _ => ?_
      dsimp only
      refine Dr.ite (fun _ => ?_) (fun _ => (Dr.ret g2 ⟨by omega, h2⟩).le (by omega) (fun _ h => h))
      exact (many 41 ws _ a2 s2 (by omega) g2 (by omega) h2).le (by omega) (fun _ h => h)
    | succ m ih =>
      intro ws p a s g hp h1 h2
      have hdec : wrap64 (((m + 1 : Nat) : Int) - 1) = (m : Int) := by rw [w64 (by omega) (by omega)]; omega
      have next : ∀ (w : ByteArray) (q : Nat) (a s : Int), w.size ≤ 25 → At q a → q ≤ p + 56 → Dr (fun k => spec_l1Cur_words.l0 k (ws ++ [w]) (wrap64 (((m + 1 : Nat) : Int) - 1)) l a s) (p + 60 * (m + 1) + 4) (fun ws => ws.length ≤ 60 ∧ ∀ w ∈ ws, w.size ≤ 25) := by
        intro w q a s hw hq hqp
        rw [hdec]
        exact (ih (ws ++ [w]) q a s hq (by omega) (by rw [List.length_append]; simp only [List.length_cons, List.length_nil]; omega) (snoc h2 hw)).le (by omega) (fun _ h => h)
      refine Dr.step (fun k => by unfold spec_l1Cur_words.l0; rfl) (Dr.pos (by omega) ?_)
      refine Dr.bind (word_dr hl g (by omega)) fun w a2 s2 g2 hw => ?_
      dsimp only
      have j2 : ∀ (w : ByteArray) (b : Bool) (q : Nat) (a s : Int), w.size ≤ 25 → (b = true → w.size < 12) → At q a → q ≤ p + 50 → Dr (fun k => spec_l1Cur_words.j2 k ws ((m + 1 : Nat) : Int) w b l a s) (p + 60 * (m + 1) + 4) (fun ws => ws.length ≤ 60 ∧ ∀ w ∈ ws, w.size ≤ 25) := by
        intro w b q a s hw hb hq hqp
        refine Dr.step (fun k => by unfold spec_l1Cur_words.j2; rfl) (Dr.ite (fun hb2 => ?_) (fun _ => Dr.ite (fun h0 => ?_) (fun _ => ?_)))
        · refine Dr.bind (of_dr hl hq (by omega) _ (by decide)) fun y a3 s3 g3 hy => ?_
          have hy2 := small_mem' (m := 1) hy (by decide)
          have := hb hb2
          dsimp only
          exact Dr.pos (by omega) (Dr.pos (by omega) (next _ _ a3 s3 (by rw [ByteArray.size_append]; omega) g3 (by omega)))
        · rw [w64 (by omega) (by omega)]
          exact Dr.pos (by omega) (Dr.pos (by omega) (Dr.pos (by omega) (next _ _ a s (by rw [ByteArray.size_extract]; omega) hq (by omega))))
        · exact Dr.pos (by omega) (next _ _ a s hw hq (by omega))
      have j1 : ∀ (b : Bool) (q : Nat) (a s : Int), (b = true → 0 < ws.length) → At q a → q ≤ p + 44 → Dr (fun k => spec_l1Cur_words.j1 k ws ((m + 1 : Nat) : Int) w b l a s) (p + 60 * (m + 1) + 4) (fun ws => ws.length ≤ 60 ∧ ∀ w ∈ ws, w.size ≤ 25) := by
        intro b q a s hb hq hqp
        refine Dr.step (fun k => by unfold spec_l1Cur_words.j1; rfl) (Dr.ite (fun hb2 => ?_) (fun _ => ?_))
        · refine Dr.bind (pick_dr hl hq (by omega) _) fun i a3 s3 g3 hi => ?_
          have := hb hb2
          have hi2 := hi.2 (by omega)
          dsimp only
          refine Dr.pos hi.1 (Dr.pos hi2 ?_)
          obtain ⟨i, rfl⟩ : ∃ j : Nat, i = j := ⟨i.toNat, by omega⟩
          have hm : rdOf ByteArray.empty ws (i : Int) ∈ ws := getD_mem (by omega) _
          refine Dr.bind (one_dr hl g3 (by omega) 2) fun c a4 s4 g4 _ => ?_
          dsimp only
          refine Dr.ite (fun _ => ?_) (fun _ => ?_)
          · exact j2 _ _ _ a4 s4 (h2 _ hm) (fun hd => by have := of_decide_eq_true hd; omega) g4 (by omega)
          · exact j2 _ _ _ a4 s4 (h2 _ hm) (fun hd => absurd hd (by decide)) g4 (by omega)
        · exact Dr.pos (by omega) (next _ _ a s hw hq (by omega))
      refine Dr.ite (fun h0 => ?_) (fun _ => j1 _ _ a2 s2 (fun hd => absurd hd (by decide)) g2 (by omega))
      refine Dr.bind (one_dr hl g2 (by omega) 3) fun c a3 s3 g3 _ => ?_
      dsimp only
      exact j1 _ _ a3 s3 (fun _ => by omega) g3 (by omega)
  exact (key m _ _ a1 s1 g1 (by omega) (by simp; omega) (by simp)).le (by omega) (fun _ h => h)
theorem trie_dr {l : List Int} (hl : isCodeB l) {n : Nat} {a s : Int} (h : At n a) (hn : n ≤ 700000) : Dr (fun k => spec_l1Cur_trie.f k l a s) (n + 1010) (fun t => t.length ≤ 482) := by
  unfold spec_l1Cur_trie.f
  refine Dr.bind (words_dr hl h (by omega)) fun ws a1 s1 g1 hw => ?_
  dsimp only
  refine Dr.ev (l2Set_ev ws (by omega) (fun x hx => by have := hw.2 x hx; omega)) ?_
  dsimp only
  unfold refSet
  by_cases hok : ∀ w ∈ ws.map bw, okW w
  case neg => rw [if_neg hok]; exact Dr.neg (by decide) ((Dr.ret g1 (by simp)).le (by omega) (fun _ h => h))
  rw [if_pos hok]
  refine Dr.ite (fun h40 => ?_) (fun _ => (Dr.ret g1 (by simp)).le (by omega) (fun _ h => h))
  have h40' : (setW (ws.map bw)).length ≤ 40 := of_decide_eq_true h40
  have hok2 : ∀ w ∈ setW (ws.map bw), okW w := fun w hx => hok w ((mem_setW _ w).1 hx)
  dsimp only
  refine Dr.ev (l2Of_ev _ (by omega) (fun w hx => by have := (hok2 w hx).1; omega)) ?_
  obtain ⟨b1, b2⟩ := trie_bound hok2 h40'
  generalize trie (setW (ws.map bw)) = t at b1 b2
  refine Dr.bind (pick_dr hl g1 (by omega) 60) fun c a2 s2 g2 hc => ?_
  dsimp only
  have fin : ∀ (i : Int) (x : ND) (q : Nat) (a s : Int), 0 ≤ i ∧ (1 ≤ (t.length : Int) → i < (t.length : Int)) → At q a → q ≤ n + 1010 → Dr (fun _ => if 0 ≤ i then (if i < (t.length : Int) then some (t.set i.toNat x, a, s) else none) else none) (n + 1010) (fun t => t.length ≤ 482) := by
    intro i x q a s hi hq hqn
    exact Dr.pos hi.1 (Dr.pos (hi.2 (by omega)) ((Dr.ret hq (by simp; omega)).le hqn (fun _ h => h)))
  refine Dr.ite (fun _ => ?_) (fun _ => Dr.ite (fun _ => ?_) (fun _ => Dr.ite (fun _ => ?_) (fun _ => Dr.ite (fun _ => ?_) (fun _ => ?_))))
  · refine Dr.bind (pick_dr hl g2 (by omega) _) fun i a3 s3 g3 hi => ?_
    refine Dr.bind (one_dr hl g3 (by omega) 2) fun b a4 s4 g4 _ => ?_
    exact fin i _ _ a4 s4 hi g4 (by omega)
  · refine Dr.bind (pick_dr hl g2 (by omega) _) fun i a3 s3 g3 hi => ?_
    refine Dr.bind (among_dr hl g3 (by omega) _ (by simp)) fun b a4 s4 g4 _ => ?_
    exact fin i _ _ a4 s4 hi g4 (by omega)
  · refine Dr.bind (pick_dr hl g2 (by omega) _) fun i a3 s3 g3 hi => ?_
    refine Dr.bind (among_dr hl g3 (by omega) _ (by simp)) fun b a4 s4 g4 _ => ?_
    exact fin i _ _ a4 s4 hi g4 (by omega)
  · refine Dr.bind (one_dr hl g2 (by omega) 2) fun b a4 s4 g4 _ => ?_
    exact Dr.pos (by omega) ((Dr.ret g4 (by rw [List.length_append]; simp only [List.length_cons, List.length_nil]; omega)).le (by omega) (fun _ h => h))
  · exact (Dr.ret g2 (by omega)).le (by omega) (fun _ h => h)
theorem wordOf_dr {l : List Int} (hl : isCodeB l) {n : Nat} {a s : Int} (h : At n a) (hn : n ≤ 700000) (t : List ND) (ht : t.length ≤ 482) : Dr (fun k => spec_l1Cur_wordOf.f k l a s t) (n + 60) (fun w => w.size ≤ 25) := by
  unfold spec_l1Cur_wordOf.f
  have j1 : ∀ (w : ByteArray) (b : Bool) (q : Nat) (a s : Int), w.size ≤ 13 → At q a → q ≤ n + 10 → Dr (fun k => spec_l1Cur_wordOf.j1 k w b l a s) (n + 60) (fun w => w.size ≤ 25) := by
    intro w b q a s hw hq hqn
    refine Dr.step (fun k => by unfold spec_l1Cur_wordOf.j1; rfl) (Dr.ite (fun _ => ?_) (fun _ => (Dr.ret hq (by omega)).le (by omega) (fun _ h => h)))
    refine Dr.bind (of_dr hl hq (by omega) _ (by decide)) fun y a3 s3 g3 hy => ?_
    have hy2 := small_mem' (m := 1) hy (by decide)
    exact Dr.pos (by dsimp only; omega) ((Dr.ret g3 (by dsimp only; rw [ByteArray.size_append]; omega)).le (by omega) (fun _ h => h))
  have j0 : ∀ (b : Bool) (q : Nat) (a s : Int), (b = true → 0 < t.length) → At q a → q ≤ n + 4 → Dr (fun k => spec_l1Cur_wordOf.j0 k (t.length : Int) b l a s t) (n + 60) (fun w => w.size ≤ 25) := by
    intro b q a s hb hq hqn
    refine Dr.step (fun k => by unfold spec_l1Cur_wordOf.j0; rfl) (Dr.ite (fun hb2 => ?_) (fun _ => ?_))
    · have := hb hb2
      refine Dr.bind (pick_dr hl hq (by omega) _) fun i a3 s3 g3 hi => ?_
      have hi2 := hi.2 (by omega)
      obtain ⟨i, rfl⟩ : ∃ j : Nat, i = j := ⟨i.toNat, by omega⟩
      obtain ⟨r, hr1, hr2, _⟩ := l2Prefix_ev t (by omega) i (by omega)
      refine Dr.ev hr1 ?_
      refine Dr.bind (one_dr hl g3 (by omega) 4) fun c a4 s4 g4 _ => ?_
      exact Dr.ite (fun _ => j1 _ _ _ a4 s4 hr2 g4 (by omega)) (fun _ => j1 _ _ _ a4 s4 hr2 g4 (by omega))
    · refine Dr.bind (word_dr hl hq (by omega)) fun w a3 s3 g3 hw => ?_
      dsimp only at hw ⊢
      exact (Dr.ret (Q := fun w : ByteArray => w.size ≤ 25) g3 hw).le (by omega) (fun _ h => h)
  refine Dr.ite (fun h0 => ?_) (fun _ => j0 _ _ a s (fun hd => absurd hd (by decide)) h (by omega))
  refine Dr.bind (one_dr hl h (by omega) 3) fun c a3 s3 g3 _ => ?_
  refine Dr.ite (fun _ => j0 _ _ a3 s3 (fun hd => absurd hd (by decide)) g3 (by omega)) (fun _ => ?_)
  exact Dr.ev (l2Trie_ev t (by omega)) (j0 _ _ a3 s3 (fun _ => by omega) g3 (by omega))
end Go.Proofs.YtcplbbflfgckbaaGreatDoor.Pl
set_option linter.unusedVariables false
set_option linter.unusedSimpArgs false
namespace Go.Proofs.YtcplbbflfgckbaaGreatDoor.Pl
open Go.RowKit Go.Proofs.YtcplbbflfgckbaaGreatDoorW.PrintWords Go.Proofs.YtcplbbflfgckbaaGreatDoorW.PrintLast Go.Proofs.YtcplbbflfgckbaaGreatDoorW.PrintMore Go.Proofs.YtcplbbflfgckbaaGreatDoor.X

theorem in_eq (a b c : Int) : impl_in.f a b c = some (decide (b ≤ a ∧ a ≤ c)) := by
  unfold impl_in.f
  by_cases h : a ≥ b
  · rw [if_pos h]; congr 1; rw [decide_eq_decide]; exact ⟨fun h2 => ⟨h, h2⟩, fun h2 => h2.2⟩
  · rw [if_neg h]; congr 1; symm; rw [decide_eq_false_iff_not]; exact fun h2 => h h2.1
/-! ### prefixes and words -/
theorem getD_wb (ps : List Wd) (i : Nat) (h : i < ps.length) : rdOf ByteArray.empty (ps.map wb) (i : Int) = wb (ps.getD i []) := by
  rw [rdOf_map_wb ps i h, List.getD_eq_getElem?_getD, List.getElem?_eq_getElem h, Option.getD_some]
theorem prefixes_ev (t : List ND) (ht : t.length ≤ 2000000) : Ev (fun k => impl_Trie_prefixes.f k t) (match prefP t with | some P => (P.map wb, true) | none => ([], false)) := by
  unfold impl_Trie_prefixes.f
  rw [in_eq]
  refine ev_some ?_
  unfold prefP
  by_cases hc : 1 ≤ t.length ∧ t.length ≤ 481
  case neg =>
    rw [if_neg hc]
    exact ev_neg (by simp only [decide_eq_true_eq]; omega) (ev_eq rfl)
  rw [if_pos hc]
  refine ev_pos (decide_eq_true (by omega)) (ev_pos (by omega) (ev_some ?_))
  obtain ⟨ns, hns⟩ : ∃ ns, ns = t.drop 1 := ⟨_, rfl⟩
  rw [← hns]
  have hnl : ns.length ≤ 480 := by rw [hns, List.length_drop]; omega
  have key : ∀ d i (out : List Wd), ns.length - i = d → i ≤ ns.length → out.length = i + 1 → (∀ p ∈ out, p.length ≤ i) → Ev (fun k => impl_Trie_prefixes.l0 k (out.map wb) ns (ns.length : Int) (i : Int)) (match goP out (ns.drop i) with | some P => (P.map wb, true) | none => ([], false)) := by
    intro d
    induction d with
    | zero =>
      intro i out hd hi ho hs
      refine Ev.step (fun k => by unfold impl_Trie_prefixes.l0; rfl) (ev_neg (by omega) (ev_eq ?_))
      rw [List.drop_of_length_le (by omega)]
      rfl
    | succ d ih =>
      intro i out hd hi ho hs
      have hi' : i < ns.length := by omega
      refine Ev.step (fun k => by unfold impl_Trie_prefixes.l0; rfl) (ev_pos (by omega) (ev_pos (by omega) (ev_pos (by omega) ?_)))
      rw [rd_nd hi', in_eq, List.drop_eq_getElem_cons hi']
      unfold goP
      refine ev_some ?_
      by_cases h1 : 0 ≤ ns[i].f1 ∧ ns[i].f1 ≤ (i : Int)
      case neg =>
        rw [if_neg (fun h => h1 ⟨h.1, by omega⟩)]
        exact ev_neg (by simpa using h1) (ev_eq rfl)
      refine ev_pos (decide_eq_true h1) ?_
      rw [in_eq]
      refine ev_some ?_
      by_cases h2 : 0 ≤ ns[i].f0 ∧ ns[i].f0 ≤ 25
      case neg =>
        rw [if_neg (fun h => h2 ⟨h.2.2.1, h.2.2.2⟩)]
        exact ev_neg (by simpa using h2) (ev_eq rfl)
      refine ev_pos (decide_eq_true h2) (ev_pos h1.1 (ev_pos (by rw [List.length_map]; omega) ?_))
      rw [if_pos ⟨h1.1, by omega, h2.1, h2.2⟩]
      unfold impl_letter.f
      refine ev_some ?_
      rw [letter_str h2.1 h2.2]
      have hpo : ns[i].f1.toNat < out.length := by omega
      have hps := hs _ (getD_mem (l := out) (i := ns[i].f1.toNat) hpo [])
      have e1 : rdOf ByteArray.empty (out.map wb) ns[i].f1 = wb (out.getD ns[i].f1.toNat []) := by
        have := getD_wb out ns[i].f1.toNat hpo
        rwa [show ((ns[i].f1.toNat : Nat) : Int) = ns[i].f1 by omega] at this
      rw [e1]
      refine ev_pos (by rw [wb_size, wb_size, List.length_singleton]; omega) (ev_pos (by rw [List.length_map]; omega) ?_)
      rw [wb_append, inc (by omega)]
      have := ih (i + 1) (out ++ [out.getD ns[i].f1.toNat [] ++ [letterB ns[i].f0]]) (by omega) (by omega) (by rw [List.length_append, List.length_singleton]; omega) (fun p hp => by
        rcases List.mem_append.1 hp with hp | hp
        · have := hs p hp; omega
        · rw [List.mem_singleton] at hp; subst hp
          rw [List.length_append, List.length_singleton]; omega)
      rw [List.map_append] at this
      exact this
  have := key _ 0 [[]] rfl (Nat.zero_le _) rfl (by simp)
  rw [List.drop_zero] at this
  exact this
theorem words_ev {t : List ND} {P : List Wd} (h : prefP t = some P) : Ev (fun k => impl_Trie_words.f k t) ((wordsP t P).map wb) := by
  have hP := prefP_spec h
  have hp := prefixes_ev t (by omega)
  rw [h] at hp
  unfold impl_Trie_words.f
  refine Ev.bind hp ?_
  have key : ∀ d i, t.length - i = d → i ≤ t.length → ∀ acc : List ByteArray, acc.length ≤ i → Ev (fun k => impl_Trie_words.l0 k (P.map wb) acc t (t.length : Int) i) (acc ++ ((((List.range t.length).drop i).filter fun i => (t.getD i zND).f2).map fun i => P.getD i []).map wb) := by
    intro d
    induction d with
    | zero =>
      intro i hd hi acc ha
      refine Ev.step (fun k => by unfold impl_Trie_words.l0; rfl) (ev_neg (by omega) (ev_eq ?_))
      rw [List.drop_of_length_le (by simp; omega)]
      simp
    | succ d ih =>
      intro i hd hi acc ha
      have hi' : i < t.length := by omega
      refine Ev.step (fun k => by unfold impl_Trie_words.l0; rfl) (ev_pos (by omega) (ev_pos (by omega) (ev_pos (by omega) ?_)))
      have e : (List.range t.length).drop i = i :: (List.range t.length).drop (i + 1) := by
        rw [List.drop_eq_getElem_cons (by simpa using hi')]; simp
      have eg : (t.getD i zND).f2 = t[i].f2 := by rw [List.getD_eq_getElem?_getD, List.getElem?_eq_getElem hi', Option.getD_some]
      rw [rd_nd hi', e, List.filter_cons, eg]
      refine ev_ite (fun hc => ?_) (fun hc => ?_)
      · rw [getD_wb P i (by omega)]
        refine ev_pos (by rw [List.length_map]; omega) (ev_pos (by omega) ?_)
        rw [inc (by omega), if_pos hc]
        have := ih (i + 1) (by omega) (by omega) (acc ++ [wb (P.getD i [])]) (by simp; omega)
        rw [List.map_cons, List.map_cons]
        rw [List.append_assoc, List.singleton_append] at this
        exact this
      · rw [inc (by omega), if_neg hc]
        exact ih (i + 1) (by omega) (by omega) acc (by omega)
  have := key _ 0 rfl (Nat.zero_le _) [] (Nat.le_refl _)
  rw [List.nil_append, List.drop_zero] at this
  exact this
/-! ### comparisons -/
theorem less_eq (a b : ByteArray) : cmp_Less_string.f a b = some (decide (bw a < bw b)) := by
  unfold cmp_Less_string.f cmp_isNaN_string.f
  simp only [Option.bind_some, bne_self_eq_false, Bool.false_eq_true, if_false]
  rw [Go.Proofs.bytesLess_eq, toList_bw, toList_bw]
theorem isSorted_ev (l : List Wd) (hl : l.length ≤ 1000000) : Ev (fun k => slices_IsSorted_string_string.f k (l.map wb)) (decide (l.Pairwise (· ≤ ·))) := by
  have key : ∀ i, i < l.length → Ev (fun k => slices_IsSorted_string_string.l0 k (l.map wb) (i : Int)) (decide ((l.take (i + 1)).Pairwise (· ≤ ·))) := by
    intro i
    induction i with
    | zero =>
      intro hi
      refine Ev.step (fun k => by unfold slices_IsSorted_string_string.l0; rfl) (ev_neg (by omega) (ev_eq ?_))
      symm; rw [decide_eq_true_eq]
      match l, hi with
      | x :: l, _ => simp
    | succ i ih =>
      intro hi
      refine Ev.step (fun k => by unfold slices_IsSorted_string_string.l0; rfl) (ev_pos (by omega) (ev_pos (by omega) (ev_pos (by rw [List.length_map]; omega) ?_)))
      rw [show wrap64 (((i + 1 : Nat) : Int) - 1) = ((i : Nat) : Int) by rw [w64 (by omega) (by omega)]; omega]
      refine ev_pos (by omega) (ev_pos (by rw [List.length_map]; omega) ?_)
      rw [rdOf_map_wb l (i + 1) hi, rdOf_map_wb l i (by omega), less_eq, bw_wb, bw_wb]
      refine ev_some (ev_ite (fun hc => ev_eq ?_) (fun hc => ?_))
      · symm; rw [decide_eq_false_iff_not]
        intro h
        have h1 : (l.take (i + 1 + 1))[i]'(by rw [List.length_take]; omega) ≤ (l.take (i + 1 + 1))[i + 1]'(by rw [List.length_take]; omega) := List.pairwise_iff_getElem.1 h i (i + 1) _ _ (by omega)
        rw [List.getElem_take, List.getElem_take] at h1
        exact absurd (of_decide_eq_true hc) (List.not_lt.2 h1)
      · refine Eq.mp (congrArg _ ?_) (ih (by omega))
        rw [decide_eq_decide, List.take_succ_eq_append_getElem hi, List.pairwise_append]
        constructor
        · intro h
          refine ⟨h, by simp, fun a ha b hb => ?_⟩
          rw [List.mem_singleton] at hb
          subst hb
          have h2 : l[i] ≤ l[i + 1] := List.not_lt.1 (fun h3 => hc (decide_eq_true h3))
          obtain ⟨j, hj, rfl⟩ := List.getElem_of_mem ha
          rw [List.length_take] at hj
          rcases Nat.lt_or_ge j i with h3 | h3
          · have h4 : (l.take (i + 1))[j]'(by rw [List.length_take]; omega) ≤ (l.take (i + 1))[i]'(by rw [List.length_take]; omega) := List.pairwise_iff_getElem.1 h j i _ _ h3
            rw [List.getElem_take (i := i)] at h4
            exact List.le_trans h4 h2
          · obtain rfl : j = i := by omega
            rw [List.getElem_take]; exact h2
        · exact fun h => h.1
  unfold slices_IsSorted_string_string.f
  rw [List.length_map]
  rcases Nat.eq_zero_or_pos l.length with h0 | h0
  · have : l = [] := List.length_eq_zero_iff.1 h0
    subst this
    exact Ev.step (fun k => by unfold slices_IsSorted_string_string.l0; rfl) (ev_neg (by rw [show ((([] : List Wd).length : Int) - 1) = -1 from rfl, w64 (by omega) (by omega)]; omega) (ev_eq (by simp)))
  · have := key (l.length - 1) (by omega)
    rw [show wrap64 ((l.length : Int) - 1) = ((l.length - 1 : Nat) : Int) by rw [w64 (by omega) (by omega)]; omega]
    rwa [show l.length - 1 + 1 = l.length by omega, List.take_length] at this
theorem equal_ev (a b : List ND) (ha : a.length ≤ 2000000) : Ev (fun k => impl_Node.f k a b) (decide (a = b)) := by
  unfold impl_Node.f
  refine ev_ite (fun hl => ?_) (fun hl => ev_eq ?_)
  · have hl' : a.length = b.length := by omega
    have key : ∀ d i, a.length - i = d → i ≤ a.length → a.take i = b.take i → Ev (fun k => impl_Node.l0 k a b (a.length : Int) (i : Int)) (decide (a = b)) := by
      intro d
      induction d with
      | zero =>
        intro i hd hi ht
        refine Ev.step (fun k => by unfold impl_Node.l0; rfl) (ev_neg (by omega) (ev_eq ?_))
        symm; rw [decide_eq_true_eq]
        rw [List.take_of_length_le (by omega), List.take_of_length_le (by omega)] at ht
        exact ht
      | succ d ih =>
        intro i hd hi ht
        have hia : i < a.length := by omega
        have hib : i < b.length := by omega
        refine Ev.step (fun k => by unfold impl_Node.l0; rfl) (ev_pos (by omega) (ev_pos (by omega) (ev_pos (by omega) (ev_pos (by omega) ?_))))
        rw [rd_nd hia, rd_nd hib]
        by_cases hc : a[i] = b[i]
        · refine ev_neg (by rw [hc]; simp) ?_
          rw [inc (by omega)]
          refine ih (i + 1) (by omega) (by omega) ?_
          rw [List.take_succ_eq_append_getElem hia, List.take_succ_eq_append_getElem hib, ht, hc]
        · refine ev_pos ?_ (ev_eq ?_)
          · by_cases h1 : a[i].f0 = b[i].f0
            · by_cases h2 : a[i].f1 = b[i].f1
              · by_cases h3 : a[i].f2 = b[i].f2
                · exact absurd (show a[i] = b[i] by cases ha : a[i]; cases hb : b[i]; rw [ha, hb] at h1 h2 h3; simp at h1 h2 h3; rw [h1, h2, h3]) hc
                · simp [h3]
              · simp [h2]
            · simp [h1]
          · symm; rw [decide_eq_false_iff_not]; rintro rfl; exact hc rfl
    exact key _ 0 rfl (Nat.zero_le _) rfl
  · symm; rw [decide_eq_false_iff_not]; rintro rfl; exact hl rfl
/-! ### a word in a sorted list -/
theorem half_eq {a b : Nat} (h : a + b ≤ 1000000000) : wrap64 ((IntKind.u64.wrap (wrap64 ((a : Int) + (b : Int)))) / 2) = (((a + b) / 2 : Nat) : Int) := by
  have e0 : wrap64 ((a : Int) + (b : Int)) = (a : Int) + (b : Int) := w64 (by omega) (by omega)
  rw [e0]
  have e : IntKind.u64.wrap ((a : Int) + (b : Int)) = ((a + b : Nat) : Int) := by
    show ((a : Int) + (b : Int)) % 18446744073709551616 = _
    omega
  rw [e, w64 (by omega) (by omega)]
  omega
theorem search_at (l : List Wd) (hl : l.length ≤ 100000) (hs : l.Pairwise (· ≤ ·)) (w : ByteArray) : ∃ i : Nat, Ev (fun k => slices_BinarySearch_string_string.f k (l.map wb) w) ((i : Int), decide (bw w ∈ l)) ∧ i ≤ l.length ∧ (∀ j (hj : j < l.length), j < i → l[j] < bw w) ∧ (∀ j (hj : j < l.length), i ≤ j → ¬ l[j] < bw w) := by
  have mono : ∀ a b (ha : a < l.length) (hb : b < l.length), a ≤ b → l[a] ≤ l[b] := by
    intro a b ha hb hab
    rcases Nat.lt_or_ge a b with h1 | h1
    · exact List.pairwise_iff_getElem.1 hs a b ha hb h1
    · obtain rfl : a = b := by omega
      exact List.le_refl _
  have key : ∀ d a b, b - a = d → a ≤ b → b ≤ l.length → (∀ i (hi : i < l.length), i < a → l[i] < bw w) → (∀ i (hi : i < l.length), b ≤ i → ¬ l[i] < bw w) →
      ∃ i : Nat, Ev (fun k => slices_BinarySearch_string_string.l0 k (l.map wb) w (l.length : Int) (a : Int) (b : Int)) ((i : Int), decide (bw w ∈ l)) ∧ i ≤ l.length ∧ (∀ j (hj : j < l.length), j < i → l[j] < bw w) ∧ (∀ j (hj : j < l.length), i ≤ j → ¬ l[j] < bw w) := by
    intro d
    induction d using Nat.strongRecOn with
    | _ d ih =>
      intro a b hd hab hb h1 h2
      rcases Nat.lt_or_ge a b with hlt | hge
      · have hm := half_eq (a := a) (b := b) (by omega)
        have hmid : (a + b) / 2 < l.length := by omega
        by_cases hc : l[(a + b) / 2] < bw w
        · obtain ⟨i, hi, hr⟩ := ih (b - ((a + b) / 2 + 1)) (by omega) ((a + b) / 2 + 1) b rfl (by omega) hb (fun i hi hia => by
            have h3 := mono i ((a + b) / 2) hi hmid (by omega)
            rcases (le_iff _ _).1 h3 with h4 | h4
            · exact lt_tr h4 hc
            · rw [h4]; exact hc) h2
          refine ⟨i, Ev.step (fun k => by unfold slices_BinarySearch_string_string.l0; rfl) (ev_pos (by omega) ?_), hr⟩
          rw [hm]
          refine ev_pos (by omega) (ev_pos (by rw [List.length_map]; omega) ?_)
          rw [rdOf_map_wb l _ hmid, less_eq, bw_wb]
          refine ev_some (ev_pos (decide_eq_true hc) ?_)
          rw [inc (by omega)]
          exact hi
        · obtain ⟨i, hi, hr⟩ := ih ((a + b) / 2 - a) (by omega) a ((a + b) / 2) rfl (by omega) (by omega) h1 (fun i hi hia h3 => by
            have h4 := mono ((a + b) / 2) i hmid hi hia
            rcases (le_iff _ _).1 h4 with h5 | h5
            · exact hc (lt_tr h5 h3)
            · exact hc (by rw [h5]; exact h3))
          refine ⟨i, Ev.step (fun k => by unfold slices_BinarySearch_string_string.l0; rfl) (ev_pos (by omega) ?_), hr⟩
          rw [hm]
          refine ev_pos (by omega) (ev_pos (by rw [List.length_map]; omega) ?_)
          rw [rdOf_map_wb l _ hmid, less_eq, bw_wb]
          exact ev_some (ev_neg (by simpa using hc) hi)
      · obtain rfl : a = b := by omega
        refine ⟨a, Ev.step (fun k => by unfold slices_BinarySearch_string_string.l0; rfl) (ev_neg (by omega) ?_), hb, h1, h2⟩
        by_cases hal : a < l.length
        · refine ev_pos (by omega) (ev_pos (by omega) (ev_pos (by rw [List.length_map]; omega) ?_))
          rw [rdOf_map_wb l a hal, toList_bw, toList_bw, bw_wb]
          refine ev_ite (fun hc => ev_eq ?_) (fun hc => ?_)
          · rw [decide_eq_true (hc ▸ List.getElem_mem hal)]
          · unfold slices_isNaN_string.f
            simp only [Option.bind_some, bne_self_eq_false, Bool.false_eq_true, if_false]
            refine ev_eq ?_
            rw [decide_eq_false]
            intro hm
            obtain ⟨j, hj, hje⟩ := List.getElem_of_mem hm
            rcases Nat.lt_or_ge j a with h3 | h3
            · have := h1 j hj h3
              rw [hje] at this
              exact lt_irr _ this
            · have h4 := mono a j hal hj h3
              rw [hje] at h4
              rcases (le_iff _ _).1 h4 with h5 | h5
              · exact h2 a hal (Nat.le_refl _) h5
              · exact hc h5
        · refine ev_neg (by omega) (ev_eq ?_)
          rw [decide_eq_false]
          intro hm
          obtain ⟨j, hj, hje⟩ := List.getElem_of_mem hm
          have := h1 j hj (by omega)
          rw [hje] at this
          exact lt_irr _ this
  obtain ⟨i, hi, hr⟩ := key _ 0 l.length rfl (Nat.zero_le _) (Nat.le_refl _) (fun i hi h => absurd h (Nat.not_lt_zero _)) (fun i hi h => absurd hi (by omega))
  refine ⟨i, ?_, hr⟩
  unfold slices_BinarySearch_string_string.f
  rw [List.length_map]
  exact hi
theorem search_word (l : List Wd) (hl : l.length ≤ 100000) (hs : l.Pairwise (· ≤ ·)) (w : ByteArray) : ∃ i, Ev (fun k => slices_BinarySearch_string_string.f k (l.map wb) w) (i, decide (bw w ∈ l)) := by
  obtain ⟨i, hi, _⟩ := search_at l hl hs w
  exact ⟨_, hi⟩
end Go.Proofs.YtcplbbflfgckbaaGreatDoor.Pl
set_option linter.unusedVariables false
set_option linter.unusedSimpArgs false
namespace Go.Proofs.YtcplbbflfgckbaaGreatDoor.Pl
open Go.RowKit Go.Proofs.YtcplbbflfgckbaaGreatDoorW.PrintWords Go.Proofs.YtcplbbflfgckbaaGreatDoorW.PrintLast Go.Proofs.YtcplbbflfgckbaaGreatDoorW.PrintMore Go.Proofs.YtcplbbflfgckbaaGreatDoor.X

theorem set_eq (A : List Wd) (h : A.length ≤ 4000000) : impl_set.f (A.map wb) = some ((setW A).map wb) := by
  unfold impl_set.f
  rw [if_pos (by rw [List.length_map]; omega)]
  have e : impl_set.setOf (A.map wb) = (setW ((A.map wb).map bw)).map wb := rfl
  rw [e, bw_map_wb]
end Go.Proofs.YtcplbbflfgckbaaGreatDoor.Pl
set_option linter.unusedVariables false
set_option linter.unusedSimpArgs false
namespace Go.Proofs.YtcplbbflfgckbaaGreatDoor.Pl
open Go.RowKit Go.Proofs.YtcplbbflfgckbaaGreatDoorW.PrintWords Go.Proofs.YtcplbbflfgckbaaGreatDoorW.PrintLast Go.Proofs.YtcplbbflfgckbaaGreatDoorW.PrintMore Go.Proofs.YtcplbbflfgckbaaGreatDoor.X

/-- The map from prefixes to places, behind n of them. -/
def placesM (ps : List Wd) (n : Nat) : List (ByteArray × Int) := ((List.range n).map fun j => (wb (ps.getD j []), (j : Int))).reverse
theorem placesM_succ (ps : List Wd) (n : Nat) : placesM ps (n + 1) = (wb (ps.getD n []), (n : Int)) :: placesM ps n := by
  unfold placesM
  rw [List.range_succ, List.map_append, List.reverse_append]; rfl
theorem placesM_length (ps : List Wd) (n : Nat) : (placesM ps n).length = n := by simp [placesM]
theorem placesM_get {ps : List Wd} (hn : ps.Nodup) {q : Wd} (hq : q ∈ ps) : ∀ n, n ≤ ps.length → ps.idxOf q < n → G.mapGet (placesM ps n) (wb q) = (ps.idxOf q : Int)
  | 0, _, h => absurd h (Nat.not_lt_zero _)
  | n + 1, hl, h => by
    have hj := List.idxOf_lt_length_of_mem hq
    have hjv : ps[ps.idxOf q] = q := List.getElem_idxOf hj
    have hnl : n < ps.length := hl
    rw [placesM_succ]
    unfold G.mapGet
    have e : ps.getD n [] = ps[n] := by rw [List.getD_eq_getElem?_getD, List.getElem?_eq_getElem hnl, Option.getD_some]
    rw [e]
    have hb : (wb ps[n]).data.toList = ps[n] := bw_wb _
    have hb2 : (wb q).data.toList = q := bw_wb _
    simp only [hb, hb2]
    by_cases hc : ps[n] = q
    · rw [if_pos hc]
      have hp := List.pairwise_iff_getElem.1 hn
      rcases Nat.lt_or_ge (ps.idxOf q) n with h3 | h3
      · exact absurd (hjv.trans hc.symm) (hp _ _ hj hnl h3)
      · omega
    · rw [if_neg hc]
      refine placesM_get hn hq n (by omega) ?_
      have : ps.idxOf q ≠ n := by
        rintro rfl
        exact hc hjv
      omega
theorem trieOf_nodes (ws : List Wd) (hw : ws.length ≤ 100000) (hso : ws.Pairwise (· ≤ ·)) (hl : (prefs ws).length ≤ 100000) (hs : ∀ p ∈ prefs ws, p.length ≤ 1000000) :
    Ev (fun k => impl_trieOf.l2 k (ws.map wb) ((prefs ws).map wb) (((prefs ws).map wb).length : Int) 0 [] []) (trie ws) := by
  have key : ∀ d i, (prefs ws).length - i = d → i ≤ (prefs ws).length → Ev (fun k => impl_trieOf.l2 k (ws.map wb) ((prefs ws).map wb) (((prefs ws).map wb).length : Int) i (placesM (prefs ws) i) ((trie ws).take i)) (trie ws) := by
    intro d
    induction d with
    | zero =>
      intro i hd hi
      refine Ev.step (fun k => by unfold impl_trieOf.l2; rfl) (ev_neg (by rw [List.length_map]; omega) (ev_eq ?_))
      rw [List.take_of_length_le (by rw [trie_length]; omega)]
    | succ d ih =>
      intro i hd hi
      have hi' : i < (prefs ws).length := by omega
      have hi2 : i < (trie ws).length := by rw [trie_length]; exact hi'
      have hmem := List.getElem_mem hi'
      have hsz := hs _ hmem
      have htk : ((trie ws).take i).length = i := by rw [List.length_take]; omega
      have hn : (trie ws)[i] = nodeOf ws (prefs ws) (prefs ws)[i] := by simp [trie]
      have hnext : ∀ nd : ND, nd = (trie ws)[i] → Ev (fun k => impl_trieOf.l2 k (ws.map wb) ((prefs ws).map wb) (((prefs ws).map wb).length : Int) ((i + 1 : Nat) : Int) (placesM (prefs ws) (i + 1)) ((trie ws).take i ++ [nd])) (trie ws) := by
        rintro nd rfl
        rw [← List.take_succ_eq_append_getElem hi2]
        exact ih (i + 1) (by omega) (by omega)
      have eg : (prefs ws).getD i [] = (prefs ws)[i] := by rw [List.getD_eq_getElem?_getD, List.getElem?_eq_getElem hi', Option.getD_some]
      refine Ev.step (fun k => by unfold impl_trieOf.l2; rfl) (ev_pos (by rw [List.length_map]; omega) (ev_pos (by omega) (ev_pos (by rw [List.length_map]; omega) ?_)))
      rw [rdOf_map_wb _ _ hi']
      refine ev_pos (by rw [placesM_length]; omega) (ev_pos (by rw [wb_size]; omega) (ev_pos (by omega) (ev_pos (by omega) (ev_some ?_))))
      obtain ⟨j, hj⟩ := search_word ws hw hso (wb (prefs ws)[i])
      rw [bw_wb] at hj
      refine Ev.bind hj ?_
      rw [toList_bw, bw_wb, inc (by omega)]
      rw [show (wb (prefs ws)[i], (i : Int)) :: placesM (prefs ws) i = placesM (prefs ws) (i + 1) by rw [placesM_succ, eg]]
      by_cases he : (prefs ws)[i] = []
      · refine ev_pos he (ev_pos (by rw [htk]; omega) (hnext _ ?_))
        rw [hn]; unfold nodeOf; rw [if_pos he]
      · have hlp := List.length_pos_iff.2 he
        refine ev_neg he ?_
        have e1 : wrap64 (((wb (prefs ws)[i]).size : Int) - 1) = (((prefs ws)[i].length - 1 : Nat) : Int) := by
          rw [wb_size, w64 (by omega) (by omega)]; omega
        rw [e1]
        refine ev_pos (by omega) (ev_pos (by rw [wb_size]; omega) (ev_pos (by rw [wb_size]; omega) ?_))
        rw [Int.toNat_natCast, extract_wb, ← List.dropLast_eq_take, last_ltr he]
        have hdm := dropLast_mem hmem
        have hjl := List.idxOf_lt_length_of_mem hdm
        have hjv : (prefs ws)[(prefs ws).idxOf (prefs ws)[i].dropLast] = (prefs ws)[i].dropLast := List.getElem_idxOf hjl
        have hjk : (prefs ws).idxOf (prefs ws)[i].dropLast < i := (prefs_SS ws).idx_lt hjl hi' (by rw [hjv]; exact dropLast_lt he)
        rw [placesM_get (prefs_SS ws).nodup hdm (i + 1) (by omega) (by omega)]
        refine ev_pos (by rw [wb_size, List.length_dropLast]; omega) (ev_pos (by rw [htk]; omega) (hnext _ ?_))
        rw [hn]; unfold nodeOf; rw [if_neg he]
  have := key _ 0 rfl (Nat.zero_le _)
  rw [List.take_zero] at this
  exact this
theorem trieOf_ev (ws : List Wd) (hw : ws.length ≤ 100) (hso : ws.Pairwise (· ≤ ·)) (hs : ∀ w ∈ ws, w.length ≤ 100) : Ev (fun k => impl_trieOf.f k (ws.map wb)) (trie ws) := by
  have hpl := prefs_length (ws := ws) (m := 100) hs
  have hps : ∀ p ∈ prefs ws, p.length ≤ 100 := fun p hp => by
    rcases (mem_prefs ws p).1 hp with rfl | ⟨w, hw, hpw⟩
    · simp
    · exact Nat.le_trans hpw.length_le (hs w hw)
  have hnodes := trieOf_nodes ws (by omega) hso (by omega) (fun p hp => by have := hps p hp; omega)
  have inner : ∀ (i : Nat) (hi : i < ws.length) (A : List Wd), A.length ≤ 1 + 100 * i → Ev (fun k => impl_trieOf.l0 k (ws.map wb) ((A ++ inits ws[i]).map wb) (ws.map wb) ((ws.map wb).length : Int) ((i + 1 : Nat) : Int)) (trie ws) →
      ∀ d n, ws[i].length - n = d → n ≤ ws[i].length → Ev (fun k => impl_trieOf.l1 k (ws.map wb) ((A ++ (inits ws[i]).take n).map wb) (wb ws[i]) (ws.map wb) ((ws.map wb).length : Int) i ((wb ws[i]).size : Int) (n : Int)) (trie ws) := by
    intro i hi A hA hnext d
    have hwl := hs _ (List.getElem_mem hi)
    have hil : (inits ws[i]).length = ws[i].length := by simp [inits]
    induction d with
    | zero =>
      intro n hd hn
      obtain rfl : n = ws[i].length := by omega
      refine Ev.step (fun k => by unfold impl_trieOf.l1; rfl) (ev_neg (by rw [wb_size]; omega) ?_)
      rw [inc (by omega), List.take_of_length_le (by omega)]
      exact hnext
    | succ d ih =>
      intro n hd hn
      have hn' : n < ws[i].length := by omega
      refine Ev.step (fun k => by unfold impl_trieOf.l1; rfl) (ev_pos (by rw [wb_size]; omega) ?_)
      rw [inc (by omega)]
      refine ev_pos (by omega) (ev_pos (by rw [wb_size]; omega) (ev_pos (by rw [List.length_map, List.length_append, List.length_take]; omega) ?_))
      rw [Int.toNat_natCast, extract_wb]
      have := ih (n + 1) (by omega) (by omega)
      rw [List.take_succ_eq_append_getElem (by omega), ← List.append_assoc, List.map_append] at this
      have e : (inits ws[i])[n]'(by omega) = ws[i].take (n + 1) := by simp [inits]
      rw [e] at this
      exact this
  have outer : ∀ d i, ws.length - i = d → i ≤ ws.length → Ev (fun k => impl_trieOf.l0 k (ws.map wb) (([] :: (ws.take i).flatMap inits).map wb) (ws.map wb) ((ws.map wb).length : Int) i) (trie ws) := by
    intro d
    induction d with
    | zero =>
      intro i hd hi
      obtain rfl : i = ws.length := by omega
      refine Ev.step (fun k => by unfold impl_trieOf.l0; rfl) (ev_neg (by rw [List.length_map]; omega) ?_)
      have hfl := flat_length (ws := ws) (m := 100) hs
      rw [List.take_length, set_eq _ (by rw [List.length_cons]; omega)]
      exact ev_some hnodes
    | succ d ih =>
      intro i hd hi
      have hi' : i < ws.length := by omega
      refine Ev.step (fun k => by unfold impl_trieOf.l0; rfl) (ev_pos (by rw [List.length_map]; omega) (ev_pos (by omega) (ev_pos (by rw [List.length_map]; omega) ?_)))
      rw [rdOf_map_wb _ _ hi']
      have hfl := flat_length (ws := ws.take i) (m := 100) (fun w hw => hs w (List.mem_of_mem_take hw))
      rw [List.length_take] at hfl
      have hm : min i ws.length = i := by omega
      rw [hm] at hfl
      have h0 := inner i hi' ([] :: (ws.take i).flatMap inits) (by rw [List.length_cons]; omega) (by
        have := ih (i + 1) (by omega) (by omega)
        rw [List.take_succ_eq_append_getElem hi', List.flatMap_append] at this
        simpa using this) _ 0 rfl (Nat.zero_le _)
      rw [List.take_zero, List.append_nil] at h0
      exact h0
  have := outer _ 0 rfl (Nat.zero_le _)
  exact this
theorem anyM_some {α : Type} (p : α → Bool) (l : List α) : G.anyM (fun z => some (p z)) l = some (l.any p) := by
  induction l with
  | nil => rfl
  | cons x l ih =>
    unfold G.anyM
    simp only [Option.bind_some]
    rw [ih, List.any_cons]
    cases p x <;> rfl
theorem isTrie_ev (t : List ND) (ht : t.length ≤ 2000000) : Ev (fun k => impl_isTrie.f k t) (isT t) := by
  unfold impl_isTrie.f
  refine Ev.bind (prefixes_ev t ht) ?_
  cases hP : prefP t with
  | none =>
    refine ev_neg (by decide) ?_
    refine Ev.step (fun k => by unfold impl_isTrie.j0; rfl) (ev_pos rfl (ev_eq ?_))
    symm; rw [Bool.eq_false_iff, Ne, isT_iff, isT_prog]
    rintro ⟨P, h, _⟩
    rw [hP] at h; cases h
  | some P =>
    have hPs := prefP_spec hP
    refine ev_pos rfl ?_
    have ea : slices_ContainsFunc_string_string.f (P.map wb) (fun z_ => impl_isTrie_1.f z_) = some ((P.map wb).any fun z => decide ((z.size : Int) > 12)) := anyM_some _ _
    simp only [ea]
    refine ev_some ?_
    have hT := isT_prog t
    by_cases hs : ∀ p ∈ P, p.length ≤ 12
    case neg =>
      have e : ((P.map wb).any fun z => decide ((z.size : Int) > 12)) = true := by
        rw [List.any_eq_true]
        simp only [Classical.not_forall] at hs
        obtain ⟨p, hp, hlen⟩ := hs
        exact ⟨wb p, List.mem_map.2 ⟨p, hp, rfl⟩, decide_eq_true (by rw [wb_size]; omega)⟩
      rw [e]
      refine Ev.step (fun k => by unfold impl_isTrie.j0; rfl) (ev_pos rfl (ev_eq ?_))
      symm; rw [Bool.eq_false_iff, Ne, isT_iff, isT_prog]
      rintro ⟨P', h1, h2, _⟩
      rw [hP] at h1; cases h1
      exact hs h2
    have e : ((P.map wb).any fun z => decide ((z.size : Int) > 12)) = false := by
      rw [Bool.eq_false_iff, Ne, List.any_eq_true]
      rintro ⟨z, hz, hd⟩
      obtain ⟨p, hp, rfl⟩ := List.mem_map.1 hz
      have := of_decide_eq_true hd
      rw [wb_size] at this
      have := hs p hp
      omega
    rw [e]
    refine Ev.step (fun k => by unfold impl_isTrie.j0; rfl) (ev_neg (by decide) ?_)
    refine Ev.bind (words_ev hP) ?_
    have hwl := wordsP_length t P
    have no : ¬ ((wordsP t P).length ≤ 40 ∧ (wordsP t P).Pairwise (· ≤ ·) ∧ trie (wordsP t P) = t) → false = isT t := by
      intro h
      symm; rw [Bool.eq_false_iff, Ne, isT_iff, isT_prog]
      rintro ⟨P', h1, h2, h3, h4, h5⟩
      rw [hP] at h1; cases h1
      exact h ⟨h3, h4, h5⟩
    refine ev_ite (fun hc => ?_) (fun hc => ev_eq (no fun h => hc (by rw [List.length_map]; omega)))
    rw [List.length_map] at hc
    refine Ev.bind (isSorted_ev _ (by omega)) ?_
    refine ev_ite (fun hc2 => ?_) (fun hc2 => ev_eq (no fun h => hc2 (decide_eq_true h.2.1)))
    have hso := of_decide_eq_true hc2
    have hlen : ∀ w ∈ wordsP t P, w.length ≤ 12 := fun w hw => hs w (wordsP_mem hPs.2.2.1 hw)
    refine Ev.bind (trieOf_ev _ (by omega) hso (fun w hw => by have := hlen w hw; omega)) ?_
    have htl := prefs_length (ws := wordsP t P) (m := 12) hlen
    refine Ev.bind (equal_ev _ t (by rw [trie_length]; omega)) (ev_eq ?_)
    rw [Bool.eq_iff_iff, isT_iff, hT, decide_eq_true_eq]
    constructor
    · intro h
      exact ⟨P, hP, hs, by omega, hso, h⟩
    · rintro ⟨P', h1, _, _, _, h5⟩
      rw [hP] at h1; cases h1
      exact h5
end Go.Proofs.YtcplbbflfgckbaaGreatDoor.Pl
set_option linter.unusedVariables false
set_option linter.unusedSimpArgs false
namespace Go.Proofs.YtcplbbflfgckbaaGreatDoor.Pl
open Go.RowKit Go.Proofs.YtcplbbflfgckbaaGreatDoorW.PrintWords Go.Proofs.YtcplbbflfgckbaaGreatDoorW.PrintLast Go.Proofs.YtcplbbflfgckbaaGreatDoorW.PrintMore
/-- The words that begin with p. -/
def underL (ws : List Wd) (p : Wd) : List Wd := ws.filter (fun w => p.isPrefixOf w)
theorem mem_under {ws : List Wd} {p w : Wd} : w ∈ underL ws p ↔ w ∈ ws ∧ p <+: w := by unfold underL; rw [List.mem_filter, List.isPrefixOf_iff_prefix]
theorem under_length (ws : List Wd) (p : Wd) : (underL ws p).length ≤ ws.length := List.length_filter_le _ _
end Go.Proofs.YtcplbbflfgckbaaGreatDoor.Pl
set_option linter.unusedVariables false
set_option linter.unusedSimpArgs false
namespace Go.Proofs.YtcplbbflfgckbaaGreatDoor.Pl
open Go.RowKit Go.Proofs.YtcplbbflfgckbaaGreatDoorW.PrintWords Go.Proofs.YtcplbbflfgckbaaGreatDoorW.PrintLast Go.Proofs.YtcplbbflfgckbaaGreatDoorW.PrintMore

theorem dropWhile_nil {α : Type} {p : α → Bool} : ∀ {l : List α}, l.dropWhile p = [] ↔ ∀ x ∈ l, p x = true
  | [] => by simp
  | a :: l => by
    rw [List.dropWhile_cons]
    cases h : p a with
    | true => rw [if_pos rfl, dropWhile_nil (l := l)]; simp [h]
    | false => rw [if_neg (by decide)]; simp [h]
theorem dropWhile_head {α : Type} {p : α → Bool} : ∀ {l : List α} {a : α} {r : List α}, l.dropWhile p = a :: r → p a = false
  | b :: l, a, r, h => by
    rw [List.dropWhile_cons] at h
    cases hb : p b with
    | true => rw [hb, if_pos rfl] at h; exact dropWhile_head h
    | false => rw [hb, if_neg (by decide)] at h; cases h; exact hb
theorem trim_nil (l : List UInt8) (cs : List UInt8) : Lib.trimS l cs = [] ↔ ∀ x ∈ l, cs.contains x = true := by
  unfold Lib.trimS Lib.trimLeftS Lib.trimRightS
  rw [dropWhile_nil]
  constructor
  · intro h
    have h2 : l.reverse.dropWhile (cs.contains ·) = [] := by
      cases hd : l.reverse.dropWhile (cs.contains ·) with
      | nil => rfl
      | cons a r =>
        exfalso
        have h3 := h a (by rw [hd]; simp)
        have h4 := dropWhile_head hd
        rw [h3] at h4
        exact absurd h4 (by decide)
    rw [dropWhile_nil] at h2
    intro x hx
    exact h2 x (by simpa using hx)
  · intro h x hx
    have h2 : l.reverse.dropWhile (cs.contains ·) = [] := by
      rw [dropWhile_nil]
      intro y hy
      exact h y (by simpa using hy)
    rw [h2] at hx; simp at hx
end Go.Proofs.YtcplbbflfgckbaaGreatDoor.Pl

/- Plain: the draws answer. -/
import Derived.Test.YtcplbbflfgckbaaGreatDoorX2
import Derived.Test.YtcplbbflfgckbaaGreatDoorX4
import Derived.Test.YtcplbbflfgckbaaGreatDoorX0
import Derived.Test.YtcplbbflfgckbaaGreatDoorX7
import Derived.Test.YtcplbbflfgckbaaGreatDoorX8
import Derived.Test.YtcplbbflfgckbaaGreatDoorX9
import Derived.Test.YtcplbbflfgckbaaGreatDoorX10
import Derived.Test.YtcplbbflfgckbaaGreatDoorX14
import Derived.Test.YtcplbbflfgckbaaGreatDoorX6
import Derived.Test.YtcplbbflfgckbaaGreatDoorX15
import Derived.Test.YtcplbbflfgckbaaGreatDoorX16
import Derived.Test.YtcplbbflfgckbaaGreatDoorX17
import Derived.Test.YtcplbbflfgckbaaGreatDoorPl
import Derived.Laws.BitsLemmas

set_option linter.unusedVariables false
set_option linter.unusedSimpArgs false
namespace Go.Proofs.YtcplbbflfgckbaaGreatDoor.Pl
open Go.RowKit Go.Proofs.YtcplbbflfgckbaaGreatDoorW.PrintWords Go.Proofs.YtcplbbflfgckbaaGreatDoorW.PrintLast Go.Proofs.YtcplbbflfgckbaaGreatDoorW.PrintMore Go.Proofs.YtcplbbflfgckbaaGreatDoor.X

/-- A code's bytes. -/
def isCodeB (l : List Int) : Prop := ∀ y ∈ l, 0 ≤ y ∧ y ≤ 255
theorem and255 {x : Int} (h0 : 0 ≤ x) (h1 : x < 2 ^ 63) : Go.bits .and .u64 x 255 = x % 256 := by
  have hw : ∀ n : Int, 0 ≤ n → n < 2 ^ 63 → IntKind.u64.wrap n = n := fun n a b => by simp only [IntKind.wrap, IntKind.bits, IntKind.signed]; simp; omega
  exact bits_mask .u64 63 (by decide) hw 8 (by decide) x h0 h1
theorem u64w (x : Int) : 0 ≤ IntKind.u64.wrap x ∧ IntKind.u64.wrap x < 18446744073709551616 := by
  simp only [IntKind.wrap, IntKind.bits, IntKind.signed]; simp; omega
/-- Where the draw stands: at most at n. -/
structure At (n : Nat) (a : Int) : Prop where
  lo : 0 ≤ a
  hi : a ≤ n
theorem At.le {n m : Nat} {a : Int} (h : At n a) (hm : n ≤ m) : At m a := ⟨h.lo, by have := h.hi; omega⟩
theorem next_ev {l : List Int} (hl : isCodeB l) {n : Nat} {a s : Int} (h : At n a) (hn : n ≤ 2000000000) : ∃ b a' s', spec_l1Cur_next.f l a s = some (b, a', s') ∧ At (n + 1) a' ∧ 0 ≤ b ∧ b ≤ 255 := by
  obtain ⟨h0, h1⟩ := h
  have hw := w64 (x := a + 1) (by omega) (by omega)
  have key : ∀ y : Int, 0 ≤ Go.bits .and .u64 (IntKind.u64.wrap y / 1099511627776) 255 ∧ Go.bits .and .u64 (IntKind.u64.wrap y / 1099511627776) 255 ≤ 255 := fun y => by
    have := u64w y
    rw [and255 (by omega) (by omega)]
    omega
  unfold spec_l1Cur_next.f
  rw [hw]
  by_cases h2 : a < (l.length : Int)
  · rw [if_pos h2, if_pos h0, if_pos (by omega)]
    have hm : 0 ≤ rd l a ∧ rd l a ≤ 255 := by
      obtain ⟨i, rfl⟩ : ∃ i : Nat, a = i := ⟨a.toNat, by omega⟩
      exact hl _ (getD_mem (by omega) 0)
    exact ⟨_, _, _, rfl, ⟨by omega, by omega⟩, by rw [w64 (by omega) (by omega)]; omega, by rw [w64 (by omega) (by omega)]; omega⟩
  · have kk : ∀ y : Int, wrap64 (Go.bits .and .u64 (IntKind.u64.wrap y / 1099511627776) 255) = Go.bits .and .u64 (IntKind.u64.wrap y / 1099511627776) 255 := fun y => by have := key y; exact w64 (by omega) (by omega)
    rw [if_neg h2, if_neg (by omega), kk]
    exact ⟨_, _, _, rfl, ⟨by omega, by omega⟩, (key _).1, (key _).2⟩
theorem tmod_lt {b n : Int} (h0 : 0 ≤ b) (h1 : 1 < n) : 0 ≤ Int.tmod b n ∧ Int.tmod b n < n := ⟨Int.tmod_nonneg _ h0, Int.tmod_lt_of_pos _ (by omega)⟩
theorem pick_ev {l : List Int} (hl : isCodeB l) {n : Nat} {a s : Int} (h : At n a) (hn : n ≤ 1000000000) (c : Int) : ∃ b a' s', spec_l1Cur_pick.f l a s c = some (b, a', s') ∧ At (n + 2) a' ∧ 0 ≤ b ∧ (1 ≤ c → b < c) := by
  unfold spec_l1Cur_pick.f
  by_cases h1 : c ≤ 1
  · rw [if_pos h1]; exact ⟨_, _, _, rfl, h.le (by omega), by omega, fun _ => by omega⟩
  · rw [if_neg h1]
    obtain ⟨b, a1, s1, e1, g1, b0, b1⟩ := next_ev hl (s := s) h (by omega)
    rw [e1]
    simp only [Option.bind_some]
    by_cases h2 : c > 200
    · rw [if_pos h2]
      obtain ⟨b', a2, s2, e2, g2, c0, c1⟩ := next_ev hl (s := s1) g1 (by omega)
      rw [e2]
      simp only [Option.bind_some]
      rw [if_neg (by omega), w64 (x := b * 256) (by omega) (by omega), w64 (x := b * 256 + b') (by omega) (by omega)]
      have := tmod_lt (b := b * 256 + b') (n := c) (by omega) (by omega)
      exact ⟨_, _, _, rfl, g2, this.1, fun _ => this.2⟩
    · rw [if_neg h2, if_neg (by omega)]
      have := tmod_lt (b := b) (n := c) (by omega) (by omega)
      exact ⟨_, _, _, rfl, g1.le (by omega), this.1, fun _ => this.2⟩
theorem one_ev {l : List Int} (hl : isCodeB l) {n : Nat} {a s : Int} (h : At n a) (hn : n ≤ 1000000000) (c : Int) : ∃ b a' s', spec_l1Cur_one.f l a s c = some (b, a', s') ∧ At (n + 2) a' := by
  unfold spec_l1Cur_one.f
  obtain ⟨b, a1, s1, e1, g1, _⟩ := pick_ev hl (s := s) h hn c
  rw [e1]
  exact ⟨_, _, _, rfl, g1⟩
theorem of_ev {l : List Int} (hl : isCodeB l) {n : Nat} {a s : Int} (h : At n a) (hn : n ≤ 1000000000) (ts : List ByteArray) (ht : 0 < ts.length) : ∃ b a' s', spec_l1Cur_of.f l a s ts = some (b, a', s') ∧ At (n + 2) a' ∧ b ∈ ts := by
  unfold spec_l1Cur_of.f
  obtain ⟨b, a1, s1, e1, g1, b0, b1⟩ := pick_ev hl (s := s) h hn (ts.length : Int)
  have hb := b1 (by omega)
  rw [e1]
  simp only [Option.bind_some]
  rw [if_pos b0, if_pos hb]
  refine ⟨_, _, _, rfl, g1, ?_⟩
  obtain ⟨i, rfl⟩ : ∃ i : Nat, b = i := ⟨b.toNat, by omega⟩
  exact getD_mem (by omega) _
theorem among_ev {l : List Int} (hl : isCodeB l) {n : Nat} {a s : Int} (h : At n a) (hn : n ≤ 1000000000) (ts : List Int) (ht : 0 < ts.length) : ∃ b a' s', spec_l1Cur_among.f l a s ts = some (b, a', s') ∧ At (n + 2) a' ∧ b ∈ ts := by
  unfold spec_l1Cur_among.f
  obtain ⟨b, a1, s1, e1, g1, b0, b1⟩ := pick_ev hl (s := s) h hn (ts.length : Int)
  have hb := b1 (by omega)
  rw [e1]
  simp only [Option.bind_some]
  rw [if_pos b0, if_pos hb]
  refine ⟨_, _, _, rfl, g1, ?_⟩
  obtain ⟨i, rfl⟩ : ∃ i : Nat, b = i := ⟨b.toNat, by omega⟩
  exact getD_mem (by omega) _
end Go.Proofs.YtcplbbflfgckbaaGreatDoor.Pl


/- Plain: draws as steps: what is drawn answers, where the draw stands behind it, and what is known of it. -/
import Derived.Test.YtcplbbflfgckbaaGreatDoorDraw
set_option linter.unusedVariables false
set_option linter.unusedSimpArgs false
namespace Go.Proofs.YtcplbbflfgckbaaGreatDoor.Pl
open Go.RowKit Go.Proofs.YtcplbbflfgckbaaGreatDoorW.PrintWords Go.Proofs.YtcplbbflfgckbaaGreatDoorW.PrintLast Go.Proofs.YtcplbbflfgckbaaGreatDoorW.PrintMore Go.Proofs.YtcplbbflfgckbaaGreatDoor.X

/-- F draws an x that is so; behind it the draw stands at most at n. -/
def Dr {α : Type} (F : Nat → Option (α × Int × Int)) (n : Nat) (Q : α → Prop) : Prop := ∃ x a s, Ev F (x, a, s) ∧ At n a ∧ Q x
section
variable {α β : Type} {F A B : Nat → Option (α × Int × Int)} {n m : Nat} {Q : α → Prop}
theorem Dr.bind {G : Nat → α × Int × Int → Option (β × Int × Int)} {R : β → Prop} (h : Dr F n Q) (hg : ∀ x a s, At n a → Q x → Dr (fun k => G k (x, a, s)) m R) : Dr (fun k => (F k).bind (G k)) m R := by
  obtain ⟨x, a, s, h1, h2, h3⟩ := h
  obtain ⟨y, b, t, g1, g2, g3⟩ := hg x a s h2 h3
  exact ⟨y, b, t, Ev.bind h1 g1, g2, g3⟩
theorem Dr.fin {γ : Type} {G : Nat → α × Int × Int → Option γ} {R : γ → Prop} (h : Dr F n Q) (hg : ∀ x a s, At n a → Q x → ∃ r, Ev (fun k => G k (x, a, s)) r ∧ R r) : ∃ r, Ev (fun k => (F k).bind (G k)) r ∧ R r := by
  obtain ⟨x, a, s, h1, h2, h3⟩ := h
  obtain ⟨r, g1, g2⟩ := hg x a s h2 h3
  exact ⟨r, Ev.bind h1 g1, g2⟩
/-- A step that draws nothing. -/
theorem Dr.ev {γ : Type} {C : Nat → Option γ} {c : γ} {G : Nat → γ → Option (α × Int × Int)} (h : Ev C c) (hg : Dr (fun k => G k c) n Q) : Dr (fun k => (C k).bind (G k)) n Q := by
  obtain ⟨y, b, t, g1, g2, g3⟩ := hg
  exact ⟨y, b, t, Ev.bind h g1, g2, g3⟩
theorem Dr.le {R : α → Prop} (h : Dr F n Q) (hm : n ≤ m) (hR : ∀ x, Q x → R x) : Dr F m R := by
  obtain ⟨x, a, s, h1, h2, h3⟩ := h
  exact ⟨x, a, s, h1, h2.le hm, hR x h3⟩
theorem Dr.ret {x : α} {a s : Int} (h : At n a) (hx : Q x) : Dr (fun _ => some (x, a, s)) n Q := ⟨x, a, s, ev_eq rfl, h, hx⟩
theorem Dr.pos {c : Prop} [Decidable c] (hc : c) (h : Dr A n Q) : Dr (fun k => if c then A k else B k) n Q := by
  obtain ⟨x, a, s, h1, h2, h3⟩ := h
  exact ⟨x, a, s, ev_pos hc h1, h2, h3⟩
theorem Dr.neg {c : Prop} [Decidable c] (hc : ¬ c) (h : Dr B n Q) : Dr (fun k => if c then A k else B k) n Q := by
  obtain ⟨x, a, s, h1, h2, h3⟩ := h
  exact ⟨x, a, s, ev_neg hc h1, h2, h3⟩
theorem Dr.ite {c : Prop} [Decidable c] (hp : c → Dr A n Q) (hn : ¬ c → Dr B n Q) : Dr (fun k => if c then A k else B k) n Q := by
  by_cases hc : c
  · exact (hp hc).pos hc
  · exact (hn hc).neg hc
theorem Dr.step {G : Nat → Option (α × Int × Int)} (e : ∀ k, F (k + 1) = G k) (h : Dr G n Q) : Dr F n Q := by
  obtain ⟨x, a, s, h1, h2, h3⟩ := h
  exact ⟨x, a, s, Ev.step e h1, h2, h3⟩
end
theorem ev_eq' {α : Type} {x : Option α} {r : α} (h : x = some r) : Ev (fun _ => x) r := h ▸ Ev.now r
theorem small_mem' {ts : List ByteArray} {b : ByteArray} {m : Nat} (h : b ∈ ts) (hs : ts.all (fun t => decide (t.size ≤ m)) = true) : b.size ≤ m := of_decide_eq_true (List.all_eq_true.1 hs b h)
theorem pick_dr {l : List Int} (hl : isCodeB l) {n : Nat} {a s : Int} (h : At n a) (hn : n ≤ 1000000000) (c : Int) : Dr (fun _ => spec_l1Cur_pick.f l a s c) (n + 2) (fun b => 0 ≤ b ∧ (1 ≤ c → b < c)) := by
  obtain ⟨b, a1, s1, e, g, h1, h2⟩ := pick_ev hl (s := s) h hn c
  exact ⟨b, a1, s1, ev_eq' e, g, h1, h2⟩
theorem one_dr {l : List Int} (hl : isCodeB l) {n : Nat} {a s : Int} (h : At n a) (hn : n ≤ 1000000000) (c : Int) : Dr (fun _ => spec_l1Cur_one.f l a s c) (n + 2) (fun _ => True) := by
  obtain ⟨b, a1, s1, e, g⟩ := one_ev hl (s := s) h hn c
  exact ⟨b, a1, s1, ev_eq' e, g, trivial⟩
theorem of_dr {l : List Int} (hl : isCodeB l) {n : Nat} {a s : Int} (h : At n a) (hn : n ≤ 1000000000) (ts : List ByteArray) (ht : 0 < ts.length) : Dr (fun _ => spec_l1Cur_of.f l a s ts) (n + 2) (fun b => b ∈ ts) := by
  obtain ⟨b, a1, s1, e, g, h1⟩ := of_ev hl (s := s) h hn ts ht
  exact ⟨b, a1, s1, ev_eq' e, g, h1⟩
theorem among_dr {l : List Int} (hl : isCodeB l) {n : Nat} {a s : Int} (h : At n a) (hn : n ≤ 1000000000) (ts : List Int) (ht : 0 < ts.length) : Dr (fun _ => spec_l1Cur_among.f l a s ts) (n + 2) (fun b => b ∈ ts) := by
  obtain ⟨b, a1, s1, e, g, h1⟩ := among_ev hl (s := s) h hn ts ht
  exact ⟨b, a1, s1, ev_eq' e, g, h1⟩
theorem code_of_wf' {l : List Int} (h : ∀ y ∈ l, (Lit.int .u8 y).wf = true) : isCodeB l := fun y hy => by
  have := h y hy
  simp [Lit.wf, IntKind.min, IntKind.max, IntKind.signed, IntKind.bits] at this
  omega
end Go.Proofs.YtcplbbflfgckbaaGreatDoor.Pl


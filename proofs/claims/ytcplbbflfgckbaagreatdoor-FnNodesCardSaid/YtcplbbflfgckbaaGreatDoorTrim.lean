/- Plain: when nothing is left of a text that is trimmed. -/
import Derived.Test.YtcplbbflfgckbaaGreatDoorPl
import Derived.Lib.SlTrimSet
set_option linter.unusedVariables false
set_option linter.unusedSimpArgs false
namespace Go.Proofs.YtcplbbflfgckbaaGreatDoor.Pl
open Go.RowKit Go.Proofs.YtcplbbflfgckbaaGreatDoorW.PrintWords Go.Proofs.YtcplbbflfgckbaaGreatDoorW.PrintLast Go.Proofs.YtcplbbflfgckbaaGreatDoorW.PrintMore

theorem dropWhile_nil {α : Type} {p : α → Bool} : ∀ {l : List α}, l.dropWhile p = [] ↔ ∀ x ∈ l, p x = true
  | [] => by simp
  | a :: l => by
    rw [List.dropWhile_cons]
    cases h : p a with
    | true => rw [if_pos rfl, dropWhile_nil (l := l)]; simp [h]
    | false => rw [if_neg (by decide)]; simp [h]
theorem dropWhile_head {α : Type} {p : α → Bool} : ∀ {l : List α} {a : α} {r : List α}, l.dropWhile p = a :: r → p a = false
  | b :: l, a, r, h => by
    rw [List.dropWhile_cons] at h
    cases hb : p b with
    | true => rw [hb, if_pos rfl] at h; exact dropWhile_head h
    | false => rw [hb, if_neg (by decide)] at h; cases h; exact hb
theorem trim_nil (l : List UInt8) (cs : List UInt8) : Lib.trimS l cs = [] ↔ ∀ x ∈ l, cs.contains x = true := by
  unfold Lib.trimS Lib.trimLeftS Lib.trimRightS
  rw [dropWhile_nil]
  constructor
  · intro h
    have h2 : l.reverse.dropWhile (cs.contains ·) = [] := by
      cases hd : l.reverse.dropWhile (cs.contains ·) with
      | nil => rfl
      | cons a r =>
        exfalso
        have h3 := h a (by rw [hd]; simp)
        have h4 := dropWhile_head hd
        rw [h3] at h4
        exact absurd h4 (by decide)
    rw [dropWhile_nil] at h2
    intro x hx
    exact h2 x (by simpa using hx)
  · intro h x hx
    have h2 : l.reverse.dropWhile (cs.contains ·) = [] := by
      rw [dropWhile_nil]
      intro y hy
      exact h y (by simpa using hy)
    rw [h2] at hx; simp at hx
end Go.Proofs.YtcplbbflfgckbaaGreatDoor.Pl


/- Plain: what asks at an open node, on both sides. -/
import Derived.Test.YtcbjfflaamlpcaaX8
import Derived.Test.YtcbjfflaamlpcaaX17
import Derived.Test.YtcbjfflaamlpcaaGameG
set_option linter.unusedVariables false
set_option linter.unusedSimpArgs false
namespace Go.Proofs.Ytcbjfflaamlpcaa.Pl
open Go.RowKit Go.Proofs.YtcbjfflaamlpcaaW.PrintWords Go.Proofs.YtcbjfflaamlpcaaW.PrintLast Go.Proofs.YtcbjfflaamlpcaaW.PrintMore Go.Proofs.Ytcbjfflaamlpcaa.X

theorem at_both {α : Type} (t : List ND) (ht : t.length ≤ 2000000) (a n : Int) (d : α) (F : Nat → Option α) (H : Nat → Int → List ByteArray → Option α)
    (h : ∀ P (i : Nat), GOk t P → a = i → i < t.length → ∃ r, Ev F r ∧ Ev (fun k => H k n (P.map wb)) r) :
    ∃ r : α × Bool, Ev (fun k => (spec_l11Good.f k t a n).bind fun g => if g = true then ((spec_l11Open.f k t a n).bind fun o => if o = true then ((F k).bind fun v => some (v, true)) else some (d, false)) else some (d, false)) r ∧
      Ev (fun k => (impl_gameAt.f k t a n).bind fun b => if b.1 = true then ((H k b.2.1 b.2.2).bind fun v => some (v, true)) else some (d, false)) r := by
  by_cases hg : GdN t a n
  · obtain ⟨P, hP, hT, hn, i, rfl, hi⟩ := hg.get
    obtain ⟨r, h1, h2⟩ := h P i hP rfl hi
    have hat := gameAt_yes hP hT hn hi
    have hop := l11Open_ev hP n hi
    cases ho : opn t P n i with
    | true =>
      simp only [ho, if_true, reduceIte, Bool.false_eq_true] at hat hop
      exact ⟨(r, true), Ev.bind (l11Good_yes ht hg) (ev_pos rfl (Ev.bind hop (ev_pos rfl (Ev.bind h1 (ev_eq rfl))))), Ev.bind hat (ev_pos rfl (Ev.bind h2 (ev_eq rfl)))⟩
    | false =>
      simp only [ho, if_true, reduceIte, Bool.false_eq_true] at hat hop
      exact ⟨(d, false), Ev.bind (l11Good_yes ht hg) (ev_pos rfl (Ev.bind hop (ev_neg (by decide) (ev_eq rfl)))), Ev.bind hat (ev_neg (by decide) (ev_eq rfl))⟩
  · exact ⟨(d, false), Ev.bind (l11Good_no ht hg) (ev_neg (by decide) (ev_eq rfl)), Ev.bind (gameAt_no ht hg) (ev_neg (by decide) (ev_eq rfl))⟩
end Go.Proofs.Ytcbjfflaamlpcaa.Pl

/- Plain: what the laws about tries share: the turning over, the comparing, the size. -/
import Derived.Test.YtmecniejpoopfaaGreatDoorX16
import Derived.Test.YtmecniejpoopfaaGreatDoorTrieB
set_option linter.unusedVariables false
set_option linter.unusedSimpArgs false
namespace Go.Proofs.YtmecniejpoopfaaGreatDoor.Pl
open Go.RowKit Go.Proofs.YtmecniejpoopfaaGreatDoorW.PrintWords Go.Proofs.YtmecniejpoopfaaGreatDoorW.PrintLast Go.Proofs.YtmecniejpoopfaaGreatDoorW.PrintMore Go.Proofs.YtmecniejpoopfaaGreatDoor.X

theorem eqTrie_ev (a b : List ND) (ha : a.length ≤ 2000000) : Ev (fun k => laws_eqTrie.f k a b) (decide (a = b)) := by
  unfold laws_eqTrie.f
  refine Ev.bind (a := decide (a = b)) ?_ (by cases decide (a = b) <;> first | exact ev_pos rfl (ev_eq rfl) | exact ev_neg (by decide) (ev_eq rfl))
  unfold laws_eqNodeS.f
  by_cases hl : a.length = b.length
  case neg => exact ev_neg (by omega) (ev_eq (by symm; rw [decide_eq_false_iff_not]; rintro rfl; exact hl rfl))
  refine ev_pos (by omega) ?_
  refine ev_eqlist (z := zND) (g := fun k i => laws_eqNodeS.l0 k a b (i : Nat)) hl ?_ ?_
  · exact Ev.step (fun k => by unfold laws_eqNodeS.l0; rfl) (ev_neg (by omega) (ev_eq rfl))
  · intro i hi R ih
    refine Ev.step (fun k => by unfold laws_eqNodeS.l0 laws_eqNode.f; rfl) (ev_pos (by omega) (ev_pos (by omega) (ev_pos (by omega) ?_)))
    rw [rd_nd hi, rd_nd (show i < b.length by omega), List.getD_eq_getElem?_getD, List.getD_eq_getElem?_getD, List.getElem?_eq_getElem hi, List.getElem?_eq_getElem (show i < b.length by omega), Option.getD_some, Option.getD_some, inc (by omega)]
    generalize a[i] = x
    generalize b[i] = y
    obtain ⟨x0, x1, x2⟩ := x
    obtain ⟨y0, y1, y2⟩ := y
    by_cases h0 : x0 = y0
    case neg => rw [if_neg h0, decide_eq_false (by intro h; cases h; exact h0 rfl)]; exact ev_some (ev_neg (by decide) (ev_eq rfl))
    by_cases h1 : x1 = y1
    case neg => rw [if_pos h0, if_neg h1, decide_eq_false (by intro h; cases h; exact h1 rfl)]; exact ev_some (ev_neg (by decide) (ev_eq rfl))
    by_cases h2 : x2 = y2
    case neg => rw [if_pos h0, if_pos h1, if_pos (by simpa using h2), decide_eq_false (by intro h; cases h; exact h2 rfl)]; exact ev_some (ev_neg (by decide) (ev_eq rfl))
    subst h0 h1 h2
    rw [if_pos rfl, if_pos rfl, if_neg (by simp), decide_eq_true rfl, Bool.true_and]
    exact ev_some (ev_pos rfl ih)
end Go.Proofs.YtmecniejpoopfaaGreatDoor.Pl

/- Plain: what the laws' own helpers answer: copies, comparisons, sizes. -/
import Derived.Test.YtcbjfflaamlpcaaX23
import Derived.Test.YtcbjfflaamlpcaaX24
import Derived.Test.YtcbjfflaamlpcaaPl
set_option linter.unusedVariables false
set_option linter.unusedSimpArgs false
namespace Go.Proofs.Ytcbjfflaamlpcaa.Pure
open Go.RowKit Go.Proofs.YtcbjfflaamlpcaaW.PrintWords Go.Proofs.YtcbjfflaamlpcaaW.PrintLast Go.Proofs.YtcbjfflaamlpcaaW.PrintMore Go.Proofs.Ytcbjfflaamlpcaa.X Go.Proofs.Ytcbjfflaamlpcaa.Pl
theorem eqStringS_ev (l m : List ByteArray) (hl : l.length ≤ 140737488351232) : Ev (fun k => laws_eqStringS.f k l m) (decide (l = m)) := by
  unfold laws_eqStringS.f
  refine ev_ite (fun h => ?_) (fun h => ev_eq ?_)
  · refine ev_eqlist (z := ByteArray.empty) (g := fun k i => laws_eqStringS.l0 k l m (i : Nat)) (by omega) ?_ (fun i hi R hR => ?_)
    · refine Ev.step (fun k => by simp only [laws_eqStringS.l0]; rfl) ?_
      exact ev_neg (by omega) (ev_eq rfl)
    · refine Ev.step (fun k => by simp only [laws_eqStringS.l0]; rfl) ?_
      refine ev_pos (by omega) (ev_pos (by omega) (ev_pos (by omega) ?_))
      simp only [rdOf_nat, toList_inj, inc (show i ≤ 9223372036854775806 by omega)]
      by_cases e : l.getD i ByteArray.empty = m.getD i ByteArray.empty
      · simp only [if_pos e, decide_eq_true e, Bool.true_and]; exact hR
      · simp only [if_neg e, decide_eq_false e, Bool.false_and]; exact ev_eq rfl
  · simp; rintro rfl; exact h rfl
end Go.Proofs.Ytcbjfflaamlpcaa.Pure

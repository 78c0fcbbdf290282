/- Plain: what is recovered from bytes: the program's and the reference's are one. -/
import Derived.Test.YtgcabagolfchhaaDoorX6
import Derived.Test.YtgcabagolfchhaaDoorLogLaws
set_option linter.unusedVariables false
set_option linter.unusedSimpArgs false
namespace Go.Proofs.YtgcabagolfchhaaDoor.Pure
open Go.RowKit Go.Proofs.YtgcabagolfchhaaDoorW.PrintWords Go.Proofs.YtgcabagolfchhaaDoorW.PrintLast Go.Proofs.YtgcabagolfchhaaDoorW.PrintMore Go.Proofs.YtgcabagolfchhaaDoor.X Go.Proofs.YtgcabagolfchhaaDoor.Pl
theorem FnExactRecoverLog : ∀ (a0 : ByteArray), a0.size ≤ 140737488351232 → ∃ k, laws_FnExactRecoverLog.f k a0 = some true := by
  intro s _
  refine Ev.rounds (r := true) ?_
  unfold laws_FnExactRecoverLog.f
  refine ev_ite (fun _ => ev_eq rfl) (fun _ => ?_)
  refine Ev.bind (spec_RecoverLog_ev s) (Ev.bind (impl_RecoverLog_ev s) ?_)
  rw [eqLog_self]
  exact ev_some (ev_pos rfl (ev_pos rfl (ev_neg (by simp) (ev_eq rfl))))
end Go.Proofs.YtgcabagolfchhaaDoor.Pure

/- Plain: IsCode of the program and of the reference answer alike on all lists. No conditions. -/
import Derived.Test.YtlhhflfljhdgkaaDoorX4
import Derived.Test.YtlhhflfljhdgkaaDoorCodes
import Derived.Test.YtlhhflfljhdgkaaDoorGlue
set_option linter.unusedVariables false
set_option linter.unusedSimpArgs false
namespace Go.Proofs.YtlhhflfljhdgkaaDoor.Pure
open Go.RowKit Go.Proofs.YtlhhflfljhdgkaaDoorW.PrintWords Go.Proofs.YtlhhflfljhdgkaaDoorW.PrintLast Go.Proofs.YtlhhflfljhdgkaaDoorW.PrintMore Go.Proofs.YtlhhflfljhdgkaaDoor.X Go.Proofs.YtlhhflfljhdgkaaDoor.Pl
theorem FnExactIsCode : ∀ (l0 : List ByteArray), (l0.length * 16 ≤ 140737488351232 ∧ ∀ y ∈ l0, y.size ≤ 140737488351232) → ∃ k, laws_FnExactIsCode.f k l0 = some true := by
  rintro l ⟨hl, hs⟩
  refine Ev.rounds (r := true) ?_
  obtain ⟨r, hr, _, _⟩ := szStringS_ev l 1048576 (by omega) (by omega) hl hs
  unfold laws_FnExactIsCode.f spec_IsCode.f impl_IsCode.f
  refine Ev.bind hr (ev_ite (fun _ => ev_eq rfl) (fun _ => ?_))
  refine Ev.bind (toStringS_ev l hl) (Ev.bind (Ev.bind (l10Code_ev l hl hs) (ev_eq rfl)) (Ev.bind (toStringS_ev l hl) (Ev.bind (Ev.bind (isCode_ev l hl hs) (ev_eq rfl)) (ev_neg (by simp) ?_))))
  exact Ev.bind (toStringS_ev l hl) (Ev.bind (eqStringS_ev l l (by omega)) (ev_pos (by simp) (ev_eq rfl)))
end Go.Proofs.YtlhhflfljhdgkaaDoor.Pure

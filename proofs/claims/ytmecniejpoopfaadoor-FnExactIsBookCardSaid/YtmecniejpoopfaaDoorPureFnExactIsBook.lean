/- Plain: IsBook of the program and of the reference answer alike. -/
import Derived.Test.YtmecniejpoopfaaDoorX10
import Derived.Test.YtmecniejpoopfaaDoorBookLaw
set_option linter.unusedVariables false
set_option linter.unusedSimpArgs false
namespace Go.Proofs.YtmecniejpoopfaaDoor.Pure
open Go.RowKit Go.Proofs.YtmecniejpoopfaaDoorW.PrintWords Go.Proofs.YtmecniejpoopfaaDoorW.PrintLast Go.Proofs.YtmecniejpoopfaaDoorW.PrintMore Go.Proofs.YtmecniejpoopfaaDoor.X Go.Proofs.YtmecniejpoopfaaDoor.Pl
theorem FnExactIsBook : ∀ (a0_0 : ByteArray) (a0_1 : ByteArray) (a0_2 : Int), a0_0.size ≤ 140737488351232 → a0_1.size ≤ 140737488351232 → (Lit.int .i64 a0_2).wf = true → ∃ k, laws_FnExactIsBook.f k a0_0 a0_1 a0_2 = some true := by
  intro s a c hs ha _
  unfold laws_FnExactIsBook.f
  refine Ev.rounds (ev_sizeB hs ha fun hsz => ?_)
  have h1 := l12Good_ev s a c (by omega) (by omega)
  have h2 := isBook_ev s a c (by omega)
  have hT : laws_toBook.f s a c = some (s, a, c) := rfl
  rw [hT]
  unfold spec_IsBook.f impl_IsBook.f
  refine ev_some (Ev.bind (Ev.bind h1 (ev_eq rfl)) (ev_some (Ev.bind (Ev.bind h2 (ev_eq rfl)) ?_)))
  exact ev_neg (by simp) (ev_eq rfl)
end Go.Proofs.YtmecniejpoopfaaDoor.Pure

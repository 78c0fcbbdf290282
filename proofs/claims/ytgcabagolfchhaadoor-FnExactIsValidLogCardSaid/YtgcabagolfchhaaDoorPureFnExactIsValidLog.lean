/- Plain: which logs are valid: the program's answer is the reference's. -/
import Derived.Test.YtgcabagolfchhaaDoorX7
import Derived.Test.YtgcabagolfchhaaDoorLogLaws
set_option linter.unusedVariables false
set_option linter.unusedSimpArgs false
namespace Go.Proofs.YtgcabagolfchhaaDoor.Pure
open Go.RowKit Go.Proofs.YtgcabagolfchhaaDoorW.PrintWords Go.Proofs.YtgcabagolfchhaaDoorW.PrintLast Go.Proofs.YtgcabagolfchhaaDoorW.PrintMore Go.Proofs.YtgcabagolfchhaaDoor.X Go.Proofs.YtgcabagolfchhaaDoor.Pl
theorem FnExactIsValidLog : ∀ (a0_0 : ByteArray) (a0_1 : ByteArray) (a0_2 : Int), a0_0.size ≤ 140737488351232 → a0_1.size ≤ 140737488351232 → (Lit.int .i64 a0_2).wf = true → ∃ k, laws_FnExactIsValidLog.f k a0_0 a0_1 a0_2 = some true := by
  intro d p n hd hp _
  refine Ev.rounds (r := true) ?_
  unfold laws_FnExactIsValidLog.f laws_toLog.f spec_IsValidLog.f
  obtain ⟨t, ht, hs⟩ := sz_log (n := n) hd hp
  rw [ht]
  refine ev_some (ev_ite (fun _ => ev_eq rfl) (fun h => ?_))
  obtain ⟨h1, _⟩ := hs h
  refine ev_some (Ev.bind (Ev.bind (l12Valid_ev d p n (by omega) (by omega)) (ev_eq rfl)) (ev_some (Ev.bind (impl_IsValidLog_ev d p n (by omega) (by omega)) (ev_neg (by simp) (ev_eq rfl)))))
end Go.Proofs.YtgcabagolfchhaaDoor.Pure

/- Plain: the encoding of a record: the program's and the reference's are one. -/
import Derived.Test.YtgcabagolfchhaaDoorX4
import Derived.Test.YtgcabagolfchhaaDoorNums
set_option linter.unusedVariables false
set_option linter.unusedSimpArgs false
namespace Go.Proofs.YtgcabagolfchhaaDoor.Pure
open Go.RowKit Go.Proofs.YtgcabagolfchhaaDoorW.PrintWords Go.Proofs.YtgcabagolfchhaaDoorW.PrintLast Go.Proofs.YtgcabagolfchhaaDoorW.PrintMore Go.Proofs.YtgcabagolfchhaaDoor.X Go.Proofs.YtgcabagolfchhaaDoor.Pl
theorem FnExactEncodeRecord : ∀ (a0 : Int) (a1_0 : ByteArray) (a1_1 : ByteArray), (Lit.int .i64 a0).wf = true → a1_0.size ≤ 140737488351232 → a1_1.size ≤ 140737488351232 → ∃ k, laws_FnExactEncodeRecord.f k a0 a1_0 a1_1 = some true := by
  intro n c r _ hc hr
  refine Ev.rounds (r := true) ?_
  unfold laws_FnExactEncodeRecord.f laws_toLogRecord.f
  obtain ⟨t, ht, hs⟩ := sz_rec hc hr
  rw [ht]
  refine ev_ite (fun _ => ev_eq rfl) (fun h => ?_)
  obtain ⟨h1, h2⟩ := hs h
  refine ev_some (Ev.bind (spec_EncodeRecord_ev n c r h1 h2) (ev_some (Ev.bind (impl_EncodeRecord_ev n c r h1 h2) ?_)))
  exact ev_pos rfl (ev_neg (by simp) (ev_eq rfl))
end Go.Proofs.YtgcabagolfchhaaDoor.Pure

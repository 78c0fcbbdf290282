/- Plain: the log with a record more: the program's and the reference's are one. -/
import Derived.Test.YtgcabagolfchhaaDoorX10
import Derived.Test.YtgcabagolfchhaaDoorLogLaws
set_option linter.unusedVariables false
set_option linter.unusedSimpArgs false
namespace Go.Proofs.YtgcabagolfchhaaDoor.Pure
open Go.RowKit Go.Proofs.YtgcabagolfchhaaDoorW.PrintWords Go.Proofs.YtgcabagolfchhaaDoorW.PrintLast Go.Proofs.YtgcabagolfchhaaDoorW.PrintMore Go.Proofs.YtgcabagolfchhaaDoor.X Go.Proofs.YtgcabagolfchhaaDoor.Pl
theorem FnExactAppendRecord : ∀ (a0_0 : ByteArray) (a0_1 : ByteArray) (a0_2 : Int) (a1_0 : ByteArray) (a1_1 : ByteArray), a0_0.size ≤ 140737488351232 → a0_1.size ≤ 140737488351232 → (Lit.int .i64 a0_2).wf = true → a1_0.size ≤ 140737488351232 → a1_1.size ≤ 140737488351232 → ∃ k, laws_FnExactAppendRecord.f k a0_0 a0_1 a0_2 a1_0 a1_1 = some true := by
  intro d p n c r hd hp _ hc hr
  refine Ev.rounds (r := true) ?_
  unfold laws_FnExactAppendRecord.f laws_toLog.f laws_toLogRecord.f
  obtain ⟨t, ht, hs⟩ := sz_log (n := n) hd hp
  rw [ht]
  refine ev_some (ev_ite (fun _ => ev_eq rfl) (fun h => ?_))
  obtain ⟨h1, h2⟩ := hs h
  have hz : ∃ u, laws_szLogRecord.f c r t = some u ∧ (¬ u < 0 → c.size ≤ 1048576 ∧ r.size ≤ 1048576) := by
    unfold laws_szLogRecord.f
    rw [w64 (x := t - (c.size : Int)) (by omega) (by omega), w64 (x := t - (c.size : Int) - (r.size : Int)) (by omega) (by omega)]
    by_cases k1 : t - (c.size : Int) < 0
    · rw [if_pos k1]; exact ⟨_, rfl, fun h => absurd (show ((-1 : Int) < 0) by decide) h⟩
    · rw [if_neg k1]
      by_cases k2 : t - (c.size : Int) - (r.size : Int) < 0
      · rw [if_pos k2]; exact ⟨_, rfl, fun h => absurd (show ((-1 : Int) < 0) by decide) h⟩
      · rw [if_neg k2]; exact ⟨_, rfl, fun _ => ⟨by omega, by omega⟩⟩
  obtain ⟨u, hu, hv⟩ := hz
  rw [hu]
  refine ev_some (ev_ite (fun _ => ev_eq rfl) (fun h3 => ?_))
  obtain ⟨h4, h5⟩ := hv h3
  refine ev_some (ev_some (Ev.bind (spec_AppendRecord_ev d p n c r (by omega) (by omega) h4 h5) (ev_some (ev_some (Ev.bind (impl_AppendRecord_ev d p n c r (by omega) (by omega) h4 h5) ?_)))))
  rw [eqLog_self]
  exact ev_some (ev_pos rfl (ev_pos rfl (ev_eq rfl)))
end Go.Proofs.YtgcabagolfchhaaDoor.Pure

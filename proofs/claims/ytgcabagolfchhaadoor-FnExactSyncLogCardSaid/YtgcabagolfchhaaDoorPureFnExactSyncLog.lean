/- Plain: the log whose records are all durable: the program's and the reference's are one. -/
import Derived.Test.YtgcabagolfchhaaDoorX7
import Derived.Test.YtgcabagolfchhaaDoorLogLaws
set_option linter.unusedVariables false
set_option linter.unusedSimpArgs false
namespace Go.Proofs.YtgcabagolfchhaaDoor.Pure
open Go.RowKit Go.Proofs.YtgcabagolfchhaaDoorW.PrintWords Go.Proofs.YtgcabagolfchhaaDoorW.PrintLast Go.Proofs.YtgcabagolfchhaaDoorW.PrintMore Go.Proofs.YtgcabagolfchhaaDoor.X Go.Proofs.YtgcabagolfchhaaDoor.Pl
theorem FnExactSyncLog : ∀ (a0_0 : ByteArray) (a0_1 : ByteArray) (a0_2 : Int), a0_0.size ≤ 140737488351232 → a0_1.size ≤ 140737488351232 → (Lit.int .i64 a0_2).wf = true → ∃ k, laws_FnExactSyncLog.f k a0_0 a0_1 a0_2 = some true := by
  intro d p n hd hp _
  refine Ev.rounds (r := true) ?_
  unfold laws_FnExactSyncLog.f laws_toLog.f spec_SyncLog.f impl_SyncLog.f
  obtain ⟨t, ht, hs⟩ := sz_log (n := n) hd hp
  rw [ht]
  refine ev_some (ev_ite (fun _ => ev_eq rfl) (fun h => ?_))
  obtain ⟨h1, _⟩ := hs h
  have e1 := l12Valid_ev d p n (by omega) (by omega)
  have e2 := impl_IsValidLog_ev d p n (by omega) (by omega)
  cases hok : okLog d p n with
  | true =>
    rw [hok] at e1 e2
    refine ev_some (Ev.bind (a := (d ++ p, (⟨#[]⟩ : ByteArray), n, true)) (Ev.bind e1 (ev_pos rfl (ev_pos (by simp only; omega) (ev_eq rfl)))) (ev_some (Ev.bind (a := (d ++ p, (⟨#[]⟩ : ByteArray), n, true)) (Ev.bind e2 (ev_pos rfl (ev_pos (by simp only; omega) (ev_eq rfl)))) ?_)))
    rw [eqLog_self]
    exact ev_some (ev_pos rfl (ev_neg (by simp) (ev_eq rfl)))
  | false =>
    rw [hok] at e1 e2
    refine ev_some (Ev.bind (a := ((⟨#[]⟩ : ByteArray), (⟨#[]⟩ : ByteArray), (0 : Int), false)) (Ev.bind e1 (ev_neg (by simp) (ev_eq rfl))) (ev_some (Ev.bind (a := ((⟨#[]⟩ : ByteArray), (⟨#[]⟩ : ByteArray), (0 : Int), false)) (Ev.bind e2 (ev_neg (by simp) (ev_eq rfl))) ?_)))
    rw [eqLog_self]
    exact ev_some (ev_pos rfl (ev_neg (by simp) (ev_eq rfl)))
end Go.Proofs.YtgcabagolfchhaaDoor.Pure

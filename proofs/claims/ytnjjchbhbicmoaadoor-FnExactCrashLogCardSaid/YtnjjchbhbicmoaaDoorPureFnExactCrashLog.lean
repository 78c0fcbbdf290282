/- Plain: the bytes of a log that survive a crash: the program's and the reference's. -/
import Derived.Test.YtnjjchbhbicmoaaDoorX16
import Derived.Test.YtnjjchbhbicmoaaDoorLogMore
import Derived.Test.YtnjjchbhbicmoaaDoorCrash
set_option linter.unusedVariables false
set_option linter.unusedSimpArgs false
namespace Go.Proofs.YtnjjchbhbicmoaaDoor.Pure
open Go.RowKit Go.Proofs.YtnjjchbhbicmoaaDoorW.PrintWords Go.Proofs.YtnjjchbhbicmoaaDoorW.PrintLast Go.Proofs.YtnjjchbhbicmoaaDoorW.PrintMore Go.Proofs.YtnjjchbhbicmoaaDoor.X Go.Proofs.YtnjjchbhbicmoaaDoor.Pl
theorem FnExactCrashLog : ∀ (a0_0 : ByteArray) (a0_1 : ByteArray) (a0_2 : Int) (a1 : Int) (a2 : Bool), a0_0.size ≤ 140737488351232 → a0_1.size ≤ 140737488351232 → (Lit.int .i64 a0_2).wf = true → (Lit.int .i64 a1).wf = true → ∃ k, laws_FnExactCrashLog.f k a0_0 a0_1 a0_2 a1 a2 = some true := by
  intro d p n keep torn hd hp _ _
  refine Ev.rounds (r := true) ?_
  unfold laws_FnExactCrashLog.f laws_toLog.f
  obtain ⟨t, ht, hs⟩ := sz_log (n := n) hd hp
  rw [ht]
  refine ev_some (ev_ite (fun _ => ev_eq rfl) (fun h => ?_))
  obtain ⟨h1, _⟩ := hs h
  refine ev_some (Ev.bind (specCrash_ev d p n keep torn h1) (ev_some (Ev.bind (implCrash_ev d p n keep torn h1) ?_)))
  generalize crashOf d p n keep torn = c
  refine ev_pos rfl (ev_neg (by simp) (ev_eq rfl))
end Go.Proofs.YtnjjchbhbicmoaaDoor.Pure

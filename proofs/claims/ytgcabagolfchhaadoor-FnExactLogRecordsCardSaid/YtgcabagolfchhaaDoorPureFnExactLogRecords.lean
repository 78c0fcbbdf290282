/- Plain: the records of a log: the program's and the reference's are one, and the program's list is its own. -/
import Derived.Test.YtgcabagolfchhaaDoorX9
import Derived.Test.YtgcabagolfchhaaDoorLogLaws
import Derived.Test.YtgcabagolfchhaaDoorMarkRecs
set_option linter.unusedVariables false
set_option linter.unusedSimpArgs false
namespace Go.Proofs.YtgcabagolfchhaaDoor.Pure
open Go.RowKit Go.Proofs.YtgcabagolfchhaaDoorW.PrintWords Go.Proofs.YtgcabagolfchhaaDoorW.PrintLast Go.Proofs.YtgcabagolfchhaaDoorW.PrintMore Go.Proofs.YtgcabagolfchhaaDoor.X Go.Proofs.YtgcabagolfchhaaDoor.Pl
theorem spec_LogRecords_ev (d p : ByteArray) (n : Int) (hd : d.size ≤ 1048576) (hp : p.size ≤ 1048576) : Ev (fun k => spec_LogRecords.f k d p n) (recsOf d p n) := by
  unfold spec_LogRecords.f
  refine Ev.bind (l12Valid_ev d p n hd hp) ?_
  cases h : okLog d p n with
  | true =>
    have hsz : d.size + p.size ≤ 30000 := by
      unfold okLog at h
      rw [Bool.and_eq_true] at h
      exact of_decide_eq_true h.1
    have hz := size_append d p
    rw [recsOf_ok h]
    exact ev_pos rfl (ev_pos (by omega) (Ev.bind (open_all (d ++ p) (by omega)) (ev_eq rfl)))
  | false =>
    rw [recsOf_no h]
    exact ev_neg (by simp) (ev_eq rfl)
theorem impl_LogRecords_ev (d p : ByteArray) (n : Int) (hd : d.size ≤ 1048576) (hp : p.size ≤ 1048576) : Ev (fun k => impl_LogRecords.f k d p n) (recsOf d p n) := by
  unfold impl_LogRecords.f
  exact Ev.bind (Log_records_ev d p n hd hp) (ev_eq rfl)
theorem recsOf_length (d p : ByteArray) (n : Int) : (recsOf d p n).1.length ≤ 40 := by
  cases h : okLog d p n with
  | true => rw [recsOf_ok h]; exact allOf_length _
  | false => rw [recsOf_no h]; exact Nat.zero_le _
theorem FnExactLogRecords : ∀ (a0_0 : ByteArray) (a0_1 : ByteArray) (a0_2 : Int), a0_0.size ≤ 140737488351232 → a0_1.size ≤ 140737488351232 → (Lit.int .i64 a0_2).wf = true → ∃ k, laws_FnExactLogRecords.f k a0_0 a0_1 a0_2 = some true := by
  intro d p n hd hp _
  refine Ev.rounds (r := true) ?_
  unfold laws_FnExactLogRecords.f laws_toLog.f
  obtain ⟨t, ht, hs⟩ := sz_log (n := n) hd hp
  rw [ht]
  refine ev_some (ev_ite (fun _ => ev_eq rfl) (fun h => ?_))
  obtain ⟨h1, _⟩ := hs h
  have e1 := spec_LogRecords_ev d p n (by omega) (by omega)
  have e2 := impl_LogRecords_ev d p n (by omega) (by omega)
  have hlen := recsOf_length d p n
  obtain ⟨R, hR⟩ : ∃ R, R = recsOf d p n := ⟨_, rfl⟩
  rw [← hR] at e1 e2 hlen
  refine ev_some (Ev.bind e1 (ev_some (Ev.bind e2 (Ev.bind (eq_recs R.1 (by omega)) (ev_pos rfl ?_)))))
  have hb : (R.2 != R.2) = false := by simp
  rw [hb]
  obtain ⟨ys, m1, m2, m3⟩ := mark_recs R.1 (by omega)
  have hh := held_recs ys (by omega) m3
  rw [m2] at hh
  refine Ev.step (fun k => by unfold laws_FnExactLogRecords.j0; rfl) (ev_neg (by simp) (Ev.bind m1 (Ev.bind hh ?_)))
  refine ev_neg (by omega) (ev_pos rfl ?_)
  unfold laws_toLog.f
  refine ev_some (Ev.bind e2 (Ev.bind (eq_recs R.1 (by omega)) (ev_pos rfl ?_)))
  rw [hb]
  refine Ev.step (fun k => by unfold laws_FnExactLogRecords.j1; rfl) (ev_neg (by simp) (Ev.bind hh ?_))
  exact ev_neg (by omega) (ev_pos rfl (ev_eq rfl))
end Go.Proofs.YtgcabagolfchhaaDoor.Pure

/- Plain: FirstWinner of the program and of the reference answer alike. -/
import Derived.Test.YtcbjfflaamlpcaaX26
import Derived.Test.YtcbjfflaamlpcaaGameLaw
import Derived.Test.YtcbjfflaamlpcaaGameC
set_option linter.unusedVariables false
set_option linter.unusedSimpArgs false
namespace Go.Proofs.Ytcbjfflaamlpcaa.Pure
open Go.RowKit Go.Proofs.YtcbjfflaamlpcaaW.PrintWords Go.Proofs.YtcbjfflaamlpcaaW.PrintLast Go.Proofs.YtcbjfflaamlpcaaW.PrintMore Go.Proofs.Ytcbjfflaamlpcaa.X Go.Proofs.Ytcbjfflaamlpcaa.Pl
theorem both (t : List ND) (ht : t.length ≤ 2000000) (n : Int) : ∃ r, Ev (fun k => spec_FirstWinner.f k t n) r ∧ Ev (fun k => impl_FirstWinner.f k t n) r := by
  unfold spec_FirstWinner.f impl_FirstWinner.f spec_l11First.f impl_game_winner.f
  by_cases hg : GdN t 0 n
  · obtain ⟨P, hP, hT, hn, i, hi0, hi⟩ := hg.get
    have h1 := l11Wins_ok hP n false hi
    have h2 := wins_ok hP n hi
    rw [← hi0] at h1 h2
    refine ⟨(if winsB t P n false i = true then 0 else 1, true), Ev.bind (l11Good_yes ht hg) (ev_pos rfl (Ev.bind (a := if winsB t P n false i = true then 0 else 1) (Ev.bind h1 ?_) (ev_eq rfl))), Ev.bind (newGame_yes hP hT hn) (ev_pos rfl (Ev.bind (a := if winsB t P n false i = true then 0 else 1) (Ev.bind h2 ?_) (ev_eq rfl)))⟩
    all_goals cases winsB t P n false i with
      | true => exact ev_pos rfl (ev_eq rfl)
      | false => exact ev_neg (by decide) (ev_eq rfl)
  · refine ⟨(0, false), Ev.bind (l11Good_no ht hg) (ev_neg (by decide) (ev_eq rfl)), Ev.bind (newGame_no ht ?_) (ev_neg (by decide) (ev_eq rfl))⟩
    rintro ⟨h1, h2⟩
    obtain ⟨P, hP⟩ := ((isT_iff t).1 h1).gok
    have := hP.one
    exact hg ⟨h1, by omega, h2⟩
theorem FnExactFirstWinner : ∀ (l0_0 : List (S80)) (a1 : Int), (l0_0.length * 24 ≤ 140737488351232 ∧ ∀ y ∈ l0_0, ((Lit.int .i64 y.f0).wf = true ∧ (Lit.int .i64 y.f1).wf = true ∧ True)) → (Lit.int .i64 a1).wf = true → ∃ k, laws_FnExactFirstWinner.f k l0_0 a1 = some true := by
  intro l a hl _
  unfold laws_FnExactFirstWinner.f
  refine Ev.rounds (ev_size hl.1 fun hlen => ?_)
  obtain ⟨⟨b, ok⟩, h1, h2⟩ := both (l.map cv) (by rw [List.length_map]; omega) a
  have hT := toTrie_ev l (by omega)
  refine Ev.bind hT (Ev.bind h1 (Ev.bind hT (Ev.bind h2 ?_)))
  simp only [bne_self_eq_false]
  refine ev_pos trivial (Ev.step (fun k => by unfold laws_FnExactFirstWinner.j0; rfl) (ev_neg (by decide) (Ev.bind hT (Ev.bind (eqTrie_ev (l.map cv) (l.map cv) (by rw [List.length_map]; omega)) ?_))))
  rw [decide_eq_true rfl]
  exact ev_pos rfl (ev_eq rfl)
end Go.Proofs.Ytcbjfflaamlpcaa.Pure

/- Plain: GameLength of the program and of the reference answer alike. -/
import Derived.Test.YtcbjfflaamlpcaaX19
import Derived.Test.YtcbjfflaamlpcaaGameLaw
import Derived.Test.YtcbjfflaamlpcaaGameE
import Derived.Test.YtcbjfflaamlpcaaGameH
set_option linter.unusedVariables false
set_option linter.unusedSimpArgs false
namespace Go.Proofs.Ytcbjfflaamlpcaa.Pure
open Go.RowKit Go.Proofs.YtcbjfflaamlpcaaW.PrintWords Go.Proofs.YtcbjfflaamlpcaaW.PrintLast Go.Proofs.YtcbjfflaamlpcaaW.PrintMore Go.Proofs.Ytcbjfflaamlpcaa.X Go.Proofs.Ytcbjfflaamlpcaa.Pl
theorem both (t : List ND) (ht : t.length ≤ 2000000) (a n : Int) : ∃ r, Ev (fun k => spec_GameLength.f k t a n) r ∧ Ev (fun k => impl_GameLength.f k t a n) r := by
  unfold spec_GameLength.f impl_GameLength.f
  refine at_both t ht a n 0 (fun k => spec_l11Length.f k t a n) (fun k m l => impl_game_length.f k t m l a) (fun P i hP e hi => ?_)
  subst e
  exact ⟨_, l11Length_ok hP n hi, length_ok hP n hi⟩
theorem FnExactGameLength : ∀ (l0_0 : List (S80)) (a1 : Int) (a2 : Int), (l0_0.length * 24 ≤ 140737488351232 ∧ ∀ y ∈ l0_0, ((Lit.int .i64 y.f0).wf = true ∧ (Lit.int .i64 y.f1).wf = true ∧ True)) → (Lit.int .i64 a1).wf = true → (Lit.int .i64 a2).wf = true → ∃ k, laws_FnExactGameLength.f k l0_0 a1 a2 = some true := by
  intro l a n hl _ _
  unfold laws_FnExactGameLength.f
  refine Ev.rounds (ev_size hl.1 fun hlen => ?_)
  obtain ⟨⟨b, ok⟩, h1, h2⟩ := both (l.map cv) (by rw [List.length_map]; omega) a n
  have hT := toTrie_ev l (by omega)
  refine Ev.bind hT (Ev.bind h1 (Ev.bind hT (Ev.bind h2 ?_)))
  simp only [bne_self_eq_false]
  refine ev_pos trivial (Ev.step (fun k => by unfold laws_FnExactGameLength.j0; rfl) (ev_neg (by decide) (Ev.bind hT (Ev.bind (eqTrie_ev (l.map cv) (l.map cv) (by rw [List.length_map]; omega)) ?_))))
  rw [decide_eq_true rfl]
  exact ev_pos rfl (ev_eq rfl)
end Go.Proofs.Ytcbjfflaamlpcaa.Pure

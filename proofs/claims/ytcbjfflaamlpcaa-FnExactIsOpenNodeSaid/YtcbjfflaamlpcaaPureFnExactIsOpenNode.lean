/- Plain: IsOpenNode of the program and of the reference answer alike. -/
import Derived.Test.YtcbjfflaamlpcaaX31
import Derived.Test.YtcbjfflaamlpcaaGameLaw
import Derived.Test.YtcbjfflaamlpcaaGameA
set_option linter.unusedVariables false
set_option linter.unusedSimpArgs false
namespace Go.Proofs.Ytcbjfflaamlpcaa.Pure
open Go.RowKit Go.Proofs.YtcbjfflaamlpcaaW.PrintWords Go.Proofs.YtcbjfflaamlpcaaW.PrintLast Go.Proofs.YtcbjfflaamlpcaaW.PrintMore Go.Proofs.Ytcbjfflaamlpcaa.X Go.Proofs.Ytcbjfflaamlpcaa.Pl
theorem both (t : List ND) (ht : t.length ≤ 2000000) (a n : Int) : ∃ r, Ev (fun k => spec_IsOpenNode.f k t a n) r ∧ Ev (fun k => impl_IsOpenNode.f k t a n) r := by
  unfold spec_IsOpenNode.f impl_IsOpenNode.f
  by_cases h : GdN t a n
  · obtain ⟨P, hP, hT, hn, i, rfl, hi⟩ := h.get
    have hl := hP.len
    refine ⟨(opn t P n i, true), Ev.bind (l11Good_yes ht h) (ev_pos rfl (Ev.bind (l11Open_ev hP n hi) (ev_eq rfl))), Ev.bind (newGame_yes hP hT hn) (ev_pos rfl ?_)⟩
    rw [in_eq, w64 (by omega) (by omega)]
    exact ev_some (ev_pos (decide_eq_true (by omega)) (Ev.bind (isOpen_ev hP n hi) (ev_eq rfl)))
  · refine ⟨(false, false), Ev.bind (l11Good_no ht h) (ev_neg (by decide) (ev_eq rfl)), ?_⟩
    by_cases hg : isT t = true ∧ 1 ≤ n ∧ n ≤ 6
    · obtain ⟨P, hP⟩ := ((isT_iff t).1 hg.1).gok
      refine Ev.bind (newGame_yes hP hg.1 hg.2) (ev_pos rfl ?_)
      rw [in_eq, w64 (by omega) (by omega)]
      exact ev_some (ev_neg (by rw [decide_eq_true_eq]; exact fun hc => h ⟨hg.1, by omega, hg.2⟩) (ev_eq rfl))
    · exact Ev.bind (newGame_no ht hg) (ev_neg (by decide) (ev_eq rfl))
theorem FnExactIsOpenNode : ∀ (l0_0 : List (S80)) (a1 : Int) (a2 : Int), (l0_0.length * 24 ≤ 140737488351232 ∧ ∀ y ∈ l0_0, ((Lit.int .i64 y.f0).wf = true ∧ (Lit.int .i64 y.f1).wf = true ∧ True)) → (Lit.int .i64 a1).wf = true → (Lit.int .i64 a2).wf = true → ∃ k, laws_FnExactIsOpenNode.f k l0_0 a1 a2 = some true := by
  intro l a n hl _ _
  unfold laws_FnExactIsOpenNode.f
  refine Ev.rounds (ev_size hl.1 fun hlen => ?_)
  obtain ⟨⟨b, ok⟩, h1, h2⟩ := both (l.map cv) (by rw [List.length_map]; omega) a n
  have hT := toTrie_ev l (by omega)
  refine Ev.bind hT (Ev.bind h1 (Ev.bind hT (Ev.bind h2 ?_)))
  simp only [bne_self_eq_false]
  refine ev_neg (by decide) (Ev.step (fun k => by unfold laws_FnExactIsOpenNode.j0; rfl) (ev_neg (by decide) (Ev.bind hT (Ev.bind (eqTrie_ev (l.map cv) (l.map cv) (by rw [List.length_map]; omega)) ?_))))
  rw [decide_eq_true rfl]
  exact ev_pos rfl (ev_eq rfl)
end Go.Proofs.Ytcbjfflaamlpcaa.Pure

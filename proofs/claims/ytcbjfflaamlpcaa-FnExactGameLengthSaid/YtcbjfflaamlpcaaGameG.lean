/- Plain: the game at a node. -/
import Derived.Test.YtcbjfflaamlpcaaX17
import Derived.Test.YtcbjfflaamlpcaaGameA
set_option linter.unusedVariables false
set_option linter.unusedSimpArgs false
namespace Go.Proofs.Ytcbjfflaamlpcaa.Pl
open Go.RowKit Go.Proofs.YtcbjfflaamlpcaaW.PrintWords Go.Proofs.YtcbjfflaamlpcaaW.PrintLast Go.Proofs.YtcbjfflaamlpcaaW.PrintMore Go.Proofs.Ytcbjfflaamlpcaa.X

theorem gameAt_no {t : List ND} (ht : t.length ≤ 2000000) {node n : Int} (h : ¬ (isT t = true ∧ (0 ≤ node ∧ node < (t.length : Int)) ∧ 1 ≤ n ∧ n ≤ 6)) : Ev (fun k => impl_gameAt.f k t node n) (false, 0, []) := by
  unfold impl_gameAt.f
  by_cases hg : isT t = true ∧ 1 ≤ n ∧ n ≤ 6
  · obtain ⟨P, hP⟩ := ((isT_iff t).1 hg.1).gok
    refine Ev.bind (newGame_yes hP hg.1 hg.2) (ev_pos rfl ?_)
    rw [in_eq, w64 (by omega) (by omega)]
    exact ev_some (ev_neg (by rw [decide_eq_true_eq]; exact fun hc => h ⟨hg.1, by omega, hg.2⟩) (ev_eq rfl))
  · exact Ev.bind (newGame_no ht hg) (ev_neg (by decide) (ev_eq rfl))
theorem gameAt_yes {t : List ND} {P : List Wd} (h : GOk t P) (hT : isT t = true) {n : Int} (hn : 1 ≤ n ∧ n ≤ 6) {i : Nat} (hi : i < t.length) : Ev (fun k => impl_gameAt.f k t i n) (if opn t P n i = true then (true, n, P.map wb) else (false, 0, [])) := by
  have hl := h.len
  unfold impl_gameAt.f
  refine Ev.bind (newGame_yes h hT hn) (ev_pos rfl ?_)
  rw [in_eq, w64 (by omega) (by omega)]
  refine ev_some (ev_pos (decide_eq_true (by omega)) (Ev.bind (isOpen_ev h n hi) ?_))
  cases opn t P n i with
  | true => exact ev_pos rfl (ev_eq rfl)
  | false => exact ev_neg (by decide) (ev_eq rfl)
end Go.Proofs.Ytcbjfflaamlpcaa.Pl

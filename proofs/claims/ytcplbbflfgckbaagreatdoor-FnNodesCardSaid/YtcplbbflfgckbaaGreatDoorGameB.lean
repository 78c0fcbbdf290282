/- Plain: the kids of a node. -/
import Derived.Test.YtcplbbflfgckbaaGreatDoorX17
import Derived.Test.YtcplbbflfgckbaaGreatDoorTrieE
import Derived.Test.YtcplbbflfgckbaaGreatDoorTrieG
set_option linter.unusedVariables false
set_option linter.unusedSimpArgs false
namespace Go.Proofs.YtcplbbflfgckbaaGreatDoor.Pl
open Go.RowKit Go.Proofs.YtcplbbflfgckbaaGreatDoorW.PrintWords Go.Proofs.YtcplbbflfgckbaaGreatDoorW.PrintLast Go.Proofs.YtcplbbflfgckbaaGreatDoorW.PrintMore Go.Proofs.YtcplbbflfgckbaaGreatDoor.X

theorem l2Kids_ev {t : List ND} {P : List Wd} (h : GOk t P) {i : Nat} (hi : i < t.length) : Ev (fun k => spec_l2Kids.f k t i) (ints (kids t i)) := by
  have hl := h.len
  unfold spec_l2Kids.f
  rw [inc (by omega)]
  have key : ∀ d j (acc : List Int), t.length - j = d → j ≤ t.length → acc.length ≤ j → Ev (fun k => spec_l2Kids.l0 k i acc (j : Nat) t) (acc ++ ints (kidsFrom t i j)) := by
    intro d
    induction d with
    | zero =>
      intro j acc hd hj ha
      refine Ev.step (fun k => by unfold spec_l2Kids.l0; rfl) (ev_neg (by omega) (ev_eq ?_))
      rw [kidsFrom_end t i j (by omega)]; simp [ints]
    | succ d ih =>
      intro j acc hd hj ha
      have hj' : j < t.length := by omega
      refine Ev.step (fun k => by unfold spec_l2Kids.l0; rfl) (ev_pos (by omega) (ev_pos (by omega) ?_))
      rw [rd_nd' hj', inc (by omega), kidsFrom_step t i j hj']
      by_cases hc : par t j = (i : Int)
      · rw [if_pos hc]
        refine ev_pos hc (ev_pos (by omega) ?_)
        have := ih (j + 1) (acc ++ [(j : Int)]) (by omega) (by omega) (by rw [List.length_append]; simp; omega)
        rw [List.append_assoc] at this
        exact this
      · rw [if_neg hc]
        exact ev_neg hc (ih (j + 1) acc (by omega) (by omega) (by omega))
  have := key _ (i + 1) [] rfl (by omega) (by simp)
  rw [← kidsFrom_skip h i (i + 1) (Nat.le_refl _)] at this
  exact this
theorem kids_ev {t : List ND} (hl : t.length ≤ 2000000) (i : Nat) : Ev (fun k => impl_Trie_kids.f k t i) (ints (kids t i)) := by
  unfold impl_Trie_kids.f
  have key : ∀ d j (acc : List Int), t.length - j = d → j ≤ t.length → acc.length ≤ j → Ev (fun k => impl_Trie_kids.l0 k i acc t (t.length : Int) (j : Nat)) (acc ++ ints (kidsFrom t i j)) := by
    intro d
    induction d with
    | zero =>
      intro j acc hd hj ha
      refine Ev.step (fun k => by unfold impl_Trie_kids.l0; rfl) (ev_neg (by omega) (ev_eq ?_))
      rw [kidsFrom_end t i j (by omega)]; simp [ints]
    | succ d ih =>
      intro j acc hd hj ha
      have hj' : j < t.length := by omega
      refine Ev.step (fun k => by unfold impl_Trie_kids.l0; rfl) (ev_pos (by omega) (ev_pos (by omega) (ev_pos (by omega) ?_)))
      rw [rd_nd' hj', inc (by omega), kidsFrom_step t i j hj']
      by_cases hc : par t j = (i : Int)
      · rw [if_pos hc]
        refine ev_pos hc (ev_pos (by omega) ?_)
        have := ih (j + 1) (acc ++ [(j : Int)]) (by omega) (by omega) (by rw [List.length_append]; simp; omega)
        rw [List.append_assoc] at this
        exact this
      · rw [if_neg hc]
        exact ev_neg hc (ih (j + 1) acc (by omega) (by omega) (by omega))
  have := key _ 0 [] rfl (by omega) (by simp)
  exact this
end Go.Proofs.YtcplbbflfgckbaaGreatDoor.Pl


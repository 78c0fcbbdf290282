/- Plain: how many games there are from a node on. -/
import Derived.Test.YtcbjfflaamlpcaaX20
import Derived.Test.YtcbjfflaamlpcaaGameB
set_option linter.unusedVariables false
set_option linter.unusedSimpArgs false
namespace Go.Proofs.Ytcbjfflaamlpcaa.Pl
open Go.RowKit Go.Proofs.YtcbjfflaamlpcaaW.PrintWords Go.Proofs.YtcbjfflaamlpcaaW.PrintLast Go.Proofs.YtcbjfflaamlpcaaW.PrintMore Go.Proofs.Ytcbjfflaamlpcaa.X

def cntF (t : List ND) (P : List Wd) (n : Int) : Nat → Nat → Int
  | 0, _ => 0
  | d + 1, i => if kids t i = [] ∨ fatal t P n i = true then 1 else (kids t i).foldl (fun a c => wrap64 (a + cntF t P n d c)) 0
theorem l11Count_ev {t : List ND} {P : List Wd} (h : GOk t P) (n : Int) : ∀ d i, t.length - i ≤ d → i < t.length → Ev (fun k => spec_l11Count.f k t i n) (cntF t P n d i)
  | 0, i, hd, hi => absurd hi (by omega)
  | d + 1, i, hd, hi => by
    refine Ev.step (fun k => by unfold spec_l11Count.f; rfl) (Ev.bind (l2Kids_ev h hi) ?_)
    have hl := h.len
    have hkl := kids_length t i
    unfold cntF
    by_cases hk : kids t i = []
    · rw [if_pos (.inl hk)]
      exact ev_pos (by rw [ints_length, hk]; rfl) (Ev.step (fun k => by unfold spec_l11Count.j0; rfl) (ev_pos rfl (ev_eq rfl)))
    have hk0 : (kids t i).length ≠ 0 := fun e => hk (List.length_eq_zero_iff.1 e)
    refine ev_neg (by rw [ints_length]; omega) (Ev.bind (l11Fatal_ev h n hi) ?_)
    cases hf : fatal t P n i with
    | true =>
      rw [if_pos (.inr rfl)]
      exact Ev.step (fun k => by unfold spec_l11Count.j0; rfl) (ev_pos rfl (ev_eq rfl))
    | false =>
      rw [if_neg (by rintro (h1 | h1); exact hk h1; exact absurd h1 (by decide))]
      refine Ev.step (fun k => by unfold spec_l11Count.j0; rfl) (ev_neg (by decide) ?_)
      have key : ∀ m j (acc : Int), (kids t i).length - j = m → j ≤ (kids t i).length → Ev (fun k => spec_l11Count.l0 k n (ints (kids t i)) acc (j : Nat) t) (((kids t i).drop j).foldl (fun a c => wrap64 (a + cntF t P n d c)) acc) := by
        intro m
        induction m with
        | zero =>
          intro j acc hm hj
          refine Ev.step (fun k => by unfold spec_l11Count.l0; rfl) (ev_neg (by rw [ints_length]; omega) (ev_eq ?_))
          rw [List.drop_of_length_le (by omega)]; rfl
        | succ m ih =>
          intro j acc hm hj
          have hj' : j < (kids t i).length := by omega
          rw [drop_cons hj' 0, List.foldl_cons]
          generalize hc : (kids t i).getD j 0 = c
          have hmem : c ∈ kids t i := by rw [← hc]; exact getD_mem hj' 0
          have hg := kids_gt h hmem
          refine Ev.step (fun k => by unfold spec_l11Count.l0; rfl) (ev_pos (by rw [ints_length]; omega) (ev_pos (by omega) ?_))
          rw [rd_ints hj', hc, inc (by omega)]
          exact Ev.bind (l11Count_ev h n d c (by omega) hg.2) (ih (j + 1) _ (by omega) (by omega))
      exact key _ 0 0 rfl (Nat.zero_le _)
theorem games_ev {t : List ND} {P : List Wd} (h : GOk t P) (n : Int) : ∀ d i, t.length - i ≤ d → i < t.length → Ev (fun k => impl_game_games.f k t n (P.map wb) i) (cntF t P n d i)
  | 0, i, hd, hi => absurd hi (by omega)
  | d + 1, i, hd, hi => by
    have hl := h.len
    have hkl := kids_length t i
    refine Ev.step (fun k => by unfold impl_game_games.f; rfl) (Ev.bind (kids_ev (by omega) i) ?_)
    unfold cntF
    rw [isFatal_eq h n hi]
    refine ev_some ?_
    cases hf : fatal t P n i with
    | true =>
      rw [if_pos (.inr rfl)]
      exact ev_pos rfl (Ev.step (fun k => by unfold impl_game_games.j0; rfl) (ev_pos rfl (ev_eq rfl)))
    | false =>
      refine ev_neg (by decide) ?_
      by_cases hk : kids t i = []
      · rw [if_pos (.inl hk), show (((ints (kids t i)).length : Int) == 0) = true by rw [hk]; rfl]
        exact Ev.step (fun k => by unfold impl_game_games.j0; rfl) (ev_pos rfl (ev_eq rfl))
      have hk0 : (kids t i).length ≠ 0 := fun e => hk (List.length_eq_zero_iff.1 e)
      rw [if_neg (by rintro (h1 | h1); exact hk h1; exact absurd h1 (by decide)), show (((ints (kids t i)).length : Int) == 0) = false by rw [ints_length, beq_eq_false_iff_ne]; omega]
      refine Ev.step (fun k => by unfold impl_game_games.j0; rfl) (ev_neg (by decide) ?_)
      have key : ∀ m j (acc : Int), (kids t i).length - j = m → j ≤ (kids t i).length → Ev (fun k => impl_game_games.l0 k acc (ints (kids t i)) ((ints (kids t i)).length : Int) (j : Nat) t n (P.map wb)) (((kids t i).drop j).foldl (fun a c => wrap64 (a + cntF t P n d c)) acc) := by
        intro m
        induction m with
        | zero =>
          intro j acc hm hj
          refine Ev.step (fun k => by unfold impl_game_games.l0; rfl) (ev_neg (by rw [ints_length]; omega) (ev_eq ?_))
          rw [List.drop_of_length_le (by omega)]; rfl
        | succ m ih =>
          intro j acc hm hj
          have hj' : j < (kids t i).length := by omega
          rw [drop_cons hj' 0, List.foldl_cons]
          generalize hc : (kids t i).getD j 0 = c
          have hmem : c ∈ kids t i := by rw [← hc]; exact getD_mem hj' 0
          have hg := kids_gt h hmem
          refine Ev.step (fun k => by unfold impl_game_games.l0; rfl) (ev_pos (by rw [ints_length]; omega) (ev_pos (by omega) (ev_pos (by rw [ints_length]; omega) ?_)))
          rw [rd_ints hj', hc, inc (by omega)]
          exact Ev.bind (games_ev h n d c (by omega) hg.2) (ih (j + 1) _ (by omega) (by omega))
      exact key _ 0 0 rfl (Nat.zero_le _)
end Go.Proofs.Ytcbjfflaamlpcaa.Pl

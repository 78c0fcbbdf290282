/- Plain: what the laws' own helpers answer: copies, comparisons, sizes. -/
import Derived.Test.YtknonolfgpknjaaX2
import Derived.Test.YtknonolfgpknjaaX5
import Derived.Test.YtknonolfgpknjaaX6
import Derived.Test.YtknonolfgpknjaaPl
set_option linter.unusedVariables false
set_option linter.unusedSimpArgs false
namespace Go.Proofs.Ytknonolfgpknjaa.Pure
open Go.RowKit Go.Proofs.YtknonolfgpknjaaW.PrintWords Go.Proofs.YtknonolfgpknjaaW.PrintLast Go.Proofs.YtknonolfgpknjaaW.PrintMore Go.Proofs.Ytknonolfgpknjaa.X Go.Proofs.Ytknonolfgpknjaa.Pl
theorem eqStringS_ev (l m : List ByteArray) (hl : l.length ≤ 140737488351232) : Ev (fun k => laws_eqStringS.f k l m) (decide (l = m)) := by
  unfold laws_eqStringS.f
  refine ev_ite (fun h => ?_) (fun h => ev_eq ?_)
  · refine ev_eqlist (z := ByteArray.empty) (g := fun k i => laws_eqStringS.l0 k l m (i : Nat)) (by omega) ?_ (fun i hi R hR => ?_)
    · refine Ev.step (fun k => by simp only [laws_eqStringS.l0]; rfl) ?_
      exact ev_neg (by omega) (ev_eq rfl)
    · refine Ev.step (fun k => by simp only [laws_eqStringS.l0]; rfl) ?_
      refine ev_pos (by omega) (ev_pos (by omega) (ev_pos (by omega) ?_))
      simp only [rdOf_nat, toList_inj, inc (show i ≤ 9223372036854775806 by omega)]
      by_cases e : l.getD i ByteArray.empty = m.getD i ByteArray.empty
      · simp only [if_pos e, decide_eq_true e, Bool.true_and]; exact hR
      · simp only [if_neg e, decide_eq_false e, Bool.false_and]; exact ev_eq rfl
  · simp; rintro rfl; exact h rfl
theorem toIntS_ev (l : List Int) (hl : l.length * 8 ≤ 140737488351232) : Ev (fun k => laws_toIntS.f k l) l := by
  unfold laws_toIntS.f
  refine ev_pos (by omega) (ev_pos (by omega) ?_)
  have h := ev_copy (d := (0 : Int)) (z := (0 : Int)) (xs := l) (g := fun k ys i => laws_toIntS.l0 k l ys (i : Nat))
    (fun k ys i hi hy => by
      simp only [laws_toIntS.l0]
      rw [if_pos (by omega), if_pos (by omega), if_pos (by omega), inc (by omega)]
      rfl)
    (fun k ys => by simp only [laws_toIntS.l0]; rw [if_neg (by omega)])
  simpa using h
theorem eqIntS_ev (l m : List Int) (hl : l.length ≤ 140737488351232) : Ev (fun k => laws_eqIntS.f k l m) (decide (l = m)) := by
  unfold laws_eqIntS.f
  refine ev_ite (fun h => ?_) (fun h => ev_eq ?_)
  · refine ev_eqlist (z := (0 : Int)) (g := fun k i => laws_eqIntS.l0 k l m (i : Nat)) (by omega) ?_ (fun i hi R hR => ?_)
    · refine Ev.step (fun k => by simp only [laws_eqIntS.l0]; rfl) ?_
      exact ev_neg (by omega) (ev_eq rfl)
    · refine Ev.step (fun k => by simp only [laws_eqIntS.l0]; rfl) ?_
      refine ev_pos (by omega) (ev_pos (by omega) (ev_pos (by omega) ?_))
      simp only [rd_nat, inc (show i ≤ 9223372036854775806 by omega)]
      by_cases e : l.getD i 0 = m.getD i 0
      · simp only [if_pos e, decide_eq_true e, Bool.true_and]; exact hR
      · simp only [if_neg e, decide_eq_false e, Bool.false_and]; exact ev_eq rfl
  · simp; rintro rfl; exact h rfl
end Go.Proofs.Ytknonolfgpknjaa.Pure

/- Plain: lists of records: compared, marked, and the marks read. -/
import Derived.Test.YtgcabagolfchhaaDoorX6
import Derived.Test.YtgcabagolfchhaaDoorX7
import Derived.Test.YtgcabagolfchhaaDoorX8
import Derived.Test.YtgcabagolfchhaaDoorPl
set_option linter.unusedVariables false
set_option linter.unusedSimpArgs false
namespace Go.Proofs.YtgcabagolfchhaaDoor.Pl
open Go.RowKit Go.Proofs.YtgcabagolfchhaaDoorW.PrintWords Go.Proofs.YtgcabagolfchhaaDoorW.PrintLast Go.Proofs.YtgcabagolfchhaaDoorW.PrintMore Go.Proofs.YtgcabagolfchhaaDoor.X

theorem marks_exist (m : Nat) (h : m ≤ 1000000) : ∃ t, Ev (fun k => laws_markText.f k m) t := by
  have key : ∀ f (x : Nat) (s : ByteArray), x ≤ f → x ≤ 1000000 → s.size + f ≤ 2000000 → ∃ t, Ev (fun k => laws_markText.l0 k x s) t := by
    intro f
    induction f with
    | zero =>
      intro x s h1 h2 h3
      refine ⟨_, Ev.step (fun k => by unfold laws_markText.l0; rfl) (ev_neg (by omega) (ev_pos (by omega) (ev_eq rfl)))⟩
    | succ f ih =>
      intro x s h1 h2 h3
      by_cases hx : (x : Int) > 0
      · have e1 : wrap64 (Int.tdiv (x : Int) 10) = ((x / 10 : Nat) : Int) := by
          rw [Int.tdiv_eq_ediv_of_nonneg (by omega), w64 (by omega) (by omega)]; omega
        have hz : (strOfNums [(wrap64 (48 + (Int.tmod (x : Int) 10))) % 256]).size = 1 := rfl
        obtain ⟨t, ht⟩ := ih (x / 10) (strOfNums [(wrap64 (48 + (Int.tmod (x : Int) 10))) % 256] ++ s) (by omega) (by omega) (by rw [ByteArray.size_append, hz]; omega)
        refine ⟨t, Ev.step (fun k => by unfold laws_markText.l0; rfl) (ev_pos hx (ev_some (ev_pos (by rw [hz]; omega) ?_)))⟩
        rw [e1]
        exact ht
      · exact ⟨_, Ev.step (fun k => by unfold laws_markText.l0; rfl) (ev_neg hx (ev_pos (by omega) (ev_eq rfl)))⟩
  unfold laws_markText.f
  by_cases hm : (m : Int) ≤ 0
  · exact ⟨_, ev_pos hm (ev_eq rfl)⟩
  · obtain ⟨t, ht⟩ := key m m (⟨#[]⟩ : ByteArray) (Nat.le_refl _) h (by have : (⟨#[]⟩ : ByteArray).size = 0 := rfl; omega)
    exact ⟨t, ev_neg hm ht⟩
/-- A mark's text. -/
noncomputable def markOf (m : Nat) : ByteArray := Classical.epsilon (fun t : ByteArray => Ev (fun k => laws_markText.f k m) t)
theorem markOf_ev (m : Nat) (h : m ≤ 1000000) : Ev (fun k => laws_markText.f k m) (markOf m) := Classical.epsilon_spec (marks_exist m h)
theorem rdT_nat (xs : List S27) (i : Nat) : rd_T27 xs (i : Int) = xs.getD i z27 := rfl
theorem mark_recs (xs0 : List S27) (hl : xs0.length ≤ 1000) : ∃ ys : List S27, Ev (fun k => laws_markLogRecordS.f k xs0 1) (((1 + 2 * xs0.length : Nat) : Int), ys) ∧ ys.length = xs0.length ∧
    ∀ j, j < ys.length → ys.getD j z27 = (⟨markOf (1 + 2 * j), markOf (1 + 2 * j + 1)⟩ : S27) := by
  have key : ∀ d (i : Nat) (xs : List S27), xs.length = xs0.length → xs.length - i = d → i ≤ xs.length → (∀ j, j < i → xs.getD j z27 = (⟨markOf (1 + 2 * j), markOf (1 + 2 * j + 1)⟩ : S27)) →
      ∃ ys : List S27, Ev (fun k => laws_markLogRecordS.l0 k xs ((1 + 2 * i : Nat) : Int) i) (((1 + 2 * xs0.length : Nat) : Int), ys) ∧ ys.length = xs0.length ∧ ∀ j, j < ys.length → ys.getD j z27 = (⟨markOf (1 + 2 * j), markOf (1 + 2 * j + 1)⟩ : S27) := by
    intro d
    induction d with
    | zero =>
      intro i xs h0 hd hi hm
      obtain rfl : i = xs.length := by omega
      refine ⟨xs, Ev.step (fun k => by unfold laws_markLogRecordS.l0; rfl) (ev_neg (by omega) (ev_eq ?_)), h0, hm⟩
      rw [h0]
    | succ d ih =>
      intro i xs h0 hd hi hm
      have hlt : i < xs.length := by omega
      have e1 : wrap64 (((1 + 2 * i : Nat) : Int) + 1) = ((1 + 2 * i + 1 : Nat) : Int) := by rw [w64 (by omega) (by omega)]; omega
      have e2 : wrap64 (((1 + 2 * i + 1 : Nat) : Int) + 1) = ((1 + 2 * (i + 1) : Nat) : Int) := by rw [w64 (by omega) (by omega)]; omega
      have es : ((xs.set i (⟨markOf (1 + 2 * i), (rd_T27 xs i).f1⟩ : S27)).set i (⟨(rd_T27 (xs.set i (⟨markOf (1 + 2 * i), (rd_T27 xs i).f1⟩ : S27)) i).f0, markOf (1 + 2 * i + 1)⟩ : S27)) = xs.set i (⟨markOf (1 + 2 * i), markOf (1 + 2 * i + 1)⟩ : S27) := by
        rw [List.set_set]
        congr 1
        rw [rdT_nat, List.getD, List.getElem?_set_self hlt]
        rfl
      obtain ⟨ys, h1, h2, h3⟩ := ih (i + 1) (xs.set i (⟨markOf (1 + 2 * i), markOf (1 + 2 * i + 1)⟩ : S27)) (by rw [List.length_set]; exact h0) (by rw [List.length_set]; omega) (by rw [List.length_set]; omega) (fun j hj => by
        rw [List.getD, List.getElem?_set]
        by_cases e : i = j
        · subst e; rw [if_pos rfl, if_pos hlt]; rfl
        · rw [if_neg e]; exact hm j (by omega))
      refine ⟨ys, ?_, h2, h3⟩
      refine Ev.step (fun k => by unfold laws_markLogRecordS.l0; rfl) (ev_pos (by omega) (Ev.bind (markOf_ev _ (by omega)) ?_))
      refine ev_pos (by omega) (ev_some ?_)
      rw [e1]
      refine Ev.bind (markOf_ev _ (by omega)) ?_
      rw [e2, inc (by omega), Int.toNat_natCast, es]
      exact h1
  obtain ⟨ys, h1, h2, h3⟩ := key _ 0 xs0 rfl rfl (Nat.zero_le _) (fun j hj => absurd hj (Nat.not_lt_zero _))
  exact ⟨ys, by simpa [laws_markLogRecordS.f] using h1, h2, h3⟩
theorem held_recs (ys : List S27) (hl : ys.length ≤ 1000) (hm : ∀ j, j < ys.length → ys.getD j z27 = (⟨markOf (1 + 2 * j), markOf (1 + 2 * j + 1)⟩ : S27)) : Ev (fun k => laws_heldLogRecordS.f k ys 1) ((1 + 2 * ys.length : Nat) : Int) := by
  have key := ev_down (g := fun k i => laws_heldLogRecordS.l0 k ys ((1 + 2 * i : Nat) : Int) (i : Nat)) (R := fun _ => ((1 + 2 * ys.length : Nat) : Int)) ys.length
    (Ev.step (fun k => by unfold laws_heldLogRecordS.l0; rfl) (ev_neg (by omega) (ev_eq rfl)))
    (fun i hi ih => by
      have e1 : wrap64 (((1 + 2 * i : Nat) : Int) + 1) = ((1 + 2 * i + 1 : Nat) : Int) := by rw [w64 (by omega) (by omega)]; omega
      have e2 : wrap64 (((1 + 2 * i + 1 : Nat) : Int) + 1) = ((1 + 2 * (i + 1) : Nat) : Int) := by rw [w64 (by omega) (by omega)]; omega
      have e3 : rd_T27 ys (i : Int) = (⟨markOf (1 + 2 * i), markOf (1 + 2 * i + 1)⟩ : S27) := by rw [rdT_nat]; exact hm i hi
      refine Ev.step (fun k => by unfold laws_heldLogRecordS.l0; rfl) (ev_pos (by omega) (ev_pos (by omega) (Ev.bind (markOf_ev _ (by omega)) ?_)))
      rw [e3, e1]
      refine ev_pos rfl (Ev.bind (markOf_ev _ (by omega)) (ev_pos rfl ?_))
      rw [e2, inc (by omega)]
      exact ih)
  have := key 0 (Nat.zero_le _)
  simpa [laws_heldLogRecordS.f] using this
theorem eq_recs (xs : List S27) (hl : xs.length ≤ 1000) : Ev (fun k => laws_eqLogRecordS.f k xs xs) true := by
  unfold laws_eqLogRecordS.f
  refine ev_pos rfl ?_
  have key := ev_down (g := fun k i => laws_eqLogRecordS.l0 k xs xs (i : Nat)) (R := fun _ => true) xs.length
    (Ev.step (fun k => by unfold laws_eqLogRecordS.l0; rfl) (ev_neg (by omega) (ev_eq rfl)))
    (fun i hi ih => by
      refine Ev.step (fun k => by unfold laws_eqLogRecordS.l0; rfl) (ev_pos (by omega) (ev_pos (by omega) (ev_pos (by omega) ?_)))
      unfold laws_eqLogRecord.f
      rw [if_pos rfl, if_pos rfl]
      refine ev_some (ev_pos rfl ?_)
      rw [inc (by omega)]
      exact ih)
  exact key 0 (Nat.zero_le _)
end Go.Proofs.YtgcabagolfchhaaDoor.Pl

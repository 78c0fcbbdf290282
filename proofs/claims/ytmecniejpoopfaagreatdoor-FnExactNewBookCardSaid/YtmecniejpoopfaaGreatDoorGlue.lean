/- Plain: what the laws' own helpers answer: copies, comparisons, sizes. -/
import Derived.Test.YtmecniejpoopfaaGreatDoorX13
import Derived.Test.YtmecniejpoopfaaGreatDoorPl
set_option linter.unusedVariables false
set_option linter.unusedSimpArgs false
namespace Go.Proofs.YtmecniejpoopfaaGreatDoor.Pure
open Go.RowKit Go.Proofs.YtmecniejpoopfaaGreatDoorW.PrintWords Go.Proofs.YtmecniejpoopfaaGreatDoorW.PrintLast Go.Proofs.YtmecniejpoopfaaGreatDoorW.PrintMore Go.Proofs.YtmecniejpoopfaaGreatDoor.X Go.Proofs.YtmecniejpoopfaaGreatDoor.Pl
theorem toStringS_ev (l : List ByteArray) (hl : l.length * 16 ≤ 140737488351232) : Ev (fun k => laws_toStringS.f k l) l := by
  unfold laws_toStringS.f
  refine ev_pos (by omega) (ev_pos (by omega) ?_)
  have h := ev_copy (d := ByteArray.empty) (z := (⟨#[]⟩ : ByteArray)) (xs := l) (g := fun k ys i => laws_toStringS.l0 k l ys (i : Nat))
    (fun k ys i hi hy => by
      simp only [laws_toStringS.l0]
      rw [if_pos (by omega), if_pos (by omega), if_pos (by omega), inc (by omega)]
      rfl)
    (fun k ys => by simp only [laws_toStringS.l0]; rw [if_neg (by omega)])
  simpa using h
theorem eqStringS_ev (l m : List ByteArray) (hl : l.length ≤ 140737488351232) : Ev (fun k => laws_eqStringS.f k l m) (decide (l = m)) := by
  unfold laws_eqStringS.f
  refine ev_ite (fun h => ?_) (fun h => ev_eq ?_)
  · refine ev_eqlist (z := ByteArray.empty) (g := fun k i => laws_eqStringS.l0 k l m (i : Nat)) (by omega) ?_ (fun i hi R hR => ?_)
    · refine Ev.step (fun k => by simp only [laws_eqStringS.l0]; rfl) ?_
      exact ev_neg (by omega) (ev_eq rfl)
    · refine Ev.step (fun k => by simp only [laws_eqStringS.l0]; rfl) ?_
      refine ev_pos (by omega) (ev_pos (by omega) (ev_pos (by omega) ?_))
      simp only [rdOf_nat, toList_inj, inc (show i ≤ 9223372036854775806 by omega)]
      by_cases e : l.getD i ByteArray.empty = m.getD i ByteArray.empty
      · simp only [if_pos e, decide_eq_true e, Bool.true_and]; exact hR
      · simp only [if_neg e, decide_eq_false e, Bool.false_and]; exact ev_eq rfl
  · simp; rintro rfl; exact h rfl
/-- The size test: what is left, or a negative number. If it is not negative, the list is small. -/
theorem szStringS_ev (l : List ByteArray) (a : Int) (ha : 0 ≤ a) (ha2 : a ≤ 1048576) (hl : l.length * 16 ≤ 140737488351232) (hs : ∀ y ∈ l, y.size ≤ 140737488351232) :
    ∃ r, Ev (fun k => laws_szStringS.f k l a) r ∧ (0 ≤ r → r ≤ a ∧ (l.length : Int) ≤ a ∧ ∀ y ∈ l, (y.size : Int) ≤ a) ∧ (r < 0 → r = -1) := by
  unfold laws_szStringS.f
  rw [w64 (x := a - (l.length : Int)) (by omega) (by omega)]
  by_cases h : a - (l.length : Int) < 0
  · exact ⟨-1, ev_pos h (ev_eq rfl), fun h => by omega, fun _ => rfl⟩
  · have key : ∀ m i b, l.length - i = m → i ≤ l.length → 0 ≤ b → b ≤ a → ∃ r, Ev (fun k => laws_szStringS.l0 k l b (i : Nat)) r ∧ (0 ≤ r → r ≤ a ∧ ∀ j, i ≤ j → j < l.length → ((l.getD j ByteArray.empty).size : Int) ≤ a) ∧ (r < 0 → r = -1) := by
      intro m
      induction m with
      | zero =>
        intro i b hm hi h0 h1
        refine ⟨b, Ev.step (fun k => by simp only [laws_szStringS.l0]; rfl) (ev_neg (by omega) (ev_eq rfl)), fun _ => ⟨h1, fun j hj hj2 => by omega⟩, fun h => by omega⟩
      | succ m ih =>
        intro i b hm hi h0 h1
        have hi2 : i < l.length := by omega
        have hy := hs _ (getD_mem hi2 ByteArray.empty)
        have e : wrap64 (b - ((l.getD i ByteArray.empty).size : Int)) = b - ((l.getD i ByteArray.empty).size : Int) := w64 (by omega) (by omega)
        by_cases hb : b - ((l.getD i ByteArray.empty).size : Int) < 0
        · refine ⟨-1, Ev.step (fun k => by simp only [laws_szStringS.l0]; rfl) ?_, fun h => by omega, fun _ => rfl⟩
          simp only [rdOf_nat, e]
          exact ev_pos (by omega) (ev_pos (by omega) (ev_pos hb (ev_eq rfl)))
        · obtain ⟨r, hr, hr2, hr3⟩ := ih (i + 1) (b - ((l.getD i ByteArray.empty).size : Int)) (by omega) (by omega) (by omega) (by omega)
          refine ⟨r, Ev.step (fun k => by simp only [laws_szStringS.l0]; rfl) ?_, fun h => ⟨(hr2 h).1, fun j hj hj2 => ?_⟩, hr3⟩
          · simp only [rdOf_nat, e, inc (show i ≤ 9223372036854775806 by omega)]
            exact ev_pos (by omega) (ev_pos (by omega) (ev_neg hb hr))
          · by_cases e2 : j = i
            · subst e2; omega
            · exact (hr2 h).2 j (by omega) hj2
    obtain ⟨r, hr, hr2, hr3⟩ := key _ 0 (a - (l.length : Int)) rfl (by omega) (by omega) (by omega)
    refine ⟨r, ev_neg h hr, fun h0 => ⟨(hr2 h0).1, by omega, fun y hy => ?_⟩, hr3⟩
    obtain ⟨j, hj⟩ := List.mem_iff_getElem?.1 hy
    have hj2 := (List.getElem?_eq_some_iff.1 hj).1
    have := (hr2 h0).2 j (by omega) hj2
    rw [List.getD_eq_getElem?_getD, hj] at this
    exact this
end Go.Proofs.YtmecniejpoopfaaGreatDoor.Pure

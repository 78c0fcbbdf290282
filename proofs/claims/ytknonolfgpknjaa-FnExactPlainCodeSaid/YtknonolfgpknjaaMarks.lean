/- Plain: lists of numbers and of texts, marked, and the marks read. -/
import Derived.Test.YtknonolfgpknjaaX5
import Derived.Test.YtknonolfgpknjaaX6
import Derived.Test.YtknonolfgpknjaaPl
set_option linter.unusedVariables false
set_option linter.unusedSimpArgs false
namespace Go.Proofs.Ytknonolfgpknjaa.Pl
open Go.RowKit Go.Proofs.YtknonolfgpknjaaW.PrintWords Go.Proofs.YtknonolfgpknjaaW.PrintLast Go.Proofs.YtknonolfgpknjaaW.PrintMore Go.Proofs.Ytknonolfgpknjaa.X

theorem markText_some (m : Nat) (h : m ≤ 100000000) : ∃ t, Ev (fun k => laws_markText.f k m) t := by
  have key : ∀ f (x : Nat) (s : ByteArray), x ≤ f → x ≤ 100000000 → s.size + f ≤ 200000000 → ∃ t, Ev (fun k => laws_markText.l0 k x s) t := by
    intro f
    induction f with
    | zero =>
      intro x s h1 h2 h3
      refine ⟨_, Ev.step (fun k => by unfold laws_markText.l0; rfl) (ev_neg (by omega) (ev_pos (by omega) (ev_eq rfl)))⟩
    | succ f ih =>
      intro x s h1 h2 h3
      by_cases hx : (x : Int) > 0
      · have e1 : wrap64 (Int.tdiv (x : Int) 10) = ((x / 10 : Nat) : Int) := by
          rw [Int.tdiv_eq_ediv_of_nonneg (by omega), w64 (by omega) (by omega)]; omega
        have hz : (strOfNums [(wrap64 (48 + (Int.tmod (x : Int) 10))) % 256]).size = 1 := rfl
        obtain ⟨t, ht⟩ := ih (x / 10) (strOfNums [(wrap64 (48 + (Int.tmod (x : Int) 10))) % 256] ++ s) (by omega) (by omega) (by rw [ByteArray.size_append, hz]; omega)
        refine ⟨t, Ev.step (fun k => by unfold laws_markText.l0; rfl) (ev_pos hx (ev_some (ev_pos (by rw [hz]; omega) ?_)))⟩
        rw [e1]
        exact ht
      · exact ⟨_, Ev.step (fun k => by unfold laws_markText.l0; rfl) (ev_neg hx (ev_pos (by omega) (ev_eq rfl)))⟩
  unfold laws_markText.f
  by_cases hm : (m : Int) ≤ 0
  · exact ⟨_, ev_pos hm (ev_eq rfl)⟩
  · obtain ⟨t, ht⟩ := key m m (⟨#[]⟩ : ByteArray) (Nat.le_refl _) h (by have : (⟨#[]⟩ : ByteArray).size = 0 := rfl; omega)
    exact ⟨t, ev_neg hm ht⟩
theorem mark_texts_some (xs0 : List ByteArray) (hl : xs0.length ≤ 1048576) : ∃ ys : List ByteArray, Ev (fun k => laws_markStringS.f k xs0 1) (((1 + xs0.length : Nat) : Int), ys) := by
  have key : ∀ d (i : Nat) (xs : List ByteArray), xs.length = xs0.length → xs.length - i = d → i ≤ xs.length → ∃ ys : List ByteArray, Ev (fun k => laws_markStringS.l0 k xs ((1 + i : Nat) : Int) i) (((1 + xs0.length : Nat) : Int), ys) := by
    intro d
    induction d with
    | zero =>
      intro i xs h0 hd hi
      obtain rfl : i = xs.length := by omega
      refine ⟨xs, Ev.step (fun k => by unfold laws_markStringS.l0; rfl) (ev_neg (by omega) (ev_eq ?_))⟩
      rw [h0]
    | succ d ih =>
      intro i xs h0 hd hi
      have hlt : i < xs.length := by omega
      have e1 : wrap64 (((1 + i : Nat) : Int) + 1) = ((1 + (i + 1) : Nat) : Int) := by rw [w64 (by omega) (by omega)]; omega
      obtain ⟨t, ht⟩ := markText_some (1 + i) (by omega)
      obtain ⟨ys, h1⟩ := ih (i + 1) (xs.set i t) (by rw [List.length_set]; exact h0) (by rw [List.length_set]; omega) (by rw [List.length_set]; omega)
      refine ⟨ys, ?_⟩
      refine Ev.step (fun k => by unfold laws_markStringS.l0; rfl) (ev_pos (by omega) (Ev.bind ht ?_))
      refine ev_pos (by omega) ?_
      rw [e1, inc (by omega), Int.toNat_natCast]
      exact h1
  obtain ⟨ys, h1⟩ := key _ 0 xs0 rfl rfl (Nat.zero_le _)
  exact ⟨ys, by simpa [laws_markStringS.f] using h1⟩
/-- All texts of a list marked; the marks are read again. -/
theorem mark_texts (xs0 : List ByteArray) (hl : xs0.length ≤ 1048576) : ∃ ys : List ByteArray, Ev (fun k => laws_markStringS.f k xs0 1) (((1 + xs0.length : Nat) : Int), ys) ∧ Ev (fun k => laws_heldStringS.f k ys 1) ((1 + xs0.length : Nat) : Int) := by
  have hM : ∀ m : Nat, ∃ s : ByteArray, m ≤ 100000000 → Ev (fun k => laws_markText.f k m) s := fun m => by
    by_cases hm : m ≤ 100000000
    · obtain ⟨s, hs⟩ := markText_some m hm
      exact ⟨s, fun _ => hs⟩
    · exact ⟨ByteArray.empty, fun h => absurd h hm⟩
  obtain ⟨M, hM⟩ := Classical.axiomOfChoice hM
  have key : ∀ d (i : Nat) (xs : List ByteArray), xs.length = xs0.length → xs.length - i = d → i ≤ xs.length → (∀ j, j < i → xs.getD j ByteArray.empty = M (1 + j)) →
      ∃ ys : List ByteArray, Ev (fun k => laws_markStringS.l0 k xs ((1 + i : Nat) : Int) i) (((1 + xs0.length : Nat) : Int), ys) ∧ ys.length = xs0.length ∧ ∀ j, j < ys.length → ys.getD j ByteArray.empty = M (1 + j) := by
    intro d
    induction d with
    | zero =>
      intro i xs h0 hd hi hm
      obtain rfl : i = xs.length := by omega
      refine ⟨xs, Ev.step (fun k => by unfold laws_markStringS.l0; rfl) (ev_neg (by omega) (ev_eq ?_)), h0, hm⟩
      rw [h0]
    | succ d ih =>
      intro i xs h0 hd hi hm
      have hlt : i < xs.length := by omega
      have e1 : wrap64 (((1 + i : Nat) : Int) + 1) = ((1 + (i + 1) : Nat) : Int) := by rw [w64 (by omega) (by omega)]; omega
      obtain ⟨ys, h1, h2, h3⟩ := ih (i + 1) (xs.set i (M (1 + i))) (by rw [List.length_set]; exact h0) (by rw [List.length_set]; omega) (by rw [List.length_set]; omega) (fun j hj => by
        rw [List.getD, List.getElem?_set]
        by_cases e : i = j
        · subst e; rw [if_pos rfl, if_pos hlt]; rfl
        · rw [if_neg e]; exact hm j (by omega))
      refine ⟨ys, ?_, h2, h3⟩
      refine Ev.step (fun k => by unfold laws_markStringS.l0; rfl) (ev_pos (by omega) (Ev.bind (hM (1 + i) (by omega)) ?_))
      refine ev_pos (by omega) ?_
      rw [e1, inc (by omega), Int.toNat_natCast]
      exact h1
  obtain ⟨ys, h1, h2, h3⟩ := key _ 0 xs0 rfl rfl (Nat.zero_le _) (fun j hj => absurd hj (Nat.not_lt_zero _))
  refine ⟨ys, by simpa [laws_markStringS.f] using h1, ?_⟩
  have kk := ev_down (g := fun k i => laws_heldStringS.l0 k ys ((1 + i : Nat) : Int) (i : Nat)) (R := fun _ => ((1 + xs0.length : Nat) : Int)) ys.length
    (by
      refine Ev.step (fun k => by unfold laws_heldStringS.l0; rfl) (ev_neg (by omega) (ev_eq ?_))
      rw [h2])
    (fun i hi ih => by
      have e1 : wrap64 (((1 + i : Nat) : Int) + 1) = ((1 + (i + 1) : Nat) : Int) := by rw [w64 (by omega) (by omega)]; omega
      refine Ev.step (fun k => by unfold laws_heldStringS.l0; rfl) (ev_pos (by omega) (ev_pos (by omega) (Ev.bind (hM (1 + i) (by omega)) ?_)))
      refine ev_pos (by rw [rdOf_nat, h3 i hi]) ?_
      rw [e1, inc (by omega)]
      exact ih)
  have := kk 0 (Nat.zero_le _)
  simpa [laws_heldStringS.f] using this
end Go.Proofs.Ytknonolfgpknjaa.Pl

/- Plain: a trie's nodes, marked. -/
import Derived.Test.YtmecniejpoopfaaGreatDoorX17
import Derived.Test.YtmecniejpoopfaaGreatDoorGameLaw
set_option linter.unusedVariables false
set_option linter.unusedSimpArgs false
namespace Go.Proofs.YtmecniejpoopfaaGreatDoor.Pl
open Go.RowKit Go.Proofs.YtmecniejpoopfaaGreatDoorW.PrintWords Go.Proofs.YtmecniejpoopfaaGreatDoorW.PrintLast Go.Proofs.YtmecniejpoopfaaGreatDoorW.PrintMore Go.Proofs.YtmecniejpoopfaaGreatDoor.X

theorem mark_nodes (t0 : List ND) (hl : t0.length ≤ 2000000) : ∃ (m : Int) (ys : List ND), Ev (fun k => laws_markTrie.f k t0 1) (m, ys) ∧ 0 ≤ m := by
  have key : ∀ d (i : Nat) (xs : List ND) (m : Int), xs.length = t0.length → xs.length - i = d → i ≤ xs.length → 0 ≤ m → m ≤ 1 + 3 * (i : Int) → ∃ (m2 : Int) (ys : List ND), Ev (fun k => laws_markNodeS.l0 k xs m (i : Nat)) (m2, ys) ∧ 0 ≤ m2 := by
    intro d
    induction d with
    | zero =>
      intro i xs m h0 hd hi hm hm2
      exact ⟨m, xs, Ev.step (fun k => by unfold laws_markNodeS.l0; rfl) (ev_neg (by omega) (ev_eq rfl)), hm⟩
    | succ d ih =>
      intro i xs m h0 hd hi hm hm2
      have e3 : wrap64 ((wrap64 ((wrap64 (m + 1)) + 1)) + 1) = m + 3 := by rw [w64 (x := m + 1) (by omega) (by omega), w64 (x := m + 1 + 1) (by omega) (by omega), w64 (by omega) (by omega)]; omega
      obtain ⟨X, hX, hu⟩ : ∃ X : List ND, X.length = xs.length ∧ ∀ k, laws_markNodeS.l0 (k + 1) xs m (i : Int) = laws_markNodeS.l0 k X (m + 3) ((i + 1 : Nat) : Int) := by
        refine ⟨?X, ?h1, fun k => ?h2⟩
        case h2 =>
          conv => lhs; unfold laws_markNodeS.l0
          rw [if_pos (by omega), if_pos (by omega), Option.bind_some, Option.bind_some, e3, inc (by omega)]
        case h1 => simp only [List.length_set]
      obtain ⟨m2, ys, h1, h2⟩ := ih (i + 1) X (m + 3) (by omega) (by omega) (by omega) (by omega) (by omega)
      exact ⟨m2, ys, Ev.step hu h1, h2⟩
  obtain ⟨m2, ys, h1, h2⟩ := key _ 0 t0 1 rfl rfl (Nat.zero_le _) (by omega) (by omega)
  refine ⟨m2, ys, ?_, h2⟩
  unfold laws_markTrie.f laws_markNodeS.f
  exact Ev.bind h1 (ev_eq rfl)
/-- A node's mark. -/
def mkN (j : Nat) : ND := ⟨1 + 3 * (j : Int), 2 + 3 * (j : Int), (Int.tmod (3 + 3 * (j : Int)) 3) == 0⟩
theorem rd_set {xs : List ND} {i : Nat} (h : i < xs.length) (v : ND) : rd_T105 (xs.set i v) (i : Int) = v := by
  rw [rd_nd (by rw [List.length_set]; exact h)]; simp
theorem mark_held (t0 : List ND) (hl : t0.length ≤ 2000000) : ∃ ys : List ND, Ev (fun k => laws_markTrie.f k t0 1) (1 + 3 * (t0.length : Int), ys) ∧ Ev (fun k => laws_heldTrie.f k ys 1) (1 + 3 * (t0.length : Int)) := by
  have key : ∀ d (i : Nat) (xs : List ND), xs.length = t0.length → xs.length - i = d → i ≤ xs.length → (∀ j, j < i → xs.getD j zND = mkN j) →
      ∃ ys : List ND, Ev (fun k => laws_markNodeS.l0 k xs (1 + 3 * (i : Int)) (i : Nat)) (1 + 3 * (t0.length : Int), ys) ∧ ys.length = t0.length ∧ ∀ j, j < ys.length → ys.getD j zND = mkN j := by
    intro d
    induction d with
    | zero =>
      intro i xs h0 hd hi hm
      obtain rfl : i = xs.length := by omega
      refine ⟨xs, Ev.step (fun k => by unfold laws_markNodeS.l0; rfl) (ev_neg (by omega) (ev_eq ?_)), h0, hm⟩
      rw [h0]
    | succ d ih =>
      intro i xs h0 hd hi hm
      have hlt : i < xs.length := by omega
      obtain ⟨ys, h1, h2, h3⟩ := ih (i + 1) (xs.set i (mkN i)) (by rw [List.length_set]; exact h0) (by rw [List.length_set]; omega) (by rw [List.length_set]; omega) (fun j hj => by
        rw [List.getD, List.getElem?_set]
        by_cases e : i = j
        · subst e; rw [if_pos rfl, if_pos hlt]; rfl
        · rw [if_neg e]; exact hm j (by omega))
      have e1 : 1 + 3 * (i : Int) + 1 + 1 + 1 = 1 + 3 * ((i + 1 : Nat) : Int) := by omega
      have e2 : (⟨1 + 3 * (i : Int), 1 + 3 * (i : Int) + 1, Int.tmod (1 + 3 * (i : Int) + 1 + 1) 3 == 0⟩ : ND) = mkN i := by
        unfold mkN
        rw [show 1 + 3 * (i : Int) + 1 + 1 = 3 + 3 * (i : Int) by omega, show 1 + 3 * (i : Int) + 1 = 2 + 3 * (i : Int) by omega]
      have hu : ∀ k, laws_markNodeS.l0 (k + 1) xs (1 + 3 * (i : Int)) (i : Int) = laws_markNodeS.l0 k (xs.set i (mkN i)) (1 + 3 * ((i + 1 : Nat) : Int)) ((i + 1 : Nat) : Int) := by
        intro k
        conv => lhs; unfold laws_markNodeS.l0
        rw [if_pos (by omega), if_pos (by omega), Option.bind_some, Option.bind_some, Int.toNat_natCast, rd_set hlt, rd_set (by rw [List.length_set]; exact hlt), List.set_set, List.set_set, inc (by omega)]
        rw [w64 (x := 1 + 3 * (i : Int) + 1) (by omega) (by omega), w64 (x := 1 + 3 * (i : Int) + 1 + 1) (by omega) (by omega), w64 (x := 1 + 3 * (i : Int) + 1 + 1 + 1) (by omega) (by omega), e1, ← e2]
      exact ⟨ys, Ev.step hu h1, h2, h3⟩
  obtain ⟨ys, h1, h2, h3⟩ := key _ 0 t0 rfl rfl (Nat.zero_le _) (fun j hj => absurd hj (Nat.not_lt_zero _))
  refine ⟨ys, ?_, ?_⟩
  · unfold laws_markTrie.f laws_markNodeS.f
    exact Ev.bind h1 (ev_eq rfl)
  · unfold laws_heldTrie.f laws_heldNodeS.f
    refine Ev.bind (a := 1 + 3 * (t0.length : Int)) ?_ (ev_neg (by omega) (ev_eq rfl))
    have kk := ev_down (g := fun k i => laws_heldNodeS.l0 k ys (1 + 3 * (i : Int)) (i : Nat)) (R := fun _ => 1 + 3 * (t0.length : Int)) ys.length
      (by
        refine Ev.step (fun k => by unfold laws_heldNodeS.l0; rfl) (ev_neg (by omega) (ev_eq ?_))
        rw [h2])
      (fun i hi ih => by
        have hn := h3 i hi
        rw [List.getD_eq_getElem?_getD, List.getElem?_eq_getElem hi, Option.getD_some] at hn
        refine Ev.step (fun k => by unfold laws_heldNodeS.l0; rfl) (ev_pos (by omega) (ev_pos (by omega) ?_))
        rw [rd_nd hi, hn]
        refine ev_pos rfl ?_
        rw [w64 (x := 1 + 3 * (i : Int) + 1) (by omega) (by omega), w64 (x := 1 + 3 * (i : Int) + 1 + 1) (by omega) (by omega), w64 (x := 1 + 3 * (i : Int) + 1 + 1 + 1) (by omega) (by omega), inc (by omega)]
        refine ev_pos (show 2 + 3 * (i : Int) = _ by omega) (ev_neg ?_ ?_)
        · rw [show 1 + 3 * (i : Int) + 1 + 1 = 3 + 3 * (i : Int) by omega]
          show ¬ ((Int.tmod (3 + 3 * (i : Int)) 3 == 0) != (Int.tmod (3 + 3 * (i : Int)) 3 == 0)) = true
          simp
        · rw [show 1 + 3 * (i : Int) + 1 + 1 + 1 = 1 + 3 * ((i + 1 : Nat) : Int) by omega]
          exact ih)
    exact kk 0 (Nat.zero_le _)
end Go.Proofs.YtmecniejpoopfaaGreatDoor.Pl

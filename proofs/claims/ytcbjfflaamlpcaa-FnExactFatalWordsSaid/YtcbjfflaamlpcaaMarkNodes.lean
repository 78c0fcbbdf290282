/- Plain: a trie's nodes, marked. -/
import Derived.Test.YtcbjfflaamlpcaaX23
import Derived.Test.YtcbjfflaamlpcaaGameLaw
set_option linter.unusedVariables false
set_option linter.unusedSimpArgs false
namespace Go.Proofs.Ytcbjfflaamlpcaa.Pl
open Go.RowKit Go.Proofs.YtcbjfflaamlpcaaW.PrintWords Go.Proofs.YtcbjfflaamlpcaaW.PrintLast Go.Proofs.YtcbjfflaamlpcaaW.PrintMore Go.Proofs.Ytcbjfflaamlpcaa.X

theorem mark_nodes (t0 : List ND) (hl : t0.length ≤ 2000000) : ∃ (m : Int) (ys : List ND), Ev (fun k => laws_markTrie.f k t0 1) (m, ys) ∧ 0 ≤ m := by
  have key : ∀ d (i : Nat) (xs : List ND) (m : Int), xs.length = t0.length → xs.length - i = d → i ≤ xs.length → 0 ≤ m → m ≤ 1 + 3 * (i : Int) → ∃ (m2 : Int) (ys : List ND), Ev (fun k => laws_markNodeS.l0 k xs m (i : Nat)) (m2, ys) ∧ 0 ≤ m2 := by
    intro d
    induction d with
    | zero =>
      intro i xs m h0 hd hi hm hm2
      exact ⟨m, xs, Ev.step (fun k => by unfold laws_markNodeS.l0; rfl) (ev_neg (by omega) (ev_eq rfl)), hm⟩
    | succ d ih =>
      intro i xs m h0 hd hi hm hm2
      have e3 : wrap64 ((wrap64 ((wrap64 (m + 1)) + 1)) + 1) = m + 3 := by rw [w64 (x := m + 1) (by omega) (by omega), w64 (x := m + 1 + 1) (by omega) (by omega), w64 (by omega) (by omega)]; omega
      obtain ⟨X, hX, hu⟩ : ∃ X : List ND, X.length = xs.length ∧ ∀ k, laws_markNodeS.l0 (k + 1) xs m (i : Int) = laws_markNodeS.l0 k X (m + 3) ((i + 1 : Nat) : Int) := by
        refine ⟨?X, ?h1, fun k => ?h2⟩
        case h2 =>
          conv => lhs; unfold laws_markNodeS.l0
          rw [if_pos (by omega), if_pos (by omega), Option.bind_some, Option.bind_some, e3, inc (by omega)]
        case h1 => simp only [List.length_set]
      obtain ⟨m2, ys, h1, h2⟩ := ih (i + 1) X (m + 3) (by omega) (by omega) (by omega) (by omega) (by omega)
      exact ⟨m2, ys, Ev.step hu h1, h2⟩
  obtain ⟨m2, ys, h1, h2⟩ := key _ 0 t0 1 rfl rfl (Nat.zero_le _) (by omega) (by omega)
  refine ⟨m2, ys, ?_, h2⟩
  unfold laws_markTrie.f laws_markNodeS.f
  exact Ev.bind h1 (ev_eq rfl)
end Go.Proofs.Ytcbjfflaamlpcaa.Pl

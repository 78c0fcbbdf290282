/- Plain: PlainCode of both sides answers alike. No conditions. -/
import Derived.Test.YtknonolfgpknjaaX7
import Derived.Test.YtknonolfgpknjaaPlainD
import Derived.Test.YtknonolfgpknjaaGlue
import Derived.Test.YtknonolfgpknjaaMarks
set_option linter.unusedVariables false
set_option linter.unusedSimpArgs false
namespace Go.Proofs.Ytknonolfgpknjaa.Pure
open Go.RowKit Go.Proofs.YtknonolfgpknjaaW.PrintWords Go.Proofs.YtknonolfgpknjaaW.PrintLast Go.Proofs.YtknonolfgpknjaaW.PrintMore Go.Proofs.Ytknonolfgpknjaa.X Go.Proofs.Ytknonolfgpknjaa.Pl
theorem mark_some (xs0 : List Int) (hl : xs0.length ≤ 1048576) : ∃ ys : List Int, Ev (fun k => laws_markIntS.f k xs0 1) (((1 + xs0.length : Nat) : Int), ys) := by
  have key : ∀ d (i : Nat) (xs : List Int), xs.length = xs0.length → xs.length - i = d → i ≤ xs.length → ∃ ys : List Int, Ev (fun k => laws_markIntS.l0 k xs ((1 + i : Nat) : Int) i) (((1 + xs0.length : Nat) : Int), ys) := by
    intro d
    induction d with
    | zero =>
      intro i xs h0 hd hi
      obtain rfl : i = xs.length := by omega
      refine ⟨xs, Ev.step (fun k => by unfold laws_markIntS.l0; rfl) (ev_neg (by omega) (ev_eq ?_))⟩
      rw [h0]
    | succ d ih =>
      intro i xs h0 hd hi
      have hlt : i < xs.length := by omega
      have e1 : wrap64 (((1 + i : Nat) : Int) + 1) = ((1 + (i + 1) : Nat) : Int) := by rw [w64 (by omega) (by omega)]; omega
      obtain ⟨ys, h1⟩ := ih (i + 1) (xs.set i ((1 + i : Nat) : Int)) (by rw [List.length_set]; exact h0) (by rw [List.length_set]; omega) (by rw [List.length_set]; omega)
      refine ⟨ys, ?_⟩
      refine Ev.step (fun k => by unfold laws_markIntS.l0; rfl) (ev_pos (by omega) (ev_pos (by omega) ?_))
      rw [e1, inc (by omega), Int.toNat_natCast]
      exact h1
  obtain ⟨ys, h1⟩ := key _ 0 xs0 rfl rfl (Nat.zero_le _)
  exact ⟨ys, by simpa [laws_markIntS.f] using h1⟩
theorem FnExactPlainCode : ∀ (l0 : List Int), (l0.length * 8 ≤ 140737488351232 ∧ ∀ y ∈ l0, (Lit.int .i64 y).wf = true) → ∃ k, laws_FnExactPlainCode.f k l0 = some true := by
  rintro l ⟨hl, _⟩
  refine Ev.rounds (r := true) ?_
  unfold laws_FnExactPlainCode.f
  refine ev_ite (fun _ => ev_eq rfl) (fun hb => ?_)
  obtain ⟨⟨a, b⟩, h1, h2, h3⟩ := plain_both hl
  simp only at h3
  obtain ⟨ys, m1⟩ := mark_some l (by omega)
  obtain ⟨zs, m3, m4⟩ := mark_texts a (by omega)
  refine Ev.bind (toIntS_ev l hl) (Ev.bind h1 (Ev.bind (toIntS_ev l hl) (Ev.bind h2 (Ev.bind (eqStringS_ev a a (by omega)) (ev_pos (by simp) ?_)))))
  refine Ev.step (fun k => by simp only [laws_FnExactPlainCode.j0]; rfl) (ev_neg (by simp) ?_)
  refine Ev.bind (toIntS_ev l hl) (Ev.bind (eqIntS_ev l l (by omega)) (ev_pos (by simp) ?_))
  refine Ev.bind m1 (ev_neg (by simp only; omega) (Ev.bind (eqStringS_ev a a (by omega)) (ev_pos (by simp) ?_)))
  refine Ev.step (fun k => by simp only [laws_FnExactPlainCode.j1]; rfl) (ev_neg (by simp) ?_)
  refine Ev.bind m3 (Ev.bind m4 (ev_neg (by omega) (ev_pos rfl ?_)))
  refine Ev.bind (toIntS_ev l hl) (Ev.bind h2 (Ev.bind (eqStringS_ev a a (by omega)) (ev_pos (by simp) ?_)))
  refine Ev.step (fun k => by simp only [laws_FnExactPlainCode.j2]; rfl) (ev_neg (by simp) ?_)
  exact Ev.bind m4 (ev_neg (by omega) (ev_pos rfl (ev_eq rfl)))
end Go.Proofs.Ytknonolfgpknjaa.Pure

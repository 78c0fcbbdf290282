/- Plain: texts decoded: the program's answer is the reference's, and the program's list is its own. No conditions. -/
import Derived.Test.YtapndhkecjdahaaDoorX7
import Derived.Test.YtapndhkecjdahaaDoorDecode
import Derived.Test.YtapndhkecjdahaaDoorGlue
import Derived.Test.YtapndhkecjdahaaDoorMarks
set_option linter.unusedVariables false
set_option linter.unusedSimpArgs false
namespace Go.Proofs.YtapndhkecjdahaaDoor.Pure
open Go.RowKit Go.Proofs.YtapndhkecjdahaaDoorW.PrintWords Go.Proofs.YtapndhkecjdahaaDoorW.PrintLast Go.Proofs.YtapndhkecjdahaaDoorW.PrintMore Go.Proofs.YtapndhkecjdahaaDoor.X Go.Proofs.YtapndhkecjdahaaDoor.Pl
theorem FnExactDecodeText : ∀ (l0 : List ByteArray) (a1 : ByteArray), (l0.length * 16 ≤ 140737488351232 ∧ ∀ y ∈ l0, y.size ≤ 140737488351232) → a1.size ≤ 140737488351232 → ∃ k, laws_FnExactDecodeText.f k l0 a1 = some true := by
  rintro l s ⟨hl, hs⟩ hsz
  refine Ev.rounds (r := true) ?_
  obtain ⟨r, hr, hr2, _⟩ := szStringS_ev l 1048576 (by omega) (by omega) hl hs
  obtain ⟨⟨A, b, c⟩, h1, h2, h3⟩ := decode_both l hl hs s hsz
  have hA : A.length ≤ 60 := h3
  have eA : Ev (fun k => laws_eqIntS.f k A A) true := by
    have := eqIntS_ev A A (by omega)
    simpa using this
  have eL : Ev (fun k => laws_eqStringS.f k l l) true := by
    have := eqStringS_ev l l (by omega)
    simpa using this
  have hc : (c != c) = false := by simp
  unfold laws_FnExactDecodeText.f
  refine ev_ite (fun _ => ev_eq rfl) (fun _ => ?_)
  refine Ev.bind hr (ev_ite (fun _ => ev_eq rfl) (fun hpos => ?_))
  have hlen : l.length ≤ 1048576 := by have := (hr2 (by omega)).2.1; omega
  obtain ⟨zs, hz⟩ := mark_texts_some l hlen
  obtain ⟨ys, m1, m2⟩ := mark_ints A (by omega)
  refine Ev.bind (toStringS_ev l hl) (Ev.bind h1 (Ev.bind (toStringS_ev l hl) (Ev.bind h2 (Ev.bind eA ?_))))
  refine ev_pos rfl (ev_pos rfl ?_)
  simp only [hc]
  refine Ev.step (fun k => by unfold laws_FnExactDecodeText.j0; rfl) (ev_neg (by simp) (Ev.bind (toStringS_ev l hl) (Ev.bind eL ?_)))
  refine ev_pos rfl (Ev.bind hz ?_)
  refine ev_neg (by simp only; omega) (Ev.bind eA ?_)
  refine ev_pos rfl (ev_pos rfl ?_)
  rw [hc]
  refine Ev.step (fun k => by unfold laws_FnExactDecodeText.j1; rfl) (ev_neg (by simp) (Ev.bind m1 (Ev.bind m2 ?_)))
  refine ev_neg (by omega) (ev_pos rfl (Ev.bind (toStringS_ev l hl) (Ev.bind h2 (Ev.bind eA ?_))))
  refine ev_pos rfl (ev_pos rfl ?_)
  simp only [hc]
  refine Ev.step (fun k => by unfold laws_FnExactDecodeText.j2; rfl) (ev_neg (by simp) (Ev.bind m2 ?_))
  exact ev_neg (by omega) (ev_pos rfl (ev_eq rfl))
end Go.Proofs.YtapndhkecjdahaaDoor.Pure

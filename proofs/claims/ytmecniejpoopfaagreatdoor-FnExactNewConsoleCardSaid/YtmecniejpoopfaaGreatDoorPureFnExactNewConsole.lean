/- Plain: NewConsole of the program and of the reference answer alike. -/
import Derived.Test.YtmecniejpoopfaaGreatDoorX15
import Derived.Test.YtmecniejpoopfaaGreatDoorBookLaw
set_option linter.unusedVariables false
set_option linter.unusedSimpArgs false
namespace Go.Proofs.YtmecniejpoopfaaGreatDoor.Pure
open Go.RowKit Go.Proofs.YtmecniejpoopfaaGreatDoorW.PrintWords Go.Proofs.YtmecniejpoopfaaGreatDoorW.PrintLast Go.Proofs.YtmecniejpoopfaaGreatDoorW.PrintMore Go.Proofs.YtmecniejpoopfaaGreatDoor.X Go.Proofs.YtmecniejpoopfaaGreatDoor.Pl
theorem both (s a : ByteArray) (c : Int) (hs : s.size < 1000000000) (ha : a.size ≤ 1000000000) : ∃ r, Ev (fun k => spec_NewConsole.f k s a c) r ∧ Ev (fun k => impl_NewConsole.f k s a c) r := by
  unfold spec_NewConsole.f impl_NewConsole.f
  have h1 := l12Good_ev s a c hs ha
  have h2 := isBook_ev s a c hs
  cases hb : bookB s a c with
  | true => rw [hb] at h1 h2; exact ⟨_, Ev.bind h1 (ev_pos rfl (ev_eq rfl)), Ev.bind h2 (ev_pos rfl (ev_eq rfl))⟩
  | false => rw [hb] at h1 h2; exact ⟨_, Ev.bind h1 (ev_neg (by decide) (ev_eq rfl)), Ev.bind h2 (ev_neg (by decide) (ev_eq rfl))⟩
theorem FnExactNewConsole : ∀ (a0_0 : ByteArray) (a0_1 : ByteArray) (a0_2 : Int), a0_0.size ≤ 140737488351232 → a0_1.size ≤ 140737488351232 → (Lit.int .i64 a0_2).wf = true → ∃ k, laws_FnExactNewConsole.f k a0_0 a0_1 a0_2 = some true := by
  intro s a c hs ha _
  unfold laws_FnExactNewConsole.f
  refine Ev.rounds (ev_sizeB hs ha fun hsz => ?_)
  obtain ⟨⟨b0, b1, b2, b3, b4, b5, ok⟩, h1, h2⟩ := both s a c (by omega) (by omega)
  have hT : laws_toBook.f s a c = some (s, a, c) := rfl
  rw [hT]
  refine ev_some (Ev.bind h1 (ev_some (Ev.bind h2 ?_)))
  simp only [eqConsole_refl, bne_self_eq_false]
  exact ev_some (ev_pos rfl (ev_neg (by decide) (ev_eq rfl)))
end Go.Proofs.YtmecniejpoopfaaGreatDoor.Pure

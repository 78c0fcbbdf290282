/- Plain: IsValidConsole of the program and of the reference answer alike. -/
import Derived.Test.YtnjjchbhbicmoaaGreatDoorX17
import Derived.Test.YtnjjchbhbicmoaaGreatDoorBookLaw
import Derived.Test.YtnjjchbhbicmoaaGreatDoorLogLaws
set_option linter.unusedVariables false
set_option linter.unusedSimpArgs false
namespace Go.Proofs.YtnjjchbhbicmoaaGreatDoor.Pure
open Go.RowKit Go.Proofs.YtnjjchbhbicmoaaGreatDoorW.PrintWords Go.Proofs.YtnjjchbhbicmoaaGreatDoorW.PrintLast Go.Proofs.YtnjjchbhbicmoaaGreatDoorW.PrintMore Go.Proofs.YtnjjchbhbicmoaaGreatDoor.X Go.Proofs.YtnjjchbhbicmoaaGreatDoor.Pl
theorem FnExactIsValidConsole : ∀ (a0_0 : ByteArray) (a0_1 : ByteArray) (a0_2 : Int) (a0_3 : ByteArray) (a0_4 : ByteArray) (a0_5 : Int), a0_0.size ≤ 140737488351232 → a0_1.size ≤ 140737488351232 → (Lit.int .i64 a0_2).wf = true → a0_3.size ≤ 140737488351232 → a0_4.size ≤ 140737488351232 → (Lit.int .i64 a0_5).wf = true → ∃ k, laws_FnExactIsValidConsole.f k a0_0 a0_1 a0_2 a0_3 a0_4 a0_5 = some true := by
  intro s a c d p n hs ha _ hd hp _
  refine Ev.rounds (r := true) ?_
  have hT : laws_toConsole.f s a c d p n = some (s, a, c, d, p, n) := rfl
  unfold laws_FnExactIsValidConsole.f
  rw [hT]
  have hz : ∃ t, laws_szConsole.f s a c d p n 1048576 = some t ∧ (¬ t < 0 → s.size + a.size ≤ 1048576 ∧ d.size + p.size ≤ 1048576) := by
    unfold laws_szConsole.f
    rw [szBook_eq s a c hs ha]
    by_cases h : s.size + a.size ≤ 1048576
    · rw [if_pos h]
      simp only [Option.bind_some]
      rw [if_neg (by omega)]
      unfold laws_szLog.f
      rw [w64 (x := ((1048576 - (s.size + a.size) : Nat) : Int) - (d.size : Int)) (by omega) (by omega), w64 (x := ((1048576 - (s.size + a.size) : Nat) : Int) - (d.size : Int) - (p.size : Int)) (by omega) (by omega)]
      by_cases h1 : ((1048576 - (s.size + a.size) : Nat) : Int) - (d.size : Int) < 0
      · rw [if_pos h1]; exact ⟨-1, rfl, fun h => absurd (show ((-1 : Int) < 0) by decide) h⟩
      · rw [if_neg h1]
        by_cases h2 : ((1048576 - (s.size + a.size) : Nat) : Int) - (d.size : Int) - (p.size : Int) < 0
        · rw [if_pos h2]; exact ⟨-1, rfl, fun h => absurd (show ((-1 : Int) < 0) by decide) h⟩
        · rw [if_neg h2]
          simp only [Option.bind_some]
          rw [if_neg h2]
          exact ⟨_, rfl, fun _ => ⟨h, by omega⟩⟩
    · rw [if_neg h]
      simp only [Option.bind_some]
      rw [if_pos (by decide)]
      exact ⟨-1, rfl, fun h => absurd (show ((-1 : Int) < 0) by decide) h⟩
  obtain ⟨t, ht, hb⟩ := hz
  rw [ht]
  refine ev_some (ev_ite (fun _ => ev_eq rfl) (fun hneg => ?_))
  obtain ⟨b1, b2⟩ := hb hneg
  have h1 := l12Good_ev s a c (by omega) (by omega)
  have h2 := isBook_ev s a c (by omega)
  have h3 := l12Valid_ev d p n (by omega) (by omega)
  have h4 := impl_IsValidLog_ev d p n (by omega) (by omega)
  unfold spec_IsValidConsole.f impl_IsValidConsole.f
  have fin : ∀ b : Bool, Ev (fun _ : Nat => if (b != b) = true then some false else some true) true := fun b => ev_neg (by simp) (ev_eq rfl)
  cases hB : bookB s a c with
  | true =>
    rw [hB] at h1 h2
    refine ev_some (Ev.bind (a := okLog d p n) (Ev.bind h1 (ev_pos rfl (Ev.bind h3 (ev_eq rfl)))) (ev_some (Ev.bind (a := okLog d p n) (Ev.bind h2 (ev_pos rfl (Ev.bind h4 (ev_eq rfl)))) (fin _))))
  | false =>
    rw [hB] at h1 h2
    refine ev_some (Ev.bind (a := false) (Ev.bind h1 (ev_neg (by simp) (ev_eq rfl))) (ev_some (Ev.bind (a := false) (Ev.bind h2 (ev_neg (by simp) (ev_eq rfl))) (fin _))))
end Go.Proofs.YtnjjchbhbicmoaaGreatDoor.Pure

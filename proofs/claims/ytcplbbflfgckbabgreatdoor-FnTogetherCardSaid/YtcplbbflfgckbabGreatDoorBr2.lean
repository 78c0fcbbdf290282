/- Functions, by evaluation. No conditions. -/
import Derived.Test.YtcplbbflfgckbabGreatDoorBr1
set_option linter.unusedVariables false
set_option linter.unusedSimpArgs false
namespace Go.Ab.S
open Go Go.Ab Go.Ab.Pw Go.Proofs Go.Proofs.YtcplbbflfgckbabGreatDoor
/-! spec_DifferTries -/
inductive F17 : List Rel → List (List TV) → List (List TV) × List (List TV) → Prop
  | mk (a0_0 a1_0 r k) (h : X.spec_DifferTries.f k a0_0 a1_0 = some r) : F17 [] [[⟨(.row 65 (.pair (.int .i64) (.pair (.int .i64) .bool))), a0_0⟩], [⟨(.row 65 (.pair (.int .i64) (.pair (.int .i64) .bool))), a1_0⟩]] ([[⟨(.int .i64), r.1⟩], [⟨.bool, r.2⟩]], [])
abbrev c17 : Con := ⟨17, [.val true, .val true], [(false, [false]), (false, [false])], false, F17⟩
abbrev N17 : Specs := ⟨[], ofS [], ofS []⟩
set_option maxHeartbeats 0 in
set_option maxRecDepth 100000 in
theorem o17 : GoodCon Tryz.prog c17 := by
  refine fo (C := ofL [c33, c35, c38]) (N := N17) (ts := [.tmp 4, .tmp 5]) hT hm (by refine ofL_ok ?_; refine .cons o33 ?_; refine .cons o35 ?_; refine .cons o38 ?_; exact .nil) Tryz.func17 rfl rfl rfl rfl (by decide) rfl (by decide) ?_
  intro Rs ins out hL h; clear hL; cases h; rename_i k h
  have uf := @X.spec_DifferTries.f.eq_1
  rw [uf] at h
  exact go
end Go.Ab.S

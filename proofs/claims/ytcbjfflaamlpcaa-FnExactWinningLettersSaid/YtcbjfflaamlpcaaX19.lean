-- By gen.py (the session's own program over the kit's printer): functions of the program, each with its contract. Lean checks it.
import Derived.Test.YtcbjfflaamlpcaaX0
import Derived.Test.YtcbjfflaamlpcaaX13
import Derived.Test.YtcbjfflaamlpcaaX18
namespace Go.Proofs.Ytcbjfflaamlpcaa.X
open Go.RowKit Go.Proofs.YtcbjfflaamlpcaaW.PrintWords Go.Proofs.YtcbjfflaamlpcaaW.PrintLast Go.Proofs.YtcbjfflaamlpcaaW.PrintMore
attribute [local go_sem] max2_int min2_int max_two min_two max_three min_three max_four min_four   -- for this text's walks alone
set_option linter.unusedVariables false
set_option linter.unusedSimpArgs false

/-! ### impl_game_isGood: function 60: a contract of our own -/
def impl_game_isGood.f (k : Nat) (l0 : List (S67)) (a1 : Int) (l2 : List ByteArray) (node : Int) : Option Bool := (impl_game_isFatal.f l0 a1 l2 node).bind fun b => if b = true then some false else (impl_game_wins.f k l0 a1 l2 node).bind fun b2 => some (!b2)
theorem impl_game_isGood.mono : ∀ a0 a1 a2 a3 k, LeO (impl_game_isGood.f k a0 a1 a2 a3) (impl_game_isGood.f (k + 1) a0 a1 a2 a3) := fun a0 a1 a2 a3 k =>
 LeO.bind (LeO.refl _) (fun b => LeO.ite (LeO.refl _) (LeO.bind (impl_game_wins.mono _ _ _ _ _) (fun _ => LeO.refl _)))
theorem impl_game_isGood.calls (k : Nat) (G0 : Nat) (A0_0 : Option Addr) (c0_0 : Nat) (l0_0 : List (S67)) (a0_1 : Int) (A0_2 : Option Addr) (c0_2 : Nat) (l0_2 : List ByteArray) (a1 : Int) (r : Bool) (w : World) (hr0_0 : Kd.C k67 w A0_0 l0_0.length l0_0) (hc0_0 : l0_0.length ≤ c0_0) (hr0_2 : Kd.C Kd.string w A0_2 l0_2.length l0_2) (hc0_2 : l0_2.length ≤ c0_2) (hb0 : w.heap[G0]? = some (.cells #[.slice A0_0 l0_0.length c0_0, .int .i64 a0_1, .slice A0_2 l0_2.length c0_2] 69 (0, 0))) (h : impl_game_isGood.f k l0_0 a0_1 l0_2 a1 = some r) :
  Calls Try.prog 60 #[.pointer (some ⟨G0, 0, none⟩), .int .i64 a1] w fun e w' => e = .returned (.bool r) ∧ Below w.heap.size w w' :=
 impl_game_wins.good ⟨hr0_0, hc0_0, hr0_2, hc0_2, hb0⟩ a1 _ (fun q W hA hq => impl_game_wins.calls k G0 A0_0 c0_0 l0_0 a0_1 A0_2 c0_2 l0_2 a1 q W hA.1 hA.2.1 hA.2.2.1 hA.2.2.2.1 hA.2.2.2.2 hq) r h

end Go.Proofs.Ytcbjfflaamlpcaa.X

/- Plain: the program's set of words. -/
import Derived.Test.YtcplbbflfgckbaaGreatDoorX11
import Derived.Test.YtcplbbflfgckbaaGreatDoorTrieB
set_option linter.unusedVariables false
set_option linter.unusedSimpArgs false
namespace Go.Proofs.YtcplbbflfgckbaaGreatDoor.Pl
open Go.RowKit Go.Proofs.YtcplbbflfgckbaaGreatDoorW.PrintWords Go.Proofs.YtcplbbflfgckbaaGreatDoorW.PrintLast Go.Proofs.YtcplbbflfgckbaaGreatDoorW.PrintMore Go.Proofs.YtcplbbflfgckbaaGreatDoor.X

theorem set_eq (A : List Wd) (h : A.length ≤ 4000000) : impl_set.f (A.map wb) = some ((setW A).map wb) := by
  unfold impl_set.f
  rw [if_pos (by rw [List.length_map]; omega)]
  have e : impl_set.setOf (A.map wb) = (setW ((A.map wb).map bw)).map wb := rfl
  rw [e, bw_map_wb]
end Go.Proofs.YtcplbbflfgckbaaGreatDoor.Pl


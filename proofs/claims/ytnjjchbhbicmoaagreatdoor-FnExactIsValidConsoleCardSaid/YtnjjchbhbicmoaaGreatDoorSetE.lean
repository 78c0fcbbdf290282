/- Plain: the program's set of words. -/
import Derived.Test.YtnjjchbhbicmoaaGreatDoorX12
import Derived.Test.YtnjjchbhbicmoaaGreatDoorTrieB
set_option linter.unusedVariables false
set_option linter.unusedSimpArgs false
namespace Go.Proofs.YtnjjchbhbicmoaaGreatDoor.Pl
open Go.RowKit Go.Proofs.YtnjjchbhbicmoaaGreatDoorW.PrintWords Go.Proofs.YtnjjchbhbicmoaaGreatDoorW.PrintLast Go.Proofs.YtnjjchbhbicmoaaGreatDoorW.PrintMore Go.Proofs.YtnjjchbhbicmoaaGreatDoor.X

theorem set_eq (A : List Wd) (h : A.length ≤ 4000000) : impl_set.f (A.map wb) = some ((setW A).map wb) := by
  unfold impl_set.f
  rw [if_pos (by rw [List.length_map]; omega)]
  have e : impl_set.setOf (A.map wb) = (setW ((A.map wb).map bw)).map wb := rfl
  rw [e, bw_map_wb]
end Go.Proofs.YtnjjchbhbicmoaaGreatDoor.Pl

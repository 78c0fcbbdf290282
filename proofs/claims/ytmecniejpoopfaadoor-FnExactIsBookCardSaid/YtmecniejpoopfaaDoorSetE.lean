/- Plain: the program's set of words. -/
import Derived.Test.YtmecniejpoopfaaDoorX7
import Derived.Test.YtmecniejpoopfaaDoorTrieB
set_option linter.unusedVariables false
set_option linter.unusedSimpArgs false
namespace Go.Proofs.YtmecniejpoopfaaDoor.Pl
open Go.RowKit Go.Proofs.YtmecniejpoopfaaDoorW.PrintWords Go.Proofs.YtmecniejpoopfaaDoorW.PrintLast Go.Proofs.YtmecniejpoopfaaDoorW.PrintMore Go.Proofs.YtmecniejpoopfaaDoor.X

theorem set_eq (A : List Wd) (h : A.length ≤ 4000000) : impl_set.f (A.map wb) = some ((setW A).map wb) := by
  unfold impl_set.f
  rw [if_pos (by rw [List.length_map]; omega)]
  have e : impl_set.setOf (A.map wb) = (setW ((A.map wb).map bw)).map wb := rfl
  rw [e, bw_map_wb]
end Go.Proofs.YtmecniejpoopfaaDoor.Pl

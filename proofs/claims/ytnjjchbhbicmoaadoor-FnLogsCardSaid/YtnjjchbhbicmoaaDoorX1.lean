-- By gen.py (the session's own program over the kit's printer): functions of the program, each with its contract. Lean checks it.
import Derived.Test.YtnjjchbhbicmoaaDoorX0
namespace Go.Proofs.YtnjjchbhbicmoaaDoor.X
open Go.RowKit Go.Proofs.YtnjjchbhbicmoaaDoorW.PrintWords Go.Proofs.YtnjjchbhbicmoaaDoorW.PrintLast Go.Proofs.YtnjjchbhbicmoaaDoorW.PrintMore
attribute [local go_sem] max2_int min2_int max_two min_two max_three min_three max_four min_four   -- for this text's walks alone
set_option linter.unusedVariables false
set_option linter.unusedSimpArgs false

theorem eqA27 (d : Nat) (w : World) (x0 y0 : ByteArray) (x1 y1 : ByteArray) (x2 y2 : Int) :
  (Op.equalIn (d + 2) 27 (.agg #[.string x0, .string x1, .int .i64 x2]) (.agg #[.string y0, .string y1, .int .i64 y2])).run Tryd.prog w = .ok (x0.toList == y0.toList && (x1.toList == y1.toList && (x2 == y2))) w := by
 refine eqA_of Tryd.underlying27 (by kernel_rfl) ?_
 refine eqf_cons (by rfl) ax8 ax8 (by go_simp) ?_
 refine eqf_cons (by rfl) ax8 ax8 (by go_simp) ?_
 exact eqf_last (by rfl) ax8 ax8 (by go_simp)
end Go.Proofs.YtnjjchbhbicmoaaDoor.X

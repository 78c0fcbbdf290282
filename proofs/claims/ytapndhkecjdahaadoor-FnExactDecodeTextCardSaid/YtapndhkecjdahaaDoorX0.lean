-- By gen.py (the session's own program over the kit's printer): functions of the program, each with its contract. Lean checks it.
import Derived.Test.YtapndhkecjdahaaDoorProg
import Derived.Below
import Derived.Deep.Draws
import Derived.Deep.AppendLies
import Derived.Maps.AppendAt
import Derived.OwnWalk
import Derived.Laws.BytesArg
import Derived.Laws.MakeOwn
import Derived.Laws.OwnMore
import Derived.Deep.OwnRows
import Derived.Tactics
import Derived.Lib.ConvBytes
import Derived.Laws.Slices
import Derived.WalkKit
import Derived.KernelRfl
import Derived.RowKit3
import Derived.Deep.LoopGhost
import Derived.Deep.QuietTactic
import Derived.BigQuiet
import Derived.WideLaws
import Derived.Deep.DeepCutAuto
import Derived.Deep.CutBlock
import Derived.Deep.RegionHeld3
import Derived.Laws.Rows
import Derived.Lib.AppendStr
import Derived.ArgAppend
import Derived.Laws.IdiomCopy
import Derived.OrdersHeld
import Derived.Laws.BitsLemmas
import Derived.RowKit
import Derived.Test.YtapndhkecjdahaaDoorShelf
import Derived.Test.YtapndhkecjdahaaDoorGlob
import Derived.Test.YtapndhkecjdahaaDoorBase
import Derived.Test.YtapndhkecjdahaaDoorWWords
import Derived.Test.YtapndhkecjdahaaDoorWLast
import Derived.Test.YtapndhkecjdahaaDoorWTab
import Derived.Test.YtapndhkecjdahaaDoorWFour
import Derived.Test.YtapndhkecjdahaaDoorWQPut
import Derived.Test.YtapndhkecjdahaaDoorWApart
import Derived.Test.YtapndhkecjdahaaDoorWArr
import Derived.Test.YtapndhkecjdahaaDoorWZeros
import Derived.Test.YtapndhkecjdahaaDoorWFoot
import Derived.Test.YtapndhkecjdahaaDoorWKept
import Derived.Test.YtapndhkecjdahaaDoorWShare
import Derived.Test.YtapndhkecjdahaaDoorWN
import Derived.Test.YtapndhkecjdahaaDoorWFootNe
import Derived.Test.YtapndhkecjdahaaDoorWAt
import Derived.Test.YtapndhkecjdahaaDoorWEqStruct
import Derived.Test.YtapndhkecjdahaaDoorWRepsOne
import Derived.Test.YtapndhkecjdahaaDoorWInv
import Derived.Test.YtapndhkecjdahaaDoorWInvWords
import Derived.Test.YtapndhkecjdahaaDoorWGuard
import Derived.Test.YtapndhkecjdahaaDoorWNEv
import Derived.Test.YtapndhkecjdahaaDoorWMore
namespace Go.Proofs.YtapndhkecjdahaaDoor.X
open Go.RowKit Go.Proofs.YtapndhkecjdahaaDoorW.PrintWords Go.Proofs.YtapndhkecjdahaaDoorW.PrintLast Go.Proofs.YtapndhkecjdahaaDoorW.PrintMore
attribute [local go_sem] max2_int min2_int max_two min_two max_three min_three max_four min_four   -- for this text's walks alone
set_option linter.unusedVariables false
set_option linter.unusedSimpArgs false



def errW : Option Int → Value
  | none => .nilIface
  | some c => .iface 0 (.int .i64 c)
theorem errW_none : errW none = .nilIface := rfl
theorem errW_some (c : Int) : errW (some c) = .iface 0 (.int .i64 c) := rfl

theorem info3 : (Tryd.prog.info? 3).map (fun i => (i.zero, i.size, i.bytes)) = some (some (.int .i64 0), 1, 8) := by kernel_rfl
theorem info5 : (Tryd.prog.info? 5).map (fun i => (i.zero, i.size, i.bytes)) = some (some (.int .u8 0), 1, 1) := by kernel_rfl
theorem info9 : (Tryd.prog.info? 9).map (fun i => (i.zero, i.size, i.bytes)) = some (some (.string ⟨#[]⟩), 1, 16) := by kernel_rfl
-- the values' own types

end Go.Proofs.YtapndhkecjdahaaDoor.X

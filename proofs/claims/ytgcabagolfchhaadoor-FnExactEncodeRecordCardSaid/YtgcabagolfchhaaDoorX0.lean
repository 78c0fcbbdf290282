-- By gen.py (the session's own program over the kit's printer): functions of the program, each with its contract. Lean checks it.
import Derived.Test.YtgcabagolfchhaaDoorProg
import Derived.Below
import Derived.Deep.Draws
import Derived.Deep.AppendLies
import Derived.Maps.AppendAt
import Derived.OwnWalk
import Derived.Laws.BytesArg
import Derived.Laws.MakeOwn
import Derived.Laws.OwnMore
import Derived.Deep.OwnRows
import Derived.Tactics
import Derived.Lib.ConvBytes
import Derived.Laws.Slices
import Derived.WalkKit
import Derived.KernelRfl
import Derived.RowKit3
import Derived.Deep.LoopGhost
import Derived.Deep.QuietTactic
import Derived.BigQuiet
import Derived.WideLaws
import Derived.Deep.DeepCutAuto
import Derived.Deep.CutBlock
import Derived.Deep.RegionHeld3
import Derived.Laws.Rows
import Derived.Lib.AppendStr
import Derived.ArgAppend
import Derived.Laws.IdiomCopy
import Derived.OrdersHeld
import Derived.Laws.BitsLemmas
import Derived.RowKit
import Derived.Test.YtgcabagolfchhaaDoorShelf
import Derived.Test.YtgcabagolfchhaaDoorGlob
import Derived.Test.YtgcabagolfchhaaDoorBase
import Derived.Test.YtgcabagolfchhaaDoorWWords
import Derived.Test.YtgcabagolfchhaaDoorWLast
import Derived.Test.YtgcabagolfchhaaDoorWTab
import Derived.Test.YtgcabagolfchhaaDoorWFour
import Derived.Test.YtgcabagolfchhaaDoorWQPut
import Derived.Test.YtgcabagolfchhaaDoorWApart
import Derived.Test.YtgcabagolfchhaaDoorWArr
import Derived.Test.YtgcabagolfchhaaDoorWZeros
import Derived.Test.YtgcabagolfchhaaDoorWFoot
import Derived.Test.YtgcabagolfchhaaDoorWKept
import Derived.Test.YtgcabagolfchhaaDoorWShare
import Derived.Test.YtgcabagolfchhaaDoorWN
import Derived.Test.YtgcabagolfchhaaDoorWFootNe
import Derived.Test.YtgcabagolfchhaaDoorWAt
import Derived.Test.YtgcabagolfchhaaDoorWEqStruct
import Derived.Test.YtgcabagolfchhaaDoorWRepsOne
import Derived.Test.YtgcabagolfchhaaDoorWInv
import Derived.Test.YtgcabagolfchhaaDoorWInvWords
import Derived.Test.YtgcabagolfchhaaDoorWGuard
import Derived.Test.YtgcabagolfchhaaDoorWNEv
import Derived.Test.YtgcabagolfchhaaDoorWMore
namespace Go.Proofs.YtgcabagolfchhaaDoor.X
open Go.RowKit Go.Proofs.YtgcabagolfchhaaDoorW.PrintWords Go.Proofs.YtgcabagolfchhaaDoorW.PrintLast Go.Proofs.YtgcabagolfchhaaDoorW.PrintMore
attribute [local go_sem] max2_int min2_int max_two min_two max_three min_three max_four min_four   -- for this text's walks alone
set_option linter.unusedVariables false
set_option linter.unusedSimpArgs false



def errW : Option Int → Value
  | none => .nilIface
  | some c => .iface 0 (.int .i64 c)
theorem errW_none : errW none = .nilIface := rfl
theorem errW_some (c : Int) : errW (some c) = .iface 0 (.int .i64 c) := rfl

-- the values' own types

end Go.Proofs.YtgcabagolfchhaaDoor.X

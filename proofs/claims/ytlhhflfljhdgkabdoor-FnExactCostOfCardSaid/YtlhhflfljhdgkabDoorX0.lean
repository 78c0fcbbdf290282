-- By gen.py (the session's own program over the kit's printer): functions of the program, each with its contract. Lean checks it.
import Derived.Test.YtlhhflfljhdgkabDoorProg
import Derived.Below
import Derived.Deep.Draws
import Derived.Deep.AppendLies
import Derived.Maps.AppendAt
import Derived.OwnWalk
import Derived.Laws.BytesArg
import Derived.Laws.MakeOwn
import Derived.Laws.OwnMore
import Derived.Deep.OwnRows
import Derived.Tactics
import Derived.Lib.ConvBytes
import Derived.Laws.Slices
import Derived.WalkKit
import Derived.KernelRfl
import Derived.RowKit3
import Derived.Deep.LoopGhost
import Derived.Deep.QuietTactic
import Derived.BigQuiet
import Derived.WideLaws
import Derived.Deep.DeepCutAuto
import Derived.Deep.CutBlock
import Derived.Deep.RegionHeld3
import Derived.Laws.Rows
import Derived.Lib.AppendStr
import Derived.ArgAppend
import Derived.Laws.IdiomCopy
import Derived.OrdersHeld
import Derived.Laws.BitsLemmas
import Derived.RowKit
import Derived.Test.YtlhhflfljhdgkabDoorShelf
import Derived.Test.YtlhhflfljhdgkabDoorGlob
import Derived.Test.YtlhhflfljhdgkabDoorBase
import Derived.Test.YtlhhflfljhdgkabDoorWWords
import Derived.Test.YtlhhflfljhdgkabDoorWLast
import Derived.Test.YtlhhflfljhdgkabDoorWTab
import Derived.Test.YtlhhflfljhdgkabDoorWFour
import Derived.Test.YtlhhflfljhdgkabDoorWQPut
import Derived.Test.YtlhhflfljhdgkabDoorWApart
import Derived.Test.YtlhhflfljhdgkabDoorWArr
import Derived.Test.YtlhhflfljhdgkabDoorWZeros
import Derived.Test.YtlhhflfljhdgkabDoorWFoot
import Derived.Test.YtlhhflfljhdgkabDoorWKept
import Derived.Test.YtlhhflfljhdgkabDoorWShare
import Derived.Test.YtlhhflfljhdgkabDoorWN
import Derived.Test.YtlhhflfljhdgkabDoorWFootNe
import Derived.Test.YtlhhflfljhdgkabDoorWAt
import Derived.Test.YtlhhflfljhdgkabDoorWEqStruct
import Derived.Test.YtlhhflfljhdgkabDoorWRepsOne
import Derived.Test.YtlhhflfljhdgkabDoorWInv
import Derived.Test.YtlhhflfljhdgkabDoorWInvWords
import Derived.Test.YtlhhflfljhdgkabDoorWGuard
import Derived.Test.YtlhhflfljhdgkabDoorWNEv
import Derived.Test.YtlhhflfljhdgkabDoorWMore
namespace Go.Proofs.YtlhhflfljhdgkabDoor.X
open Go.RowKit Go.Proofs.YtlhhflfljhdgkabDoorW.PrintWords Go.Proofs.YtlhhflfljhdgkabDoorW.PrintLast Go.Proofs.YtlhhflfljhdgkabDoorW.PrintMore
attribute [local go_sem] max2_int min2_int max_two min_two max_three min_three max_four min_four   -- for this text's walks alone
set_option linter.unusedVariables false
set_option linter.unusedSimpArgs false



def errW : Option Int → Value
  | none => .nilIface
  | some c => .iface 0 (.int .i64 c)
theorem errW_none : errW none = .nilIface := rfl
theorem errW_some (c : Int) : errW (some c) = .iface 0 (.int .i64 c) := rfl

theorem info3 : (Tryd.prog.info? 3).map (fun i => (i.zero, i.size, i.bytes)) = some (some (.int .i64 0), 1, 8) := by kernel_rfl
theorem info9 : (Tryd.prog.info? 9).map (fun i => (i.zero, i.size, i.bytes)) = some (some (.string ⟨#[]⟩), 1, 16) := by kernel_rfl
-- the values' own types

end Go.Proofs.YtlhhflfljhdgkabDoor.X

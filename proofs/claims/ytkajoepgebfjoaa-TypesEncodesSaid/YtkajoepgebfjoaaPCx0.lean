-- Printed by this session's program wip/tools/printx.py, a turn of the kit's print: Lean checks it.
import Derived.Test.YtkajoepgebfjoaaProg
import Derived.Below
import Derived.Deep.Draws
import Derived.Deep.AppendLies
import Derived.Maps.AppendAt
import Derived.OwnWalk
import Derived.Laws.BytesArg
import Derived.Laws.MakeOwn
import Derived.Laws.OwnMore
import Derived.Deep.OwnRows
import Derived.Tactics
import Derived.Lib.ConvBytes
import Derived.Laws.Slices
import Derived.WalkKit
import Derived.KernelRfl
import Derived.RowKit3
import Derived.Deep.LoopGhost
import Derived.Deep.QuietTactic
import Derived.BigQuiet
import Derived.WideLaws
import Derived.Deep.DeepCutAuto
import Derived.Deep.CutBlock
import Derived.Deep.RegionHeld3
import Derived.Laws.Rows
import Derived.Lib.AppendStr
import Derived.ArgAppend
import Derived.Laws.IdiomCopy
import Derived.OrdersHeld
import Derived.Laws.BitsLemmas
import Derived.RowKit
import Derived.Test.YtkajoepgebfjoaaWWords
import Derived.Test.YtkajoepgebfjoaaWLast
import Derived.Test.YtkajoepgebfjoaaWTab
import Derived.Test.YtkajoepgebfjoaaWFour
import Derived.Test.YtkajoepgebfjoaaWQPut
import Derived.Test.YtkajoepgebfjoaaWApart
import Derived.Test.YtkajoepgebfjoaaWArr
import Derived.Test.YtkajoepgebfjoaaWZeros
import Derived.Test.YtkajoepgebfjoaaWFoot
import Derived.Test.YtkajoepgebfjoaaWKept
import Derived.Test.YtkajoepgebfjoaaWShare
import Derived.Test.YtkajoepgebfjoaaWN
import Derived.Test.YtkajoepgebfjoaaWFootNe
import Derived.Test.YtkajoepgebfjoaaWAt
import Derived.Test.YtkajoepgebfjoaaWEqStruct
import Derived.Test.YtkajoepgebfjoaaWRepsOne
import Derived.Test.YtkajoepgebfjoaaWInv
import Derived.Test.YtkajoepgebfjoaaWInvWords
import Derived.Test.YtkajoepgebfjoaaWGuard
import Derived.Test.YtkajoepgebfjoaaWNEv
import Derived.Test.YtkajoepgebfjoaaWMore
import Derived.Test.YtkajoepgebfjoaaTypesLives
namespace Go.Proofs.Ytkajoepgebfjoaa.PC
open Go.RowKit Go.Proofs.YtkajoepgebfjoaaW.PrintWords Go.Proofs.YtkajoepgebfjoaaW.PrintLast Go.Proofs.YtkajoepgebfjoaaW.PrintMore Go.Proofs.Ytkajoepgebfjoaa.Ext
attribute [local go_sem] max2_int min2_int max_two min_two max_three min_three max_four min_four   -- for this text's walks alone
set_option linter.unusedVariables false
set_option linter.unusedSimpArgs false



def errW : Option Int → Value
  | none => .nilIface
  | some c => .iface 0 (.int .i64 c)
theorem errW_none : errW none = .nilIface := rfl
theorem errW_some (c : Int) : errW (some c) = .iface 0 (.int .i64 c) := rfl

theorem info5 : (Try.prog.info? 5).map (fun i => (i.zero, i.size, i.bytes)) = some (some (.int .u8 0), 1, 1) := by kernel_rfl
-- the values' own types

end Go.Proofs.Ytkajoepgebfjoaa.PC

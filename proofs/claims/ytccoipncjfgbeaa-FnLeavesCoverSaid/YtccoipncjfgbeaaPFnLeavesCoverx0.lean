-- Laid by a program of this session: what the print of the kit writes, and contracts of the session where the print takes no function. Lean checks it.
import Derived.Test.YtccoipncjfgbeaaProg
import Derived.Below
import Derived.Deep.Draws
import Derived.Deep.AppendLies
import Derived.Maps.AppendAt
import Derived.OwnWalk
import Derived.Laws.BytesArg
import Derived.Laws.MakeOwn
import Derived.Laws.OwnMore
import Derived.Deep.OwnRows
import Derived.Tactics
import Derived.Lib.ConvBytes
import Derived.Laws.Slices
import Derived.WalkKit
import Derived.KernelRfl
import Derived.RowKit3
import Derived.Deep.LoopGhost
import Derived.Deep.QuietTactic
import Derived.BigQuiet
import Derived.WideLaws
import Derived.Deep.DeepCutAuto
import Derived.Deep.CutBlock
import Derived.Deep.RegionHeld3
import Derived.Laws.Rows
import Derived.Lib.AppendStr
import Derived.ArgAppend
import Derived.Laws.IdiomCopy
import Derived.OrdersHeld
import Derived.Laws.BitsLemmas
import Derived.RowKit
import Derived.Test.YtccoipncjfgbeaaHBitsLen
import Derived.Test.YtccoipncjfgbeaaWWords
import Derived.Test.YtccoipncjfgbeaaWLast
import Derived.Test.YtccoipncjfgbeaaWTab
import Derived.Test.YtccoipncjfgbeaaWFour
import Derived.Test.YtccoipncjfgbeaaWQPut
import Derived.Test.YtccoipncjfgbeaaWApart
import Derived.Test.YtccoipncjfgbeaaWArr
import Derived.Test.YtccoipncjfgbeaaWZeros
import Derived.Test.YtccoipncjfgbeaaWFoot
import Derived.Test.YtccoipncjfgbeaaWKept
import Derived.Test.YtccoipncjfgbeaaWShare
import Derived.Test.YtccoipncjfgbeaaWN
import Derived.Test.YtccoipncjfgbeaaWFootNe
import Derived.Test.YtccoipncjfgbeaaWAt
import Derived.Test.YtccoipncjfgbeaaWEqStruct
import Derived.Test.YtccoipncjfgbeaaWRepsOne
import Derived.Test.YtccoipncjfgbeaaWInv
import Derived.Test.YtccoipncjfgbeaaWInvWords
import Derived.Test.YtccoipncjfgbeaaWGuard
import Derived.Test.YtccoipncjfgbeaaWNEv
import Derived.Test.YtccoipncjfgbeaaWMore
namespace Go.Proofs.Ytccoipncjfgbeaa.PFnLeavesCover
open Go.RowKit Go.Proofs.YtccoipncjfgbeaaW.PrintWords Go.Proofs.YtccoipncjfgbeaaW.PrintLast Go.Proofs.YtccoipncjfgbeaaW.PrintMore
attribute [local go_sem] max2_int min2_int max_two min_two max_three min_three max_four min_four   -- for this text's walks alone
set_option linter.unusedVariables false
set_option linter.unusedSimpArgs false



def errW : Option Int → Value
  | none => .nilIface
  | some c => .iface 0 (.int .i64 c)
theorem errW_none : errW none = .nilIface := rfl
theorem errW_some (c : Int) : errW (some c) = .iface 0 (.int .i64 c) := rfl

theorem info3 : (Try.prog.info? 3).map (fun i => (i.zero, i.size, i.bytes)) = some (some (.int .i64 0), 1, 8) := by kernel_rfl
-- the values' own types

end Go.Proofs.Ytccoipncjfgbeaa.PFnLeavesCover

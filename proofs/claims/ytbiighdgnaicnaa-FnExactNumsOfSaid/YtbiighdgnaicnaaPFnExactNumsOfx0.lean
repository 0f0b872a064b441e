-- Laid by a program of this session: what the print of the kit writes, and contracts of the session where the print takes no function. Lean checks it.
import Derived.Test.YtbiighdgnaicnaaProg
import Derived.Below
import Derived.Deep.Draws
import Derived.Deep.AppendLies
import Derived.Maps.AppendAt
import Derived.OwnWalk
import Derived.Laws.BytesArg
import Derived.Laws.MakeOwn
import Derived.Laws.OwnMore
import Derived.Deep.OwnRows
import Derived.Tactics
import Derived.Lib.ConvBytes
import Derived.Laws.Slices
import Derived.WalkKit
import Derived.KernelRfl
import Derived.RowKit3
import Derived.Deep.LoopGhost
import Derived.Deep.QuietTactic
import Derived.BigQuiet
import Derived.WideLaws
import Derived.Deep.DeepCutAuto
import Derived.Deep.CutBlock
import Derived.Deep.RegionHeld3
import Derived.Laws.Rows
import Derived.Lib.AppendStr
import Derived.ArgAppend
import Derived.Laws.IdiomCopy
import Derived.OrdersHeld
import Derived.Laws.BitsLemmas
import Derived.RowKit
import Derived.Test.YtbiighdgnaicnaaWWords
import Derived.Test.YtbiighdgnaicnaaWLast
import Derived.Test.YtbiighdgnaicnaaWTab
import Derived.Test.YtbiighdgnaicnaaWFour
import Derived.Test.YtbiighdgnaicnaaWQPut
import Derived.Test.YtbiighdgnaicnaaWApart
import Derived.Test.YtbiighdgnaicnaaWArr
import Derived.Test.YtbiighdgnaicnaaWZeros
import Derived.Test.YtbiighdgnaicnaaWFoot
import Derived.Test.YtbiighdgnaicnaaWKept
import Derived.Test.YtbiighdgnaicnaaWShare
import Derived.Test.YtbiighdgnaicnaaWN
import Derived.Test.YtbiighdgnaicnaaWFootNe
import Derived.Test.YtbiighdgnaicnaaWAt
import Derived.Test.YtbiighdgnaicnaaWEqStruct
import Derived.Test.YtbiighdgnaicnaaWRepsOne
import Derived.Test.YtbiighdgnaicnaaWInv
import Derived.Test.YtbiighdgnaicnaaWInvWords
import Derived.Test.YtbiighdgnaicnaaWGuard
import Derived.Test.YtbiighdgnaicnaaWNEv
import Derived.Test.YtbiighdgnaicnaaWMore
namespace Go.Proofs.Ytbiighdgnaicnaa.PFnExactNumsOf
open Go.RowKit Go.Proofs.YtbiighdgnaicnaaW.PrintWords Go.Proofs.YtbiighdgnaicnaaW.PrintLast Go.Proofs.YtbiighdgnaicnaaW.PrintMore
attribute [local go_sem] max2_int min2_int max_two min_two max_three min_three max_four min_four   -- for this text's walks alone
set_option linter.unusedVariables false
set_option linter.unusedSimpArgs false



def errW : Option Int → Value
  | none => .nilIface
  | some c => .iface 0 (.int .i64 c)
theorem errW_none : errW none = .nilIface := rfl
theorem errW_some (c : Int) : errW (some c) = .iface 0 (.int .i64 c) := rfl

theorem info3 : (Try.prog.info? 3).map (fun i => (i.zero, i.size, i.bytes)) = some (some (.int .i64 0), 1, 8) := by kernel_rfl
theorem info37 : (Try.prog.info? 37).map (fun i => (i.zero, i.size, i.bytes)) = some (some (.int .u64 0), 1, 8) := by kernel_rfl
-- the values' own types

end Go.Proofs.Ytbiighdgnaicnaa.PFnExactNumsOf

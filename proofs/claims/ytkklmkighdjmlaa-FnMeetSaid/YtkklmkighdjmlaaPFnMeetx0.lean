-- Laid by a program of this session: what the print of the kit writes, and contracts of the session where the print takes no function. Lean checks it.
import Derived.Test.YtkklmkighdjmlaaProg
import Derived.Below
import Derived.Deep.Draws
import Derived.Deep.AppendLies
import Derived.Maps.AppendAt
import Derived.OwnWalk
import Derived.Laws.BytesArg
import Derived.Laws.MakeOwn
import Derived.Laws.OwnMore
import Derived.Deep.OwnRows
import Derived.Tactics
import Derived.Lib.ConvBytes
import Derived.Laws.Slices
import Derived.WalkKit
import Derived.KernelRfl
import Derived.RowKit3
import Derived.Deep.LoopGhost
import Derived.Deep.QuietTactic
import Derived.BigQuiet
import Derived.WideLaws
import Derived.Deep.DeepCutAuto
import Derived.Deep.CutBlock
import Derived.Deep.RegionHeld3
import Derived.Laws.Rows
import Derived.Lib.AppendStr
import Derived.ArgAppend
import Derived.Laws.IdiomCopy
import Derived.OrdersHeld
import Derived.Laws.BitsLemmas
import Derived.RowKit
import Derived.Test.YtkklmkighdjmlaaHBitsLen
import Derived.Test.YtkklmkighdjmlaaWWords
import Derived.Test.YtkklmkighdjmlaaWLast
import Derived.Test.YtkklmkighdjmlaaWTab
import Derived.Test.YtkklmkighdjmlaaWFour
import Derived.Test.YtkklmkighdjmlaaWQPut
import Derived.Test.YtkklmkighdjmlaaWApart
import Derived.Test.YtkklmkighdjmlaaWArr
import Derived.Test.YtkklmkighdjmlaaWZeros
import Derived.Test.YtkklmkighdjmlaaWFoot
import Derived.Test.YtkklmkighdjmlaaWKept
import Derived.Test.YtkklmkighdjmlaaWShare
import Derived.Test.YtkklmkighdjmlaaWN
import Derived.Test.YtkklmkighdjmlaaWFootNe
import Derived.Test.YtkklmkighdjmlaaWAt
import Derived.Test.YtkklmkighdjmlaaWEqStruct
import Derived.Test.YtkklmkighdjmlaaWRepsOne
import Derived.Test.YtkklmkighdjmlaaWInv
import Derived.Test.YtkklmkighdjmlaaWInvWords
import Derived.Test.YtkklmkighdjmlaaWGuard
import Derived.Test.YtkklmkighdjmlaaWNEv
import Derived.Test.YtkklmkighdjmlaaWMore
namespace Go.Proofs.Ytkklmkighdjmlaa.PFnMeet
open Go.RowKit Go.Proofs.YtkklmkighdjmlaaW.PrintWords Go.Proofs.YtkklmkighdjmlaaW.PrintLast Go.Proofs.YtkklmkighdjmlaaW.PrintMore
attribute [local go_sem] max2_int min2_int max_two min_two max_three min_three max_four min_four   -- for this text's walks alone
set_option linter.unusedVariables false
set_option linter.unusedSimpArgs false



def errW : Option Int → Value
  | none => .nilIface
  | some c => .iface 0 (.int .i64 c)
theorem errW_none : errW none = .nilIface := rfl
theorem errW_some (c : Int) : errW (some c) = .iface 0 (.int .i64 c) := rfl

theorem info3 : (Try.prog.info? 3).map (fun i => (i.zero, i.size, i.bytes)) = some (some (.int .i64 0), 1, 8) := by kernel_rfl
-- the values' own types

end Go.Proofs.Ytkklmkighdjmlaa.PFnMeet

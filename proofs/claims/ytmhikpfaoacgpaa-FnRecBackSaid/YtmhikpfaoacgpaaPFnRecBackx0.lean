-- Laid by a program of this session: what the print of the kit writes, and contracts of the session where the print takes no function. Lean checks it.
import Derived.Test.YtmhikpfaoacgpaaProg
import Derived.Below
import Derived.Deep.Draws
import Derived.Deep.AppendLies
import Derived.Maps.AppendAt
import Derived.OwnWalk
import Derived.Laws.BytesArg
import Derived.Laws.MakeOwn
import Derived.Laws.OwnMore
import Derived.Deep.OwnRows
import Derived.Tactics
import Derived.Lib.ConvBytes
import Derived.Laws.Slices
import Derived.WalkKit
import Derived.KernelRfl
import Derived.RowKit3
import Derived.Deep.LoopGhost
import Derived.Deep.QuietTactic
import Derived.BigQuiet
import Derived.WideLaws
import Derived.Deep.DeepCutAuto
import Derived.Deep.CutBlock
import Derived.Deep.RegionHeld3
import Derived.Laws.Rows
import Derived.Lib.AppendStr
import Derived.ArgAppend
import Derived.Laws.IdiomCopy
import Derived.OrdersHeld
import Derived.Laws.BitsLemmas
import Derived.RowKit
import Derived.Lib.BufferWrite
import Derived.Lib.SlBuf
import Derived.Test.YtmhikpfaoacgpaaWWords
import Derived.Test.YtmhikpfaoacgpaaWLast
import Derived.Test.YtmhikpfaoacgpaaWTab
import Derived.Test.YtmhikpfaoacgpaaWFour
import Derived.Test.YtmhikpfaoacgpaaWQPut
import Derived.Test.YtmhikpfaoacgpaaWApart
import Derived.Test.YtmhikpfaoacgpaaWArr
import Derived.Test.YtmhikpfaoacgpaaWZeros
import Derived.Test.YtmhikpfaoacgpaaWFoot
import Derived.Test.YtmhikpfaoacgpaaWKept
import Derived.Test.YtmhikpfaoacgpaaWShare
import Derived.Test.YtmhikpfaoacgpaaWN
import Derived.Test.YtmhikpfaoacgpaaWFootNe
import Derived.Test.YtmhikpfaoacgpaaWAt
import Derived.Test.YtmhikpfaoacgpaaWEqStruct
import Derived.Test.YtmhikpfaoacgpaaWRepsOne
import Derived.Test.YtmhikpfaoacgpaaWInv
import Derived.Test.YtmhikpfaoacgpaaWInvWords
import Derived.Test.YtmhikpfaoacgpaaWGuard
import Derived.Test.YtmhikpfaoacgpaaWNEv
import Derived.Test.YtmhikpfaoacgpaaWMore
namespace Go.Proofs.Ytmhikpfaoacgpaa.PFnRecBack
open Go.RowKit Go.Proofs.YtmhikpfaoacgpaaW.PrintWords Go.Proofs.YtmhikpfaoacgpaaW.PrintLast Go.Proofs.YtmhikpfaoacgpaaW.PrintMore
attribute [local go_sem] max2_int min2_int max_two min_two max_three min_three max_four min_four   -- for this text's walks alone
set_option linter.unusedVariables false
set_option linter.unusedSimpArgs false



def errW : Option Int → Value
  | none => .nilIface
  | some c => .iface 0 (.int .i64 c)
theorem errW_none : errW none = .nilIface := rfl
theorem errW_some (c : Int) : errW (some c) = .iface 0 (.int .i64 c) := rfl

theorem info3 : (Try.prog.info? 3).map (fun i => (i.zero, i.size, i.bytes)) = some (some (.int .i64 0), 1, 8) := by kernel_rfl
theorem info5 : (Try.prog.info? 5).map (fun i => (i.zero, i.size, i.bytes)) = some (some (.int .u8 0), 1, 1) := by kernel_rfl
theorem info9 : (Try.prog.info? 9).map (fun i => (i.zero, i.size, i.bytes)) = some (some (.string ⟨#[]⟩), 1, 16) := by kernel_rfl
-- the values' own types

end Go.Proofs.Ytmhikpfaoacgpaa.PFnRecBack

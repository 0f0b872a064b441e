-- PRINTED BY print.sh 35421559b90ae4d0a3588c463048766b98c2df88dd9212a6774a882060cdf62d: not written by this session
import Derived.Test.YtdpdgbaaimjoeaaProg
import Derived.Below
import Derived.Deep.Draws
import Derived.Deep.AppendLies
import Derived.Maps.AppendAt
import Derived.OwnWalk
import Derived.Laws.BytesArg
import Derived.Laws.MakeOwn
import Derived.Laws.OwnMore
import Derived.Deep.OwnRows
import Derived.Tactics
import Derived.Lib.ConvBytes
import Derived.Laws.Slices
import Derived.WalkKit
import Derived.KernelRfl
import Derived.RowKit3
import Derived.Deep.LoopGhost
import Derived.Deep.QuietTactic
import Derived.BigQuiet
import Derived.WideLaws
import Derived.Deep.DeepCutAuto
import Derived.Deep.CutBlock
import Derived.Deep.RegionHeld3
import Derived.Laws.Rows
import Derived.Lib.AppendStr
import Derived.ArgAppend
import Derived.Laws.IdiomCopy
import Derived.OrdersHeld
import Derived.Laws.BitsLemmas
import Derived.RowKit
import Derived.Test.YtdpdgbaaimjoeaaWWords
import Derived.Test.YtdpdgbaaimjoeaaWLast
import Derived.Test.YtdpdgbaaimjoeaaWTab
import Derived.Test.YtdpdgbaaimjoeaaWFour
import Derived.Test.YtdpdgbaaimjoeaaWQPut
import Derived.Test.YtdpdgbaaimjoeaaWApart
import Derived.Test.YtdpdgbaaimjoeaaWArr
import Derived.Test.YtdpdgbaaimjoeaaWZeros
import Derived.Test.YtdpdgbaaimjoeaaWFoot
import Derived.Test.YtdpdgbaaimjoeaaWKept
import Derived.Test.YtdpdgbaaimjoeaaWShare
import Derived.Test.YtdpdgbaaimjoeaaWN
import Derived.Test.YtdpdgbaaimjoeaaWFootNe
import Derived.Test.YtdpdgbaaimjoeaaWAt
import Derived.Test.YtdpdgbaaimjoeaaWEqStruct
import Derived.Test.YtdpdgbaaimjoeaaWRepsOne
import Derived.Test.YtdpdgbaaimjoeaaWInv
import Derived.Test.YtdpdgbaaimjoeaaWInvWords
import Derived.Test.YtdpdgbaaimjoeaaWGuard
import Derived.Test.YtdpdgbaaimjoeaaWNEv
import Derived.Test.YtdpdgbaaimjoeaaWMore
namespace Go.Proofs.Ytdpdgbaaimjoeaa.PFnExactBlockOk
open Go.RowKit Go.Proofs.YtdpdgbaaimjoeaaW.PrintWords Go.Proofs.YtdpdgbaaimjoeaaW.PrintLast Go.Proofs.YtdpdgbaaimjoeaaW.PrintMore
attribute [local go_sem] max2_int min2_int max_two min_two max_three min_three max_four min_four   -- for this text's walks alone
set_option linter.unusedVariables false
set_option linter.unusedSimpArgs false



def errW : Option Int → Value
  | none => .nilIface
  | some c => .iface 0 (.int .i64 c)
theorem errW_none : errW none = .nilIface := rfl
theorem errW_some (c : Int) : errW (some c) = .iface 0 (.int .i64 c) := rfl

theorem info5 : (Try.prog.info? 5).map (fun i => (i.zero, i.size, i.bytes)) = some (some (.int .u8 0), 1, 1) := by kernel_rfl
-- the values' own types

end Go.Proofs.Ytdpdgbaaimjoeaa.PFnExactBlockOk

-- Laid by a program of this session: what print.sh printed, less the lemmas that this law does not reach. Lean checks it.
import Derived.Test.YtggfndobfpmoaaaWInv
import Derived.Test.YtggfndobfpmoaaaWFootNe
namespace Go.Proofs.YtggfndobfpmoaaaW.PrintWords
open Go.RowKit
end Go.Proofs.YtggfndobfpmoaaaW.PrintWords
namespace Go.Proofs.YtggfndobfpmoaaaW.PrintLast
section
variable {ops : Array Oper} {a : Act} {o og : Oper} {g : Nat} {t : Tmp} {u : Bool}
end
end Go.Proofs.YtggfndobfpmoaaaW.PrintLast
-- shaken

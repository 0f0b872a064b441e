-- Laid by a program of this session: what print.sh printed, less the lemmas that this law does not reach. Lean checks it.
import Derived.Test.YtncnmgklnnpeeaaWInv
import Derived.Test.YtncnmgklnnpeeaaWFootNe
namespace Go.Proofs.YtncnmgklnnpeeaaW.PrintWords
open Go.RowKit
end Go.Proofs.YtncnmgklnnpeeaaW.PrintWords
namespace Go.Proofs.YtncnmgklnnpeeaaW.PrintLast
section
variable {ops : Array Oper} {a : Act} {o og : Oper} {g : Nat} {t : Tmp} {u : Bool}
end
end Go.Proofs.YtncnmgklnnpeeaaW.PrintLast
-- shaken

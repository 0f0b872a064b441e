-- Laid by a program of this session: what print.sh printed, less the lemmas that this law does not reach. Lean checks it.
import Derived.Test.YtljmhhadclgegaaWInv
import Derived.Test.YtljmhhadclgegaaWFootNe
namespace Go.Proofs.YtljmhhadclgegaaW.PrintWords
open Go.RowKit
end Go.Proofs.YtljmhhadclgegaaW.PrintWords
namespace Go.Proofs.YtljmhhadclgegaaW.PrintLast
section
variable {ops : Array Oper} {a : Act} {o og : Oper} {g : Nat} {t : Tmp} {u : Bool}
end
end Go.Proofs.YtljmhhadclgegaaW.PrintLast
-- shaken

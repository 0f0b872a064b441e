-- Laid by a program of this session: what print.sh printed, less the lemmas that this law does not reach. Lean checks it.
import Derived.Test.YtmhikpfaoacgpaaWInv
import Derived.Test.YtmhikpfaoacgpaaWFootNe
namespace Go.Proofs.YtmhikpfaoacgpaaW.PrintWords
open Go.RowKit
end Go.Proofs.YtmhikpfaoacgpaaW.PrintWords
namespace Go.Proofs.YtmhikpfaoacgpaaW.PrintLast
section
variable {ops : Array Oper} {a : Act} {o og : Oper} {g : Nat} {t : Tmp} {u : Bool}
end
end Go.Proofs.YtmhikpfaoacgpaaW.PrintLast
-- shaken

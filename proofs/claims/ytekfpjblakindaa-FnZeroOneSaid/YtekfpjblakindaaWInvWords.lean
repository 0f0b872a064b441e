-- Laid by a program of this session: what print.sh printed, less the lemmas that this law does not reach. Lean checks it.
import Derived.Test.YtekfpjblakindaaWInv
import Derived.Test.YtekfpjblakindaaWFootNe
namespace Go.Proofs.YtekfpjblakindaaW.PrintWords
open Go.RowKit
end Go.Proofs.YtekfpjblakindaaW.PrintWords
namespace Go.Proofs.YtekfpjblakindaaW.PrintLast
section
variable {ops : Array Oper} {a : Act} {o og : Oper} {g : Nat} {t : Tmp} {u : Bool}
end
end Go.Proofs.YtekfpjblakindaaW.PrintLast
-- shaken

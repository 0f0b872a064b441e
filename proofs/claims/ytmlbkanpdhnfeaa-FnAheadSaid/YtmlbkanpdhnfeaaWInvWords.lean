-- Laid by a program of this session: what print.sh printed, less the lemmas that this law does not reach. Lean checks it.
import Derived.Test.YtmlbkanpdhnfeaaWInv
import Derived.Test.YtmlbkanpdhnfeaaWFootNe
namespace Go.Proofs.YtmlbkanpdhnfeaaW.PrintWords
open Go.RowKit
end Go.Proofs.YtmlbkanpdhnfeaaW.PrintWords
namespace Go.Proofs.YtmlbkanpdhnfeaaW.PrintLast
section
variable {ops : Array Oper} {a : Act} {o og : Oper} {g : Nat} {t : Tmp} {u : Bool}
end
end Go.Proofs.YtmlbkanpdhnfeaaW.PrintLast
-- shaken

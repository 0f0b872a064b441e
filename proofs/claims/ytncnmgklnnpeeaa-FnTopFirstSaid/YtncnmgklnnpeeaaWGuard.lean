-- Laid by a program of this session: what print.sh printed, less the lemmas that this law does not reach. Lean checks it.
import Derived.Test.YtncnmgklnnpeeaaWWords
/-! ### 58. A guarded operation whose guard is known to want it: the same goal without the guard -/
namespace Go.Proofs.YtncnmgklnnpeeaaW.PrintWords
open Go.RowKit
section
variable {P : Program} {ops : Array Oper} {rest : List Oper} {o : Oper} {a : Act} {Q : Exit → Act → World → Prop} {W : World}
end
end Go.Proofs.YtncnmgklnnpeeaaW.PrintWords
-- shaken

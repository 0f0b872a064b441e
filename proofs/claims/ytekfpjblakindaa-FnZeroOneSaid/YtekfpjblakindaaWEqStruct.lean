-- Laid by a program of this session: what print.sh printed, less the lemmas that this law does not reach. Lean checks it.
import Derived.Test.YtekfpjblakindaaWWords
import Derived.Laws.StructEq
/-! ### 53. '==' of structs as_ one Bool -/
namespace Go.Proofs.YtekfpjblakindaaW.PrintWords
open Go.RowKit
section
variable {P : Program} {d : Nat} {xs ys : Array Value} {f : Field} {fs : List Field} {a b : Value} {r s : Bool} {w : World}
end
end Go.Proofs.YtekfpjblakindaaW.PrintWords
-- shaken

-- Laid by a program of this session: what print.sh printed, less the lemmas that this law does not reach. Lean checks it.
import Derived.Test.YtekfpjblakindaaWN
/-! ### 52. A row that stays read whatever happens to a block (a set of blocks) doesn't lie there -/
namespace Go.Proofs.YtekfpjblakindaaW.PrintWords
open Go.RowKit
namespace Kd
section
variable {α : Type} {d : Kd α} {W : World} {g n : Nat} {S ok : Nat → Prop} {A : Option Addr} {ad : Addr} {xs : List α}
end
end Kd
end Go.Proofs.YtekfpjblakindaaW.PrintWords
-- shaken

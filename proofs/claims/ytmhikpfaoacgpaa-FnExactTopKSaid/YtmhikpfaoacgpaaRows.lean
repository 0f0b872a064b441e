/-
  No cell of these rows narrows 'for every input' (looked for: loops, veiled, ifaces, maps, wideKeys, modest, calm, conditions, laid).
  DERIVED. THE GIVEN ROWS OF THIS SEAT. 14 by the template 'for every input the law returns true; each argument reads behind the call as it read before'; 0 by the template 'total and deterministic' (their statements: YtmhikpfaoacgpaaTotals.lean).
  GIVEN WITH THE SEED: the statements are not yours to turn. If you find one false, say at which input.
  Laid BY PROGRAM, IN A SANDBOX (cutbox-rows.mjs): the forced cells as the released guide's own fill.sh prints them over the translation 4082259288da528a… (all of the seat's roots in one cut). By AI agents, Wed Nov 11 2026. No macro, syntax, notation, axiom, sorry.
-/
import Derived.Test.YtmhikpfaoacgpaaChecked
import GoSem.Claim
import GoSem.ClaimJoined
import GoSem.ClaimMapViews
import Derived.JoinedTies
import Derived.KernelRfl
namespace Go.Proofs.Ytmhikpfaoacgpaa
/- THE CELL 'sum', in the pinned program and in every row, IS THE sha256 OF THE DUMP (.gsa) THAT YtmhikpfaoacgpaaProg.lean LOADS. Nothing in Lean hashes anything: it is a label: what it is worth is what the hold of that sum in a sandbox is worth. -/
noncomputable def Try.pinned : Pinned := { name := "ytmhikpfaoacgpaa", sum := "4082259288da528acdc5dbde046e9a012afab0a6485c60309f0c4eb6e0e8ea9a", checked := Try.checked }
namespace Rows
def none {H : Type} : Left H := { results := [], args := [] }

/-- 'laws.FnExactRecOk': WHATEVER THE INPUT: true; the input reads as it did. -/
def fnExactRecOkSpec : ChangeSpec := { name := "fnExactRecOk", fn := fun _ => fun
  | [d] => { results := [.lit (.bool true)], args := [d] }
  | _ => none }
def fnExactRecOkRow : OpenClaim := { program := "ytmhikpfaoacgpaa", sum := "4082259288da528acdc5dbde046e9a012afab0a6485c60309f0c4eb6e0e8ea9a", func := "loop.example/g00663/laws.FnExactRecOk", spec := "fnExactRecOk", apart := false }
def FnExactRecOkSaid : Prop := fnExactRecOkRow.holds Try.pinned (OpenSpec.ofChange fnExactRecOkSpec)

/-- ITS FALSE NEIGHBOUR: 'it returns false'. Refute it at one input. -/
def fnExactRecOkWrong : ChangeSpec := { name := "fnExactRecOk", fn := fun _ => fun
  | [d] => { results := [.lit (.bool false)], args := [d] }
  | _ => none }
def FnExactRecOkWrongFalsely : Prop := fnExactRecOkRow.holds Try.pinned (OpenSpec.ofChange fnExactRecOkWrong)

/-- 'laws.FnExactRecOf': WHATEVER THE INPUT: true; the input reads as it did. -/
def fnExactRecOfSpec : ChangeSpec := { name := "fnExactRecOf", fn := fun _ => fun
  | [d] => { results := [.lit (.bool true)], args := [d] }
  | _ => none }
def fnExactRecOfRow : OpenClaim := { program := "ytmhikpfaoacgpaa", sum := "4082259288da528acdc5dbde046e9a012afab0a6485c60309f0c4eb6e0e8ea9a", func := "loop.example/g00663/laws.FnExactRecOf", spec := "fnExactRecOf", apart := false }
def FnExactRecOfSaid : Prop := fnExactRecOfRow.holds Try.pinned (OpenSpec.ofChange fnExactRecOfSpec)

/-- ITS FALSE NEIGHBOUR: 'it returns false'. Refute it at one input. -/
def fnExactRecOfWrong : ChangeSpec := { name := "fnExactRecOf", fn := fun _ => fun
  | [d] => { results := [.lit (.bool false)], args := [d] }
  | _ => none }
def FnExactRecOfWrongFalsely : Prop := fnExactRecOfRow.holds Try.pinned (OpenSpec.ofChange fnExactRecOfWrong)

/-- 'laws.FnExactRecAhead': WHATEVER THE INPUT: true; the input reads as it did. -/
def fnExactRecAheadSpec : ChangeSpec := { name := "fnExactRecAhead", fn := fun _ => fun
  | [d1, d2] => { results := [.lit (.bool true)], args := [d1, d2] }
  | _ => none }
def fnExactRecAheadRow : OpenClaim := { program := "ytmhikpfaoacgpaa", sum := "4082259288da528acdc5dbde046e9a012afab0a6485c60309f0c4eb6e0e8ea9a", func := "loop.example/g00663/laws.FnExactRecAhead", spec := "fnExactRecAhead", apart := false }
def FnExactRecAheadSaid : Prop := fnExactRecAheadRow.holds Try.pinned (OpenSpec.ofChange fnExactRecAheadSpec)

/-- ITS FALSE NEIGHBOUR: 'it returns false'. Refute it at one input. -/
def fnExactRecAheadWrong : ChangeSpec := { name := "fnExactRecAhead", fn := fun _ => fun
  | [d1, d2] => { results := [.lit (.bool false)], args := [d1, d2] }
  | _ => none }
def FnExactRecAheadWrongFalsely : Prop := fnExactRecAheadRow.holds Try.pinned (OpenSpec.ofChange fnExactRecAheadWrong)

/-- 'laws.FnExactRecsOk': WHATEVER THE INPUT: true; the input reads as it did. -/
def fnExactRecsOkSpec : ChangeSpec := { name := "fnExactRecsOk", fn := fun _ => fun
  | [d] => { results := [.lit (.bool true)], args := [d] }
  | _ => none }
def fnExactRecsOkRow : OpenClaim := { program := "ytmhikpfaoacgpaa", sum := "4082259288da528acdc5dbde046e9a012afab0a6485c60309f0c4eb6e0e8ea9a", func := "loop.example/g00663/laws.FnExactRecsOk", spec := "fnExactRecsOk", unfollowed := true, recurses := true, apart := false }
def FnExactRecsOkSaid : Prop := fnExactRecsOkRow.holds Try.pinned (OpenSpec.ofChange fnExactRecsOkSpec)

/-- ITS FALSE NEIGHBOUR: 'it returns false'. Refute it at one input. -/
def fnExactRecsOkWrong : ChangeSpec := { name := "fnExactRecsOk", fn := fun _ => fun
  | [d] => { results := [.lit (.bool false)], args := [d] }
  | _ => none }
def FnExactRecsOkWrongFalsely : Prop := fnExactRecsOkRow.holds Try.pinned (OpenSpec.ofChange fnExactRecsOkWrong)

/-- 'laws.FnExactRecPair': WHATEVER THE INPUT: true; the input reads as it did. -/
def fnExactRecPairSpec : ChangeSpec := { name := "fnExactRecPair", fn := fun _ => fun
  | [d1, d2] => { results := [.lit (.bool true)], args := [d1, d2] }
  | _ => none }
def fnExactRecPairRow : OpenClaim := { program := "ytmhikpfaoacgpaa", sum := "4082259288da528acdc5dbde046e9a012afab0a6485c60309f0c4eb6e0e8ea9a", func := "loop.example/g00663/laws.FnExactRecPair", spec := "fnExactRecPair", apart := false }
def FnExactRecPairSaid : Prop := fnExactRecPairRow.holds Try.pinned (OpenSpec.ofChange fnExactRecPairSpec)

/-- ITS FALSE NEIGHBOUR: 'it returns false'. Refute it at one input. -/
def fnExactRecPairWrong : ChangeSpec := { name := "fnExactRecPair", fn := fun _ => fun
  | [d1, d2] => { results := [.lit (.bool false)], args := [d1, d2] }
  | _ => none }
def FnExactRecPairWrongFalsely : Prop := fnExactRecPairRow.holds Try.pinned (OpenSpec.ofChange fnExactRecPairWrong)

/-- 'laws.FnExactRecRead': WHATEVER THE INPUT: true; the input reads as it did. -/
def fnExactRecReadSpec : ChangeSpec := { name := "fnExactRecRead", fn := fun _ => fun
  | [d] => { results := [.lit (.bool true)], args := [d] }
  | _ => none }
def fnExactRecReadRow : OpenClaim := { program := "ytmhikpfaoacgpaa", sum := "4082259288da528acdc5dbde046e9a012afab0a6485c60309f0c4eb6e0e8ea9a", func := "loop.example/g00663/laws.FnExactRecRead", spec := "fnExactRecRead", apart := false }
def FnExactRecReadSaid : Prop := fnExactRecReadRow.holds Try.pinned (OpenSpec.ofChange fnExactRecReadSpec)

/-- ITS FALSE NEIGHBOUR: 'it returns false'. Refute it at one input. -/
def fnExactRecReadWrong : ChangeSpec := { name := "fnExactRecRead", fn := fun _ => fun
  | [d] => { results := [.lit (.bool false)], args := [d] }
  | _ => none }
def FnExactRecReadWrongFalsely : Prop := fnExactRecReadRow.holds Try.pinned (OpenSpec.ofChange fnExactRecReadWrong)

/-- 'laws.FnRecBack': WHATEVER THE INPUT: true; the input reads as it did. -/
def fnRecBackSpec : ChangeSpec := { name := "fnRecBack", fn := fun _ => fun
  | [d] => { results := [.lit (.bool true)], args := [d] }
  | _ => none }
def fnRecBackRow : OpenClaim := { program := "ytmhikpfaoacgpaa", sum := "4082259288da528acdc5dbde046e9a012afab0a6485c60309f0c4eb6e0e8ea9a", func := "loop.example/g00663/laws.FnRecBack", spec := "fnRecBack", apart := false }
def FnRecBackSaid : Prop := fnRecBackRow.holds Try.pinned (OpenSpec.ofChange fnRecBackSpec)

/-- ITS FALSE NEIGHBOUR: 'it returns false'. Refute it at one input. -/
def fnRecBackWrong : ChangeSpec := { name := "fnRecBack", fn := fun _ => fun
  | [d] => { results := [.lit (.bool false)], args := [d] }
  | _ => none }
def FnRecBackWrongFalsely : Prop := fnRecBackRow.holds Try.pinned (OpenSpec.ofChange fnRecBackWrong)

/-- 'laws.FnAhead': WHATEVER THE INPUT: true; the input reads as it did. -/
def fnAheadSpec : ChangeSpec := { name := "fnAhead", fn := fun _ => fun
  | [d] => { results := [.lit (.bool true)], args := [d] }
  | _ => none }
def fnAheadRow : OpenClaim := { program := "ytmhikpfaoacgpaa", sum := "4082259288da528acdc5dbde046e9a012afab0a6485c60309f0c4eb6e0e8ea9a", func := "loop.example/g00663/laws.FnAhead", spec := "fnAhead", apart := false }
def FnAheadSaid : Prop := fnAheadRow.holds Try.pinned (OpenSpec.ofChange fnAheadSpec)

/-- ITS FALSE NEIGHBOUR: 'it returns false'. Refute it at one input. -/
def fnAheadWrong : ChangeSpec := { name := "fnAhead", fn := fun _ => fun
  | [d] => { results := [.lit (.bool false)], args := [d] }
  | _ => none }
def FnAheadWrongFalsely : Prop := fnAheadRow.holds Try.pinned (OpenSpec.ofChange fnAheadWrong)

/-- 'laws.FnExactCompact': WHATEVER THE INPUT: true; the input reads as it did. -/
def fnExactCompactSpec : ChangeSpec := { name := "fnExactCompact", fn := fun _ => fun
  | [d] => { results := [.lit (.bool true)], args := [d] }
  | _ => none }
def fnExactCompactRow : OpenClaim := { program := "ytmhikpfaoacgpaa", sum := "4082259288da528acdc5dbde046e9a012afab0a6485c60309f0c4eb6e0e8ea9a", func := "loop.example/g00663/laws.FnExactCompact", spec := "fnExactCompact", unfollowed := true, recurses := true, apart := false }
def FnExactCompactSaid : Prop := fnExactCompactRow.holds Try.pinned (OpenSpec.ofChange fnExactCompactSpec)

/-- ITS FALSE NEIGHBOUR: 'it returns false'. Refute it at one input. -/
def fnExactCompactWrong : ChangeSpec := { name := "fnExactCompact", fn := fun _ => fun
  | [d] => { results := [.lit (.bool false)], args := [d] }
  | _ => none }
def FnExactCompactWrongFalsely : Prop := fnExactCompactRow.holds Try.pinned (OpenSpec.ofChange fnExactCompactWrong)

/-- 'laws.FnExactRankBy': WHATEVER THE INPUT: true; the input reads as it did. -/
def fnExactRankBySpec : ChangeSpec := { name := "fnExactRankBy", fn := fun _ => fun
  | [d1, d2] => { results := [.lit (.bool true)], args := [d1, d2] }
  | _ => none }
def fnExactRankByRow : OpenClaim := { program := "ytmhikpfaoacgpaa", sum := "4082259288da528acdc5dbde046e9a012afab0a6485c60309f0c4eb6e0e8ea9a", func := "loop.example/g00663/laws.FnExactRankBy", spec := "fnExactRankBy", unfollowed := true, recurses := true, apart := false }
def FnExactRankBySaid : Prop := fnExactRankByRow.holds Try.pinned (OpenSpec.ofChange fnExactRankBySpec)

/-- ITS FALSE NEIGHBOUR: 'it returns false'. Refute it at one input. -/
def fnExactRankByWrong : ChangeSpec := { name := "fnExactRankBy", fn := fun _ => fun
  | [d1, d2] => { results := [.lit (.bool false)], args := [d1, d2] }
  | _ => none }
def FnExactRankByWrongFalsely : Prop := fnExactRankByRow.holds Try.pinned (OpenSpec.ofChange fnExactRankByWrong)

/-- 'laws.FnExactRank': WHATEVER THE INPUT: true; the input reads as it did. -/
def fnExactRankSpec : ChangeSpec := { name := "fnExactRank", fn := fun _ => fun
  | [d] => { results := [.lit (.bool true)], args := [d] }
  | _ => none }
def fnExactRankRow : OpenClaim := { program := "ytmhikpfaoacgpaa", sum := "4082259288da528acdc5dbde046e9a012afab0a6485c60309f0c4eb6e0e8ea9a", func := "loop.example/g00663/laws.FnExactRank", spec := "fnExactRank", unfollowed := true, recurses := true, apart := false }
def FnExactRankSaid : Prop := fnExactRankRow.holds Try.pinned (OpenSpec.ofChange fnExactRankSpec)

/-- ITS FALSE NEIGHBOUR: 'it returns false'. Refute it at one input. -/
def fnExactRankWrong : ChangeSpec := { name := "fnExactRank", fn := fun _ => fun
  | [d] => { results := [.lit (.bool false)], args := [d] }
  | _ => none }
def FnExactRankWrongFalsely : Prop := fnExactRankRow.holds Try.pinned (OpenSpec.ofChange fnExactRankWrong)

/-- 'laws.FnExactTopK': WHATEVER THE INPUT: true; the input reads as it did. -/
def fnExactTopKSpec : ChangeSpec := { name := "fnExactTopK", fn := fun _ => fun
  | [d1, d2] => { results := [.lit (.bool true)], args := [d1, d2] }
  | _ => none }
def fnExactTopKRow : OpenClaim := { program := "ytmhikpfaoacgpaa", sum := "4082259288da528acdc5dbde046e9a012afab0a6485c60309f0c4eb6e0e8ea9a", func := "loop.example/g00663/laws.FnExactTopK", spec := "fnExactTopK", unfollowed := true, recurses := true, apart := false }
def FnExactTopKSaid : Prop := fnExactTopKRow.holds Try.pinned (OpenSpec.ofChange fnExactTopKSpec)

/-- ITS FALSE NEIGHBOUR: 'it returns false'. Refute it at one input. -/
def fnExactTopKWrong : ChangeSpec := { name := "fnExactTopK", fn := fun _ => fun
  | [d1, d2] => { results := [.lit (.bool false)], args := [d1, d2] }
  | _ => none }
def FnExactTopKWrongFalsely : Prop := fnExactTopKRow.holds Try.pinned (OpenSpec.ofChange fnExactTopKWrong)

/-- 'laws.FnRanked': WHATEVER THE INPUT: true; the input reads as it did. -/
def fnRankedSpec : ChangeSpec := { name := "fnRanked", fn := fun _ => fun
  | [d] => { results := [.lit (.bool true)], args := [d] }
  | _ => none }
def fnRankedRow : OpenClaim := { program := "ytmhikpfaoacgpaa", sum := "4082259288da528acdc5dbde046e9a012afab0a6485c60309f0c4eb6e0e8ea9a", func := "loop.example/g00663/laws.FnRanked", spec := "fnRanked", unfollowed := true, recurses := true, apart := false }
def FnRankedSaid : Prop := fnRankedRow.holds Try.pinned (OpenSpec.ofChange fnRankedSpec)

/-- ITS FALSE NEIGHBOUR: 'it returns false'. Refute it at one input. -/
def fnRankedWrong : ChangeSpec := { name := "fnRanked", fn := fun _ => fun
  | [d] => { results := [.lit (.bool false)], args := [d] }
  | _ => none }
def FnRankedWrongFalsely : Prop := fnRankedRow.holds Try.pinned (OpenSpec.ofChange fnRankedWrong)

/-- 'laws.FnTopFirst': WHATEVER THE INPUT: true; the input reads as it did. -/
def fnTopFirstSpec : ChangeSpec := { name := "fnTopFirst", fn := fun _ => fun
  | [d] => { results := [.lit (.bool true)], args := [d] }
  | _ => none }
def fnTopFirstRow : OpenClaim := { program := "ytmhikpfaoacgpaa", sum := "4082259288da528acdc5dbde046e9a012afab0a6485c60309f0c4eb6e0e8ea9a", func := "loop.example/g00663/laws.FnTopFirst", spec := "fnTopFirst", unfollowed := true, recurses := true, apart := false }
def FnTopFirstSaid : Prop := fnTopFirstRow.holds Try.pinned (OpenSpec.ofChange fnTopFirstSpec)

/-- ITS FALSE NEIGHBOUR: 'it returns false'. Refute it at one input. -/
def fnTopFirstWrong : ChangeSpec := { name := "fnTopFirst", fn := fun _ => fun
  | [d] => { results := [.lit (.bool false)], args := [d] }
  | _ => none }
def FnTopFirstWrongFalsely : Prop := fnTopFirstRow.holds Try.pinned (OpenSpec.ofChange fnTopFirstWrong)

/- THE SECOND FORM. 'bulk': how many values and letters a reading holds, each counted each time it is reached (what is shared counts as often as it is met; a slice's spare places count too). A statement '..UptoSaid' is the law's where the arguments, and the package variables that the reading takes, are together of bulk at most 1048576: NARROWER than '..Said'. Prove '..Said' where nothing that the law and all that it calls make is longer than what came in: it says more and counts as full. Else prove '..UptoSaid'. A law counts once. -/
mutual
def uptoBulk {H : Type} : DataW H → Nat
  | .lit (.string bytes) => bytes.length + 1
  | .lit _ => 1
  | .nil => 1
  | .ptr d => uptoBulk d + 1
  | .slice elems spare => uptoBulkAll elems + uptoBulkAll spare + 1
  | .agg parts => uptoBulkAll parts + 1
  | .iface _ d => uptoBulk d + 1
  | .map entries => uptoBulkEntries entries + 1
  | .held _ => 1
def uptoBulkAll {H : Type} : List (DataW H) → Nat
  | [] => 0
  | d :: r => uptoBulk d + uptoBulkAll r
def uptoBulkEntries {H : Type} : List (Lit × DataW H) → Nat
  | [] => 0
  | x :: r => uptoBulkEntry x + uptoBulkEntries r
def uptoBulkEntry {H : Type} : Lit × DataW H → Nat
  | (.string bytes, d) => bytes.length + uptoBulk d + 1
  | (_, d) => uptoBulk d + 1
 end
def uptoSmall : (H : Type) → List (DataW H) → Bool := fun _ ds => decide (uptoBulkAll ds ≤ 1048576)
def OpenSpec.upto (s : _root_.Go.ChangeSpec) : _root_.Go.OpenSpec := { _root_.Go.OpenSpec.ofChange s with cond := some uptoSmall }

/-- 'laws.FnExactRecOk', WHERE WHAT IT READS IS OF BULK AT MOST 1048576: true; the input reads as it did. -/
def fnExactRecOkUptoRow : OpenClaim := { program := "ytmhikpfaoacgpaa", sum := "4082259288da528acdc5dbde046e9a012afab0a6485c60309f0c4eb6e0e8ea9a", func := "loop.example/g00663/laws.FnExactRecOk", spec := "fnExactRecOk", apart := false, narrowed := true }
def FnExactRecOkUptoSaid : Prop := fnExactRecOkUptoRow.holds Try.pinned (OpenSpec.upto fnExactRecOkSpec)

/-- 'laws.FnExactRecOf', WHERE WHAT IT READS IS OF BULK AT MOST 1048576: true; the input reads as it did. -/
def fnExactRecOfUptoRow : OpenClaim := { program := "ytmhikpfaoacgpaa", sum := "4082259288da528acdc5dbde046e9a012afab0a6485c60309f0c4eb6e0e8ea9a", func := "loop.example/g00663/laws.FnExactRecOf", spec := "fnExactRecOf", apart := false, narrowed := true }
def FnExactRecOfUptoSaid : Prop := fnExactRecOfUptoRow.holds Try.pinned (OpenSpec.upto fnExactRecOfSpec)

/-- 'laws.FnExactRecAhead', WHERE WHAT IT READS IS OF BULK AT MOST 1048576: true; the input reads as it did. -/
def fnExactRecAheadUptoRow : OpenClaim := { program := "ytmhikpfaoacgpaa", sum := "4082259288da528acdc5dbde046e9a012afab0a6485c60309f0c4eb6e0e8ea9a", func := "loop.example/g00663/laws.FnExactRecAhead", spec := "fnExactRecAhead", apart := false, narrowed := true }
def FnExactRecAheadUptoSaid : Prop := fnExactRecAheadUptoRow.holds Try.pinned (OpenSpec.upto fnExactRecAheadSpec)

/-- 'laws.FnExactRecsOk', WHERE WHAT IT READS IS OF BULK AT MOST 1048576: true; the input reads as it did. -/
def fnExactRecsOkUptoRow : OpenClaim := { program := "ytmhikpfaoacgpaa", sum := "4082259288da528acdc5dbde046e9a012afab0a6485c60309f0c4eb6e0e8ea9a", func := "loop.example/g00663/laws.FnExactRecsOk", spec := "fnExactRecsOk", unfollowed := true, recurses := true, apart := false, narrowed := true }
def FnExactRecsOkUptoSaid : Prop := fnExactRecsOkUptoRow.holds Try.pinned (OpenSpec.upto fnExactRecsOkSpec)

/-- 'laws.FnExactRecPair', WHERE WHAT IT READS IS OF BULK AT MOST 1048576: true; the input reads as it did. -/
def fnExactRecPairUptoRow : OpenClaim := { program := "ytmhikpfaoacgpaa", sum := "4082259288da528acdc5dbde046e9a012afab0a6485c60309f0c4eb6e0e8ea9a", func := "loop.example/g00663/laws.FnExactRecPair", spec := "fnExactRecPair", apart := false, narrowed := true }
def FnExactRecPairUptoSaid : Prop := fnExactRecPairUptoRow.holds Try.pinned (OpenSpec.upto fnExactRecPairSpec)

/-- 'laws.FnExactRecRead', WHERE WHAT IT READS IS OF BULK AT MOST 1048576: true; the input reads as it did. -/
def fnExactRecReadUptoRow : OpenClaim := { program := "ytmhikpfaoacgpaa", sum := "4082259288da528acdc5dbde046e9a012afab0a6485c60309f0c4eb6e0e8ea9a", func := "loop.example/g00663/laws.FnExactRecRead", spec := "fnExactRecRead", apart := false, narrowed := true }
def FnExactRecReadUptoSaid : Prop := fnExactRecReadUptoRow.holds Try.pinned (OpenSpec.upto fnExactRecReadSpec)

/-- 'laws.FnRecBack', WHERE WHAT IT READS IS OF BULK AT MOST 1048576: true; the input reads as it did. -/
def fnRecBackUptoRow : OpenClaim := { program := "ytmhikpfaoacgpaa", sum := "4082259288da528acdc5dbde046e9a012afab0a6485c60309f0c4eb6e0e8ea9a", func := "loop.example/g00663/laws.FnRecBack", spec := "fnRecBack", apart := false, narrowed := true }
def FnRecBackUptoSaid : Prop := fnRecBackUptoRow.holds Try.pinned (OpenSpec.upto fnRecBackSpec)

/-- 'laws.FnAhead', WHERE WHAT IT READS IS OF BULK AT MOST 1048576: true; the input reads as it did. -/
def fnAheadUptoRow : OpenClaim := { program := "ytmhikpfaoacgpaa", sum := "4082259288da528acdc5dbde046e9a012afab0a6485c60309f0c4eb6e0e8ea9a", func := "loop.example/g00663/laws.FnAhead", spec := "fnAhead", apart := false, narrowed := true }
def FnAheadUptoSaid : Prop := fnAheadUptoRow.holds Try.pinned (OpenSpec.upto fnAheadSpec)

/-- 'laws.FnExactCompact', WHERE WHAT IT READS IS OF BULK AT MOST 1048576: true; the input reads as it did. -/
def fnExactCompactUptoRow : OpenClaim := { program := "ytmhikpfaoacgpaa", sum := "4082259288da528acdc5dbde046e9a012afab0a6485c60309f0c4eb6e0e8ea9a", func := "loop.example/g00663/laws.FnExactCompact", spec := "fnExactCompact", unfollowed := true, recurses := true, apart := false, narrowed := true }
def FnExactCompactUptoSaid : Prop := fnExactCompactUptoRow.holds Try.pinned (OpenSpec.upto fnExactCompactSpec)

/-- 'laws.FnExactRankBy', WHERE WHAT IT READS IS OF BULK AT MOST 1048576: true; the input reads as it did. -/
def fnExactRankByUptoRow : OpenClaim := { program := "ytmhikpfaoacgpaa", sum := "4082259288da528acdc5dbde046e9a012afab0a6485c60309f0c4eb6e0e8ea9a", func := "loop.example/g00663/laws.FnExactRankBy", spec := "fnExactRankBy", unfollowed := true, recurses := true, apart := false, narrowed := true }
def FnExactRankByUptoSaid : Prop := fnExactRankByUptoRow.holds Try.pinned (OpenSpec.upto fnExactRankBySpec)

/-- 'laws.FnExactRank', WHERE WHAT IT READS IS OF BULK AT MOST 1048576: true; the input reads as it did. -/
def fnExactRankUptoRow : OpenClaim := { program := "ytmhikpfaoacgpaa", sum := "4082259288da528acdc5dbde046e9a012afab0a6485c60309f0c4eb6e0e8ea9a", func := "loop.example/g00663/laws.FnExactRank", spec := "fnExactRank", unfollowed := true, recurses := true, apart := false, narrowed := true }
def FnExactRankUptoSaid : Prop := fnExactRankUptoRow.holds Try.pinned (OpenSpec.upto fnExactRankSpec)

/-- 'laws.FnExactTopK', WHERE WHAT IT READS IS OF BULK AT MOST 1048576: true; the input reads as it did. -/
def fnExactTopKUptoRow : OpenClaim := { program := "ytmhikpfaoacgpaa", sum := "4082259288da528acdc5dbde046e9a012afab0a6485c60309f0c4eb6e0e8ea9a", func := "loop.example/g00663/laws.FnExactTopK", spec := "fnExactTopK", unfollowed := true, recurses := true, apart := false, narrowed := true }
def FnExactTopKUptoSaid : Prop := fnExactTopKUptoRow.holds Try.pinned (OpenSpec.upto fnExactTopKSpec)

/-- 'laws.FnRanked', WHERE WHAT IT READS IS OF BULK AT MOST 1048576: true; the input reads as it did. -/
def fnRankedUptoRow : OpenClaim := { program := "ytmhikpfaoacgpaa", sum := "4082259288da528acdc5dbde046e9a012afab0a6485c60309f0c4eb6e0e8ea9a", func := "loop.example/g00663/laws.FnRanked", spec := "fnRanked", unfollowed := true, recurses := true, apart := false, narrowed := true }
def FnRankedUptoSaid : Prop := fnRankedUptoRow.holds Try.pinned (OpenSpec.upto fnRankedSpec)

/-- 'laws.FnTopFirst', WHERE WHAT IT READS IS OF BULK AT MOST 1048576: true; the input reads as it did. -/
def fnTopFirstUptoRow : OpenClaim := { program := "ytmhikpfaoacgpaa", sum := "4082259288da528acdc5dbde046e9a012afab0a6485c60309f0c4eb6e0e8ea9a", func := "loop.example/g00663/laws.FnTopFirst", spec := "fnTopFirst", unfollowed := true, recurses := true, apart := false, narrowed := true }
def FnTopFirstUptoSaid : Prop := fnTopFirstUptoRow.holds Try.pinned (OpenSpec.upto fnTopFirstSpec)

end Rows
end Go.Proofs.Ytmhikpfaoacgpaa

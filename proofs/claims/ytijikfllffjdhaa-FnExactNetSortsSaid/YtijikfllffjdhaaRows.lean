/-
  No cell of these rows narrows 'for every input' (looked for: loops, veiled, ifaces, maps, wideKeys, modest, calm, conditions, laid).
  DERIVED. THE GIVEN ROWS OF THIS SEAT. 13 by the template 'for every input the law returns true; each argument reads behind the call as it read before'; 0 by the template 'total and deterministic' (their statements: YtijikfllffjdhaaTotals.lean).
  GIVEN WITH THE SEED: the statements are not yours to turn. If you find one false, say at which input.
  Laid BY PROGRAM, IN A SANDBOX (cutbox-rows.mjs): the forced cells as the released guide's own fill.sh prints them over the translation 6f7d1d944169c32b… (all of the seat's roots in one cut). By AI agents, Wed Nov 11 2026. No macro, syntax, notation, axiom, sorry.
-/
import Derived.Test.YtijikfllffjdhaaChecked
import GoSem.Claim
import GoSem.ClaimJoined
import GoSem.ClaimMapViews
import Derived.JoinedTies
import Derived.KernelRfl
namespace Go.Proofs.Ytijikfllffjdhaa
/- THE CELL 'sum', in the pinned program and in every row, IS THE sha256 OF THE DUMP (.gsa) THAT YtijikfllffjdhaaProg.lean LOADS. Nothing in Lean hashes anything: it is a label: what it is worth is what the hold of that sum in a sandbox is worth. -/
noncomputable def Try.pinned : Pinned := { name := "ytijikfllffjdhaa", sum := "6f7d1d944169c32bc6da265e942580e8a8eca0f34ac15125a6bd8b55f4514e59", checked := Try.checked }
namespace Rows
def none {H : Type} : Left H := { results := [], args := [] }

/-- 'laws.FnExactRankSteps': WHATEVER THE INPUT: true; the input reads as it did. -/
def fnExactRankStepsSpec : ChangeSpec := { name := "fnExactRankSteps", fn := fun _ => fun
  | [d] => { results := [.lit (.bool true)], args := [d] }
  | _ => none }
def fnExactRankStepsRow : OpenClaim := { program := "ytijikfllffjdhaa", sum := "6f7d1d944169c32bc6da265e942580e8a8eca0f34ac15125a6bd8b55f4514e59", func := "loop.example/g00663/laws.FnExactRankSteps", spec := "fnExactRankSteps", apart := false }
def FnExactRankStepsSaid : Prop := fnExactRankStepsRow.holds Try.pinned (OpenSpec.ofChange fnExactRankStepsSpec)

/-- ITS FALSE NEIGHBOUR: 'it returns false'. Refute it at one input. -/
def fnExactRankStepsWrong : ChangeSpec := { name := "fnExactRankSteps", fn := fun _ => fun
  | [d] => { results := [.lit (.bool false)], args := [d] }
  | _ => none }
def FnExactRankStepsWrongFalsely : Prop := fnExactRankStepsRow.holds Try.pinned (OpenSpec.ofChange fnExactRankStepsWrong)

/-- 'laws.FnExactBubble': WHATEVER THE INPUT: true; the input reads as it did. -/
def fnExactBubbleSpec : ChangeSpec := { name := "fnExactBubble", fn := fun _ => fun
  | [d] => { results := [.lit (.bool true)], args := [d] }
  | _ => none }
def fnExactBubbleRow : OpenClaim := { program := "ytijikfllffjdhaa", sum := "6f7d1d944169c32bc6da265e942580e8a8eca0f34ac15125a6bd8b55f4514e59", func := "loop.example/g00663/laws.FnExactBubble", spec := "fnExactBubble", apart := false }
def FnExactBubbleSaid : Prop := fnExactBubbleRow.holds Try.pinned (OpenSpec.ofChange fnExactBubbleSpec)

/-- ITS FALSE NEIGHBOUR: 'it returns false'. Refute it at one input. -/
def fnExactBubbleWrong : ChangeSpec := { name := "fnExactBubble", fn := fun _ => fun
  | [d] => { results := [.lit (.bool false)], args := [d] }
  | _ => none }
def FnExactBubbleWrongFalsely : Prop := fnExactBubbleRow.holds Try.pinned (OpenSpec.ofChange fnExactBubbleWrong)

/-- 'laws.FnExactNetOk': WHATEVER THE INPUT: true; the input reads as it did. -/
def fnExactNetOkSpec : ChangeSpec := { name := "fnExactNetOk", fn := fun _ => fun
  | [d] => { results := [.lit (.bool true)], args := [d] }
  | _ => none }
def fnExactNetOkRow : OpenClaim := { program := "ytijikfllffjdhaa", sum := "6f7d1d944169c32bc6da265e942580e8a8eca0f34ac15125a6bd8b55f4514e59", func := "loop.example/g00663/laws.FnExactNetOk", spec := "fnExactNetOk", unfollowed := true, recurses := true, apart := false }
def FnExactNetOkSaid : Prop := fnExactNetOkRow.holds Try.pinned (OpenSpec.ofChange fnExactNetOkSpec)

/-- ITS FALSE NEIGHBOUR: 'it returns false'. Refute it at one input. -/
def fnExactNetOkWrong : ChangeSpec := { name := "fnExactNetOk", fn := fun _ => fun
  | [d] => { results := [.lit (.bool false)], args := [d] }
  | _ => none }
def FnExactNetOkWrongFalsely : Prop := fnExactNetOkRow.holds Try.pinned (OpenSpec.ofChange fnExactNetOkWrong)

/-- 'laws.FnExactOddEven': WHATEVER THE INPUT: true; the input reads as it did. -/
def fnExactOddEvenSpec : ChangeSpec := { name := "fnExactOddEven", fn := fun _ => fun
  | [d] => { results := [.lit (.bool true)], args := [d] }
  | _ => none }
def fnExactOddEvenRow : OpenClaim := { program := "ytijikfllffjdhaa", sum := "6f7d1d944169c32bc6da265e942580e8a8eca0f34ac15125a6bd8b55f4514e59", func := "loop.example/g00663/laws.FnExactOddEven", spec := "fnExactOddEven", apart := false }
def FnExactOddEvenSaid : Prop := fnExactOddEvenRow.holds Try.pinned (OpenSpec.ofChange fnExactOddEvenSpec)

/-- ITS FALSE NEIGHBOUR: 'it returns false'. Refute it at one input. -/
def fnExactOddEvenWrong : ChangeSpec := { name := "fnExactOddEven", fn := fun _ => fun
  | [d] => { results := [.lit (.bool false)], args := [d] }
  | _ => none }
def FnExactOddEvenWrongFalsely : Prop := fnExactOddEvenRow.holds Try.pinned (OpenSpec.ofChange fnExactOddEvenWrong)

/-- 'laws.FnExactBitonic': WHATEVER THE INPUT: true; the input reads as it did. -/
def fnExactBitonicSpec : ChangeSpec := { name := "fnExactBitonic", fn := fun _ => fun
  | [d] => { results := [.lit (.bool true)], args := [d] }
  | _ => none }
def fnExactBitonicRow : OpenClaim := { program := "ytijikfllffjdhaa", sum := "6f7d1d944169c32bc6da265e942580e8a8eca0f34ac15125a6bd8b55f4514e59", func := "loop.example/g00663/laws.FnExactBitonic", spec := "fnExactBitonic", apart := false }
def FnExactBitonicSaid : Prop := fnExactBitonicRow.holds Try.pinned (OpenSpec.ofChange fnExactBitonicSpec)

/-- ITS FALSE NEIGHBOUR: 'it returns false'. Refute it at one input. -/
def fnExactBitonicWrong : ChangeSpec := { name := "fnExactBitonic", fn := fun _ => fun
  | [d] => { results := [.lit (.bool false)], args := [d] }
  | _ => none }
def FnExactBitonicWrongFalsely : Prop := fnExactBitonicRow.holds Try.pinned (OpenSpec.ofChange fnExactBitonicWrong)

/-- 'laws.FnExactNetDepth': WHATEVER THE INPUT: true; the input reads as it did. -/
def fnExactNetDepthSpec : ChangeSpec := { name := "fnExactNetDepth", fn := fun _ => fun
  | [d] => { results := [.lit (.bool true)], args := [d] }
  | _ => none }
def fnExactNetDepthRow : OpenClaim := { program := "ytijikfllffjdhaa", sum := "6f7d1d944169c32bc6da265e942580e8a8eca0f34ac15125a6bd8b55f4514e59", func := "loop.example/g00663/laws.FnExactNetDepth", spec := "fnExactNetDepth", unfollowed := true, recurses := true, apart := false }
def FnExactNetDepthSaid : Prop := fnExactNetDepthRow.holds Try.pinned (OpenSpec.ofChange fnExactNetDepthSpec)

/-- ITS FALSE NEIGHBOUR: 'it returns false'. Refute it at one input. -/
def fnExactNetDepthWrong : ChangeSpec := { name := "fnExactNetDepth", fn := fun _ => fun
  | [d] => { results := [.lit (.bool false)], args := [d] }
  | _ => none }
def FnExactNetDepthWrongFalsely : Prop := fnExactNetDepthRow.holds Try.pinned (OpenSpec.ofChange fnExactNetDepthWrong)

/-- 'laws.FnNetsSort': WHATEVER THE INPUT: true; the input reads as it did. -/
def fnNetsSortSpec : ChangeSpec := { name := "fnNetsSort", fn := fun _ => fun
  | [d] => { results := [.lit (.bool true)], args := [d] }
  | _ => none }
def fnNetsSortRow : OpenClaim := { program := "ytijikfllffjdhaa", sum := "6f7d1d944169c32bc6da265e942580e8a8eca0f34ac15125a6bd8b55f4514e59", func := "loop.example/g00663/laws.FnNetsSort", spec := "fnNetsSort", unfollowed := true, recurses := true, apart := false }
def FnNetsSortSaid : Prop := fnNetsSortRow.holds Try.pinned (OpenSpec.ofChange fnNetsSortSpec)

/-- ITS FALSE NEIGHBOUR: 'it returns false'. Refute it at one input. -/
def fnNetsSortWrong : ChangeSpec := { name := "fnNetsSort", fn := fun _ => fun
  | [d] => { results := [.lit (.bool false)], args := [d] }
  | _ => none }
def FnNetsSortWrongFalsely : Prop := fnNetsSortRow.holds Try.pinned (OpenSpec.ofChange fnNetsSortWrong)

/-- 'laws.FnExactNetJoin': WHATEVER THE INPUT: true; the input reads as it did. -/
def fnExactNetJoinSpec : ChangeSpec := { name := "fnExactNetJoin", fn := fun _ => fun
  | [d1, d2] => { results := [.lit (.bool true)], args := [d1, d2] }
  | _ => none }
def fnExactNetJoinRow : OpenClaim := { program := "ytijikfllffjdhaa", sum := "6f7d1d944169c32bc6da265e942580e8a8eca0f34ac15125a6bd8b55f4514e59", func := "loop.example/g00663/laws.FnExactNetJoin", spec := "fnExactNetJoin", unfollowed := true, recurses := true, apart := false }
def FnExactNetJoinSaid : Prop := fnExactNetJoinRow.holds Try.pinned (OpenSpec.ofChange fnExactNetJoinSpec)

/-- ITS FALSE NEIGHBOUR: 'it returns false'. Refute it at one input. -/
def fnExactNetJoinWrong : ChangeSpec := { name := "fnExactNetJoin", fn := fun _ => fun
  | [d1, d2] => { results := [.lit (.bool false)], args := [d1, d2] }
  | _ => none }
def FnExactNetJoinWrongFalsely : Prop := fnExactNetJoinRow.holds Try.pinned (OpenSpec.ofChange fnExactNetJoinWrong)

/-- 'laws.FnExactNetRun': WHATEVER THE INPUT: true; the input reads as it did. -/
def fnExactNetRunSpec : ChangeSpec := { name := "fnExactNetRun", fn := fun _ => fun
  | [d1, d2] => { results := [.lit (.bool true)], args := [d1, d2] }
  | _ => none }
def fnExactNetRunRow : OpenClaim := { program := "ytijikfllffjdhaa", sum := "6f7d1d944169c32bc6da265e942580e8a8eca0f34ac15125a6bd8b55f4514e59", func := "loop.example/g00663/laws.FnExactNetRun", spec := "fnExactNetRun", unfollowed := true, recurses := true, apart := false }
def FnExactNetRunSaid : Prop := fnExactNetRunRow.holds Try.pinned (OpenSpec.ofChange fnExactNetRunSpec)

/-- ITS FALSE NEIGHBOUR: 'it returns false'. Refute it at one input. -/
def fnExactNetRunWrong : ChangeSpec := { name := "fnExactNetRun", fn := fun _ => fun
  | [d1, d2] => { results := [.lit (.bool false)], args := [d1, d2] }
  | _ => none }
def FnExactNetRunWrongFalsely : Prop := fnExactNetRunRow.holds Try.pinned (OpenSpec.ofChange fnExactNetRunWrong)

/-- 'laws.FnExactNetSorts': WHATEVER THE INPUT: true; the input reads as it did. -/
def fnExactNetSortsSpec : ChangeSpec := { name := "fnExactNetSorts", fn := fun _ => fun
  | [d] => { results := [.lit (.bool true)], args := [d] }
  | _ => none }
def fnExactNetSortsRow : OpenClaim := { program := "ytijikfllffjdhaa", sum := "6f7d1d944169c32bc6da265e942580e8a8eca0f34ac15125a6bd8b55f4514e59", func := "loop.example/g00663/laws.FnExactNetSorts", spec := "fnExactNetSorts", unfollowed := true, recurses := true, apart := false }
def FnExactNetSortsSaid : Prop := fnExactNetSortsRow.holds Try.pinned (OpenSpec.ofChange fnExactNetSortsSpec)

/-- ITS FALSE NEIGHBOUR: 'it returns false'. Refute it at one input. -/
def fnExactNetSortsWrong : ChangeSpec := { name := "fnExactNetSorts", fn := fun _ => fun
  | [d] => { results := [.lit (.bool false)], args := [d] }
  | _ => none }
def FnExactNetSortsWrongFalsely : Prop := fnExactNetSortsRow.holds Try.pinned (OpenSpec.ofChange fnExactNetSortsWrong)

/-- 'laws.FnExactNetFault': WHATEVER THE INPUT: true; the input reads as it did. -/
def fnExactNetFaultSpec : ChangeSpec := { name := "fnExactNetFault", fn := fun _ => fun
  | [d] => { results := [.lit (.bool true)], args := [d] }
  | _ => none }
def fnExactNetFaultRow : OpenClaim := { program := "ytijikfllffjdhaa", sum := "6f7d1d944169c32bc6da265e942580e8a8eca0f34ac15125a6bd8b55f4514e59", func := "loop.example/g00663/laws.FnExactNetFault", spec := "fnExactNetFault", unfollowed := true, recurses := true, apart := false }
def FnExactNetFaultSaid : Prop := fnExactNetFaultRow.holds Try.pinned (OpenSpec.ofChange fnExactNetFaultSpec)

/-- ITS FALSE NEIGHBOUR: 'it returns false'. Refute it at one input. -/
def fnExactNetFaultWrong : ChangeSpec := { name := "fnExactNetFault", fn := fun _ => fun
  | [d] => { results := [.lit (.bool false)], args := [d] }
  | _ => none }
def FnExactNetFaultWrongFalsely : Prop := fnExactNetFaultRow.holds Try.pinned (OpenSpec.ofChange fnExactNetFaultWrong)

/-- 'laws.FnNetJoin': WHATEVER THE INPUT: true; the input reads as it did. -/
def fnNetJoinSpec : ChangeSpec := { name := "fnNetJoin", fn := fun _ => fun
  | [d] => { results := [.lit (.bool true)], args := [d] }
  | _ => none }
def fnNetJoinRow : OpenClaim := { program := "ytijikfllffjdhaa", sum := "6f7d1d944169c32bc6da265e942580e8a8eca0f34ac15125a6bd8b55f4514e59", func := "loop.example/g00663/laws.FnNetJoin", spec := "fnNetJoin", unfollowed := true, recurses := true, apart := false }
def FnNetJoinSaid : Prop := fnNetJoinRow.holds Try.pinned (OpenSpec.ofChange fnNetJoinSpec)

/-- ITS FALSE NEIGHBOUR: 'it returns false'. Refute it at one input. -/
def fnNetJoinWrong : ChangeSpec := { name := "fnNetJoin", fn := fun _ => fun
  | [d] => { results := [.lit (.bool false)], args := [d] }
  | _ => none }
def FnNetJoinWrongFalsely : Prop := fnNetJoinRow.holds Try.pinned (OpenSpec.ofChange fnNetJoinWrong)

/-- 'laws.FnZeroOne': WHATEVER THE INPUT: true; the input reads as it did. -/
def fnZeroOneSpec : ChangeSpec := { name := "fnZeroOne", fn := fun _ => fun
  | [d] => { results := [.lit (.bool true)], args := [d] }
  | _ => none }
def fnZeroOneRow : OpenClaim := { program := "ytijikfllffjdhaa", sum := "6f7d1d944169c32bc6da265e942580e8a8eca0f34ac15125a6bd8b55f4514e59", func := "loop.example/g00663/laws.FnZeroOne", spec := "fnZeroOne", unfollowed := true, recurses := true, apart := false }
def FnZeroOneSaid : Prop := fnZeroOneRow.holds Try.pinned (OpenSpec.ofChange fnZeroOneSpec)

/-- ITS FALSE NEIGHBOUR: 'it returns false'. Refute it at one input. -/
def fnZeroOneWrong : ChangeSpec := { name := "fnZeroOne", fn := fun _ => fun
  | [d] => { results := [.lit (.bool false)], args := [d] }
  | _ => none }
def FnZeroOneWrongFalsely : Prop := fnZeroOneRow.holds Try.pinned (OpenSpec.ofChange fnZeroOneWrong)

/- THE SECOND FORM. 'bulk': how many values and letters a reading holds, each counted each time it is reached (what is shared counts as often as it is met; a slice's spare places count too). A statement '..UptoSaid' is the law's where the arguments, and the package variables that the reading takes, are together of bulk at most 1048576: NARROWER than '..Said'. Prove '..Said' where nothing that the law and all that it calls make is longer than what came in: it says more and counts as full. Else prove '..UptoSaid'. A law counts once. -/
mutual
def uptoBulk {H : Type} : DataW H → Nat
  | .lit (.string bytes) => bytes.length + 1
  | .lit _ => 1
  | .nil => 1
  | .ptr d => uptoBulk d + 1
  | .slice elems spare => uptoBulkAll elems + uptoBulkAll spare + 1
  | .agg parts => uptoBulkAll parts + 1
  | .iface _ d => uptoBulk d + 1
  | .map entries => uptoBulkEntries entries + 1
  | .held _ => 1
def uptoBulkAll {H : Type} : List (DataW H) → Nat
  | [] => 0
  | d :: r => uptoBulk d + uptoBulkAll r
def uptoBulkEntries {H : Type} : List (Lit × DataW H) → Nat
  | [] => 0
  | x :: r => uptoBulkEntry x + uptoBulkEntries r
def uptoBulkEntry {H : Type} : Lit × DataW H → Nat
  | (.string bytes, d) => bytes.length + uptoBulk d + 1
  | (_, d) => uptoBulk d + 1
 end
def uptoSmall : (H : Type) → List (DataW H) → Bool := fun _ ds => decide (uptoBulkAll ds ≤ 1048576)
def OpenSpec.upto (s : _root_.Go.ChangeSpec) : _root_.Go.OpenSpec := { _root_.Go.OpenSpec.ofChange s with cond := some uptoSmall }

/-- 'laws.FnExactRankSteps', WHERE WHAT IT READS IS OF BULK AT MOST 1048576: true; the input reads as it did. -/
def fnExactRankStepsUptoRow : OpenClaim := { program := "ytijikfllffjdhaa", sum := "6f7d1d944169c32bc6da265e942580e8a8eca0f34ac15125a6bd8b55f4514e59", func := "loop.example/g00663/laws.FnExactRankSteps", spec := "fnExactRankSteps", apart := false, narrowed := true }
def FnExactRankStepsUptoSaid : Prop := fnExactRankStepsUptoRow.holds Try.pinned (OpenSpec.upto fnExactRankStepsSpec)

/-- 'laws.FnExactBubble', WHERE WHAT IT READS IS OF BULK AT MOST 1048576: true; the input reads as it did. -/
def fnExactBubbleUptoRow : OpenClaim := { program := "ytijikfllffjdhaa", sum := "6f7d1d944169c32bc6da265e942580e8a8eca0f34ac15125a6bd8b55f4514e59", func := "loop.example/g00663/laws.FnExactBubble", spec := "fnExactBubble", apart := false, narrowed := true }
def FnExactBubbleUptoSaid : Prop := fnExactBubbleUptoRow.holds Try.pinned (OpenSpec.upto fnExactBubbleSpec)

/-- 'laws.FnExactNetOk', WHERE WHAT IT READS IS OF BULK AT MOST 1048576: true; the input reads as it did. -/
def fnExactNetOkUptoRow : OpenClaim := { program := "ytijikfllffjdhaa", sum := "6f7d1d944169c32bc6da265e942580e8a8eca0f34ac15125a6bd8b55f4514e59", func := "loop.example/g00663/laws.FnExactNetOk", spec := "fnExactNetOk", unfollowed := true, recurses := true, apart := false, narrowed := true }
def FnExactNetOkUptoSaid : Prop := fnExactNetOkUptoRow.holds Try.pinned (OpenSpec.upto fnExactNetOkSpec)

/-- 'laws.FnExactOddEven', WHERE WHAT IT READS IS OF BULK AT MOST 1048576: true; the input reads as it did. -/
def fnExactOddEvenUptoRow : OpenClaim := { program := "ytijikfllffjdhaa", sum := "6f7d1d944169c32bc6da265e942580e8a8eca0f34ac15125a6bd8b55f4514e59", func := "loop.example/g00663/laws.FnExactOddEven", spec := "fnExactOddEven", apart := false, narrowed := true }
def FnExactOddEvenUptoSaid : Prop := fnExactOddEvenUptoRow.holds Try.pinned (OpenSpec.upto fnExactOddEvenSpec)

/-- 'laws.FnExactBitonic', WHERE WHAT IT READS IS OF BULK AT MOST 1048576: true; the input reads as it did. -/
def fnExactBitonicUptoRow : OpenClaim := { program := "ytijikfllffjdhaa", sum := "6f7d1d944169c32bc6da265e942580e8a8eca0f34ac15125a6bd8b55f4514e59", func := "loop.example/g00663/laws.FnExactBitonic", spec := "fnExactBitonic", apart := false, narrowed := true }
def FnExactBitonicUptoSaid : Prop := fnExactBitonicUptoRow.holds Try.pinned (OpenSpec.upto fnExactBitonicSpec)

/-- 'laws.FnExactNetDepth', WHERE WHAT IT READS IS OF BULK AT MOST 1048576: true; the input reads as it did. -/
def fnExactNetDepthUptoRow : OpenClaim := { program := "ytijikfllffjdhaa", sum := "6f7d1d944169c32bc6da265e942580e8a8eca0f34ac15125a6bd8b55f4514e59", func := "loop.example/g00663/laws.FnExactNetDepth", spec := "fnExactNetDepth", unfollowed := true, recurses := true, apart := false, narrowed := true }
def FnExactNetDepthUptoSaid : Prop := fnExactNetDepthUptoRow.holds Try.pinned (OpenSpec.upto fnExactNetDepthSpec)

/-- 'laws.FnNetsSort', WHERE WHAT IT READS IS OF BULK AT MOST 1048576: true; the input reads as it did. -/
def fnNetsSortUptoRow : OpenClaim := { program := "ytijikfllffjdhaa", sum := "6f7d1d944169c32bc6da265e942580e8a8eca0f34ac15125a6bd8b55f4514e59", func := "loop.example/g00663/laws.FnNetsSort", spec := "fnNetsSort", unfollowed := true, recurses := true, apart := false, narrowed := true }
def FnNetsSortUptoSaid : Prop := fnNetsSortUptoRow.holds Try.pinned (OpenSpec.upto fnNetsSortSpec)

/-- 'laws.FnExactNetJoin', WHERE WHAT IT READS IS OF BULK AT MOST 1048576: true; the input reads as it did. -/
def fnExactNetJoinUptoRow : OpenClaim := { program := "ytijikfllffjdhaa", sum := "6f7d1d944169c32bc6da265e942580e8a8eca0f34ac15125a6bd8b55f4514e59", func := "loop.example/g00663/laws.FnExactNetJoin", spec := "fnExactNetJoin", unfollowed := true, recurses := true, apart := false, narrowed := true }
def FnExactNetJoinUptoSaid : Prop := fnExactNetJoinUptoRow.holds Try.pinned (OpenSpec.upto fnExactNetJoinSpec)

/-- 'laws.FnExactNetRun', WHERE WHAT IT READS IS OF BULK AT MOST 1048576: true; the input reads as it did. -/
def fnExactNetRunUptoRow : OpenClaim := { program := "ytijikfllffjdhaa", sum := "6f7d1d944169c32bc6da265e942580e8a8eca0f34ac15125a6bd8b55f4514e59", func := "loop.example/g00663/laws.FnExactNetRun", spec := "fnExactNetRun", unfollowed := true, recurses := true, apart := false, narrowed := true }
def FnExactNetRunUptoSaid : Prop := fnExactNetRunUptoRow.holds Try.pinned (OpenSpec.upto fnExactNetRunSpec)

/-- 'laws.FnExactNetSorts', WHERE WHAT IT READS IS OF BULK AT MOST 1048576: true; the input reads as it did. -/
def fnExactNetSortsUptoRow : OpenClaim := { program := "ytijikfllffjdhaa", sum := "6f7d1d944169c32bc6da265e942580e8a8eca0f34ac15125a6bd8b55f4514e59", func := "loop.example/g00663/laws.FnExactNetSorts", spec := "fnExactNetSorts", unfollowed := true, recurses := true, apart := false, narrowed := true }
def FnExactNetSortsUptoSaid : Prop := fnExactNetSortsUptoRow.holds Try.pinned (OpenSpec.upto fnExactNetSortsSpec)

/-- 'laws.FnExactNetFault', WHERE WHAT IT READS IS OF BULK AT MOST 1048576: true; the input reads as it did. -/
def fnExactNetFaultUptoRow : OpenClaim := { program := "ytijikfllffjdhaa", sum := "6f7d1d944169c32bc6da265e942580e8a8eca0f34ac15125a6bd8b55f4514e59", func := "loop.example/g00663/laws.FnExactNetFault", spec := "fnExactNetFault", unfollowed := true, recurses := true, apart := false, narrowed := true }
def FnExactNetFaultUptoSaid : Prop := fnExactNetFaultUptoRow.holds Try.pinned (OpenSpec.upto fnExactNetFaultSpec)

/-- 'laws.FnNetJoin', WHERE WHAT IT READS IS OF BULK AT MOST 1048576: true; the input reads as it did. -/
def fnNetJoinUptoRow : OpenClaim := { program := "ytijikfllffjdhaa", sum := "6f7d1d944169c32bc6da265e942580e8a8eca0f34ac15125a6bd8b55f4514e59", func := "loop.example/g00663/laws.FnNetJoin", spec := "fnNetJoin", unfollowed := true, recurses := true, apart := false, narrowed := true }
def FnNetJoinUptoSaid : Prop := fnNetJoinUptoRow.holds Try.pinned (OpenSpec.upto fnNetJoinSpec)

/-- 'laws.FnZeroOne', WHERE WHAT IT READS IS OF BULK AT MOST 1048576: true; the input reads as it did. -/
def fnZeroOneUptoRow : OpenClaim := { program := "ytijikfllffjdhaa", sum := "6f7d1d944169c32bc6da265e942580e8a8eca0f34ac15125a6bd8b55f4514e59", func := "loop.example/g00663/laws.FnZeroOne", spec := "fnZeroOne", unfollowed := true, recurses := true, apart := false, narrowed := true }
def FnZeroOneUptoSaid : Prop := fnZeroOneUptoRow.holds Try.pinned (OpenSpec.upto fnZeroOneSpec)

end Rows
end Go.Proofs.Ytijikfllffjdhaa

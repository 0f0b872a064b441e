/-
  No cell of these rows narrows 'for every input' (looked for: loops, veiled, ifaces, maps, wideKeys, modest, calm, conditions, laid).
  DERIVED. THE GIVEN ROWS OF THIS SEAT. 4 by the template 'for every input the law returns true; each argument reads behind the call as it read before'; 0 by the template 'total and deterministic' (their statements: YtekfpjblakindaaTotals.lean).
  GIVEN WITH THE SEED: the statements are not yours to turn. If you find one false, say at which input.
  Laid BY PROGRAM, IN A SANDBOX (cutbox-rows.mjs): the forced cells as the released guide's own fill.sh prints them over the translation df09813444fb87ba… (all of the seat's roots in one cut). By AI agents, Wed Nov 11 2026. No macro, syntax, notation, axiom, sorry.
-/
import Derived.Test.YtekfpjblakindaaChecked
import GoSem.Claim
import GoSem.ClaimJoined
import GoSem.ClaimMapViews
import Derived.JoinedTies
import Derived.KernelRfl
namespace Go.Proofs.Ytekfpjblakindaa
/- THE CELL 'sum', in the pinned program and in every row, IS THE sha256 OF THE DUMP (.gsa) THAT YtekfpjblakindaaProg.lean LOADS. Nothing in Lean hashes anything: it is a label: what it is worth is what the hold of that sum in a sandbox is worth. -/
noncomputable def Try.pinned : Pinned := { name := "ytekfpjblakindaa", sum := "df09813444fb87bac09bfe147d2e3a84503591af112d4a89b5d3cb8152000478", checked := Try.checked }
namespace Rows
def none {H : Type} : Left H := { results := [], args := [] }

/-- 'laws.FnNetsSort': WHATEVER THE INPUT: true; the input reads as it did. -/
def fnNetsSortSpec : ChangeSpec := { name := "fnNetsSort", fn := fun _ => fun
  | [d] => { results := [.lit (.bool true)], args := [d] }
  | _ => none }
def fnNetsSortRow : OpenClaim := { program := "ytekfpjblakindaa", sum := "df09813444fb87bac09bfe147d2e3a84503591af112d4a89b5d3cb8152000478", func := "loop.example/g00663/laws.FnNetsSort", spec := "fnNetsSort", unfollowed := true, recurses := true, apart := false }
def FnNetsSortSaid : Prop := fnNetsSortRow.holds Try.pinned (OpenSpec.ofChange fnNetsSortSpec)

/-- ITS FALSE NEIGHBOUR: 'it returns false'. Refute it at one input. -/
def fnNetsSortWrong : ChangeSpec := { name := "fnNetsSort", fn := fun _ => fun
  | [d] => { results := [.lit (.bool false)], args := [d] }
  | _ => none }
def FnNetsSortWrongFalsely : Prop := fnNetsSortRow.holds Try.pinned (OpenSpec.ofChange fnNetsSortWrong)

/-- 'laws.FnExactNetJoin': WHATEVER THE INPUT: true; the input reads as it did. -/
def fnExactNetJoinSpec : ChangeSpec := { name := "fnExactNetJoin", fn := fun _ => fun
  | [d1, d2] => { results := [.lit (.bool true)], args := [d1, d2] }
  | _ => none }
def fnExactNetJoinRow : OpenClaim := { program := "ytekfpjblakindaa", sum := "df09813444fb87bac09bfe147d2e3a84503591af112d4a89b5d3cb8152000478", func := "loop.example/g00663/laws.FnExactNetJoin", spec := "fnExactNetJoin", unfollowed := true, recurses := true, apart := false }
def FnExactNetJoinSaid : Prop := fnExactNetJoinRow.holds Try.pinned (OpenSpec.ofChange fnExactNetJoinSpec)

/-- ITS FALSE NEIGHBOUR: 'it returns false'. Refute it at one input. -/
def fnExactNetJoinWrong : ChangeSpec := { name := "fnExactNetJoin", fn := fun _ => fun
  | [d1, d2] => { results := [.lit (.bool false)], args := [d1, d2] }
  | _ => none }
def FnExactNetJoinWrongFalsely : Prop := fnExactNetJoinRow.holds Try.pinned (OpenSpec.ofChange fnExactNetJoinWrong)

/-- 'laws.FnNetJoin': WHATEVER THE INPUT: true; the input reads as it did. -/
def fnNetJoinSpec : ChangeSpec := { name := "fnNetJoin", fn := fun _ => fun
  | [d] => { results := [.lit (.bool true)], args := [d] }
  | _ => none }
def fnNetJoinRow : OpenClaim := { program := "ytekfpjblakindaa", sum := "df09813444fb87bac09bfe147d2e3a84503591af112d4a89b5d3cb8152000478", func := "loop.example/g00663/laws.FnNetJoin", spec := "fnNetJoin", unfollowed := true, recurses := true, apart := false }
def FnNetJoinSaid : Prop := fnNetJoinRow.holds Try.pinned (OpenSpec.ofChange fnNetJoinSpec)

/-- ITS FALSE NEIGHBOUR: 'it returns false'. Refute it at one input. -/
def fnNetJoinWrong : ChangeSpec := { name := "fnNetJoin", fn := fun _ => fun
  | [d] => { results := [.lit (.bool false)], args := [d] }
  | _ => none }
def FnNetJoinWrongFalsely : Prop := fnNetJoinRow.holds Try.pinned (OpenSpec.ofChange fnNetJoinWrong)

/-- 'laws.FnZeroOne': WHATEVER THE INPUT: true; the input reads as it did. -/
def fnZeroOneSpec : ChangeSpec := { name := "fnZeroOne", fn := fun _ => fun
  | [d] => { results := [.lit (.bool true)], args := [d] }
  | _ => none }
def fnZeroOneRow : OpenClaim := { program := "ytekfpjblakindaa", sum := "df09813444fb87bac09bfe147d2e3a84503591af112d4a89b5d3cb8152000478", func := "loop.example/g00663/laws.FnZeroOne", spec := "fnZeroOne", unfollowed := true, recurses := true, apart := false }
def FnZeroOneSaid : Prop := fnZeroOneRow.holds Try.pinned (OpenSpec.ofChange fnZeroOneSpec)

/-- ITS FALSE NEIGHBOUR: 'it returns false'. Refute it at one input. -/
def fnZeroOneWrong : ChangeSpec := { name := "fnZeroOne", fn := fun _ => fun
  | [d] => { results := [.lit (.bool false)], args := [d] }
  | _ => none }
def FnZeroOneWrongFalsely : Prop := fnZeroOneRow.holds Try.pinned (OpenSpec.ofChange fnZeroOneWrong)

/- THE SECOND FORM. 'bulk': how many values and letters a reading holds, each counted each time it is reached (what is shared counts as often as it is met; a slice's spare places count too). A statement '..UptoSaid' is the law's where the arguments, and the package variables that the reading takes, are together of bulk at most 1048576: NARROWER than '..Said'. Prove '..Said' where nothing that the law and all that it calls make is longer than what came in: it says more and counts as full. Else prove '..UptoSaid'. A law counts once. -/
mutual
def uptoBulk {H : Type} : DataW H → Nat
  | .lit (.string bytes) => bytes.length + 1
  | .lit _ => 1
  | .nil => 1
  | .ptr d => uptoBulk d + 1
  | .slice elems spare => uptoBulkAll elems + uptoBulkAll spare + 1
  | .agg parts => uptoBulkAll parts + 1
  | .iface _ d => uptoBulk d + 1
  | .map entries => uptoBulkEntries entries + 1
  | .held _ => 1
def uptoBulkAll {H : Type} : List (DataW H) → Nat
  | [] => 0
  | d :: r => uptoBulk d + uptoBulkAll r
def uptoBulkEntries {H : Type} : List (Lit × DataW H) → Nat
  | [] => 0
  | x :: r => uptoBulkEntry x + uptoBulkEntries r
def uptoBulkEntry {H : Type} : Lit × DataW H → Nat
  | (.string bytes, d) => bytes.length + uptoBulk d + 1
  | (_, d) => uptoBulk d + 1
 end
def uptoSmall : (H : Type) → List (DataW H) → Bool := fun _ ds => decide (uptoBulkAll ds ≤ 1048576)
def OpenSpec.upto (s : _root_.Go.ChangeSpec) : _root_.Go.OpenSpec := { _root_.Go.OpenSpec.ofChange s with cond := some uptoSmall }

/-- 'laws.FnNetsSort', WHERE WHAT IT READS IS OF BULK AT MOST 1048576: true; the input reads as it did. -/
def fnNetsSortUptoRow : OpenClaim := { program := "ytekfpjblakindaa", sum := "df09813444fb87bac09bfe147d2e3a84503591af112d4a89b5d3cb8152000478", func := "loop.example/g00663/laws.FnNetsSort", spec := "fnNetsSort", unfollowed := true, recurses := true, apart := false, narrowed := true }
def FnNetsSortUptoSaid : Prop := fnNetsSortUptoRow.holds Try.pinned (OpenSpec.upto fnNetsSortSpec)

/-- 'laws.FnExactNetJoin', WHERE WHAT IT READS IS OF BULK AT MOST 1048576: true; the input reads as it did. -/
def fnExactNetJoinUptoRow : OpenClaim := { program := "ytekfpjblakindaa", sum := "df09813444fb87bac09bfe147d2e3a84503591af112d4a89b5d3cb8152000478", func := "loop.example/g00663/laws.FnExactNetJoin", spec := "fnExactNetJoin", unfollowed := true, recurses := true, apart := false, narrowed := true }
def FnExactNetJoinUptoSaid : Prop := fnExactNetJoinUptoRow.holds Try.pinned (OpenSpec.upto fnExactNetJoinSpec)

/-- 'laws.FnNetJoin', WHERE WHAT IT READS IS OF BULK AT MOST 1048576: true; the input reads as it did. -/
def fnNetJoinUptoRow : OpenClaim := { program := "ytekfpjblakindaa", sum := "df09813444fb87bac09bfe147d2e3a84503591af112d4a89b5d3cb8152000478", func := "loop.example/g00663/laws.FnNetJoin", spec := "fnNetJoin", unfollowed := true, recurses := true, apart := false, narrowed := true }
def FnNetJoinUptoSaid : Prop := fnNetJoinUptoRow.holds Try.pinned (OpenSpec.upto fnNetJoinSpec)

/-- 'laws.FnZeroOne', WHERE WHAT IT READS IS OF BULK AT MOST 1048576: true; the input reads as it did. -/
def fnZeroOneUptoRow : OpenClaim := { program := "ytekfpjblakindaa", sum := "df09813444fb87bac09bfe147d2e3a84503591af112d4a89b5d3cb8152000478", func := "loop.example/g00663/laws.FnZeroOne", spec := "fnZeroOne", unfollowed := true, recurses := true, apart := false, narrowed := true }
def FnZeroOneUptoSaid : Prop := fnZeroOneUptoRow.holds Try.pinned (OpenSpec.upto fnZeroOneSpec)

end Rows
end Go.Proofs.Ytekfpjblakindaa

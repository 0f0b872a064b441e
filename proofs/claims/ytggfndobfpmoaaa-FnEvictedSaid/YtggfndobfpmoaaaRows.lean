/-
  No cell of these rows narrows 'for every input' (looked for: loops, veiled, ifaces, maps, wideKeys, modest, calm, conditions, laid).
  DERIVED. THE GIVEN ROWS OF THIS SEAT. 6 by the template 'for every input the law returns true; each argument reads behind the call as it read before'; 0 by the template 'total and deterministic' (their statements: YtggfndobfpmoaaaTotals.lean).
  GIVEN WITH THE SEED: the statements are not yours to turn. If you find one false, say at which input.
  Laid BY PROGRAM, IN A SANDBOX (cutbox-rows.mjs): the forced cells as the released guide's own fill.sh prints them over the translation fafbafda09221402… (all of the seat's roots in one cut). By AI agents, Wed Nov 11 2026. No macro, syntax, notation, axiom, sorry.
-/
import Derived.Test.YtggfndobfpmoaaaChecked
import GoSem.Claim
import GoSem.ClaimJoined
import GoSem.ClaimMapViews
import Derived.JoinedTies
import Derived.KernelRfl
namespace Go.Proofs.Ytggfndobfpmoaaa
/- THE CELL 'sum', in the pinned program and in every row, IS THE sha256 OF THE DUMP (.gsa) THAT YtggfndobfpmoaaaProg.lean LOADS. Nothing in Lean hashes anything: it is a label: what it is worth is what the hold of that sum in a sandbox is worth. -/
noncomputable def Try.pinned : Pinned := { name := "ytggfndobfpmoaaa", sum := "fafbafda0922140299a024063850a961298f66cf2711be08a1f7c90451b7ac27", checked := Try.checked }
namespace Rows
def none {H : Type} : Left H := { results := [], args := [] }

/-- 'laws.FnExactStashFind': WHATEVER THE INPUT: true; the input reads as it did. -/
def fnExactStashFindSpec : ChangeSpec := { name := "fnExactStashFind", fn := fun _ => fun
  | [d1, d2] => { results := [.lit (.bool true)], args := [d1, d2] }
  | _ => none }
def fnExactStashFindRow : OpenClaim := { program := "ytggfndobfpmoaaa", sum := "fafbafda0922140299a024063850a961298f66cf2711be08a1f7c90451b7ac27", func := "loop.example/g00663/laws.FnExactStashFind", spec := "fnExactStashFind", unfollowed := true, recurses := true, apart := false }
def FnExactStashFindSaid : Prop := fnExactStashFindRow.holds Try.pinned (OpenSpec.ofChange fnExactStashFindSpec)

/-- ITS FALSE NEIGHBOUR: 'it returns false'. Refute it at one input. -/
def fnExactStashFindWrong : ChangeSpec := { name := "fnExactStashFind", fn := fun _ => fun
  | [d1, d2] => { results := [.lit (.bool false)], args := [d1, d2] }
  | _ => none }
def FnExactStashFindWrongFalsely : Prop := fnExactStashFindRow.holds Try.pinned (OpenSpec.ofChange fnExactStashFindWrong)

/-- 'laws.FnNodeBack': WHATEVER THE INPUT: true; the input reads as it did. -/
def fnNodeBackSpec : ChangeSpec := { name := "fnNodeBack", fn := fun _ => fun
  | [d] => { results := [.lit (.bool true)], args := [d] }
  | _ => none }
def fnNodeBackRow : OpenClaim := { program := "ytggfndobfpmoaaa", sum := "fafbafda0922140299a024063850a961298f66cf2711be08a1f7c90451b7ac27", func := "loop.example/g00663/laws.FnNodeBack", spec := "fnNodeBack", apart := false }
def FnNodeBackSaid : Prop := fnNodeBackRow.holds Try.pinned (OpenSpec.ofChange fnNodeBackSpec)

/-- ITS FALSE NEIGHBOUR: 'it returns false'. Refute it at one input. -/
def fnNodeBackWrong : ChangeSpec := { name := "fnNodeBack", fn := fun _ => fun
  | [d] => { results := [.lit (.bool false)], args := [d] }
  | _ => none }
def FnNodeBackWrongFalsely : Prop := fnNodeBackRow.holds Try.pinned (OpenSpec.ofChange fnNodeBackWrong)

/-- 'laws.FnExactNodeOf': WHATEVER THE INPUT: true; the input reads as it did. -/
def fnExactNodeOfSpec : ChangeSpec := { name := "fnExactNodeOf", fn := fun _ => fun
  | [d1, d2, d3] => { results := [.lit (.bool true)], args := [d1, d2, d3] }
  | _ => none }
def fnExactNodeOfRow : OpenClaim := { program := "ytggfndobfpmoaaa", sum := "fafbafda0922140299a024063850a961298f66cf2711be08a1f7c90451b7ac27", func := "loop.example/g00663/laws.FnExactNodeOf", spec := "fnExactNodeOf", apart := false }
def FnExactNodeOfSaid : Prop := fnExactNodeOfRow.holds Try.pinned (OpenSpec.ofChange fnExactNodeOfSpec)

/-- ITS FALSE NEIGHBOUR: 'it returns false'. Refute it at one input. -/
def fnExactNodeOfWrong : ChangeSpec := { name := "fnExactNodeOf", fn := fun _ => fun
  | [d1, d2, d3] => { results := [.lit (.bool false)], args := [d1, d2, d3] }
  | _ => none }
def FnExactNodeOfWrongFalsely : Prop := fnExactNodeOfRow.holds Try.pinned (OpenSpec.ofChange fnExactNodeOfWrong)

/-- 'laws.FnExactNodeRead': WHATEVER THE INPUT: true; the input reads as it did. -/
def fnExactNodeReadSpec : ChangeSpec := { name := "fnExactNodeRead", fn := fun _ => fun
  | [d1, d2, d3] => { results := [.lit (.bool true)], args := [d1, d2, d3] }
  | _ => none }
def fnExactNodeReadRow : OpenClaim := { program := "ytggfndobfpmoaaa", sum := "fafbafda0922140299a024063850a961298f66cf2711be08a1f7c90451b7ac27", func := "loop.example/g00663/laws.FnExactNodeRead", spec := "fnExactNodeRead", apart := false }
def FnExactNodeReadSaid : Prop := fnExactNodeReadRow.holds Try.pinned (OpenSpec.ofChange fnExactNodeReadSpec)

/-- ITS FALSE NEIGHBOUR: 'it returns false'. Refute it at one input. -/
def fnExactNodeReadWrong : ChangeSpec := { name := "fnExactNodeRead", fn := fun _ => fun
  | [d1, d2, d3] => { results := [.lit (.bool false)], args := [d1, d2, d3] }
  | _ => none }
def FnExactNodeReadWrongFalsely : Prop := fnExactNodeReadRow.holds Try.pinned (OpenSpec.ofChange fnExactNodeReadWrong)

/-- 'laws.FnExactStashDrop': WHATEVER THE INPUT: true; the input reads as it did. -/
def fnExactStashDropSpec : ChangeSpec := { name := "fnExactStashDrop", fn := fun _ => fun
  | [d1, d2] => { results := [.lit (.bool true)], args := [d1, d2] }
  | _ => none }
def fnExactStashDropRow : OpenClaim := { program := "ytggfndobfpmoaaa", sum := "fafbafda0922140299a024063850a961298f66cf2711be08a1f7c90451b7ac27", func := "loop.example/g00663/laws.FnExactStashDrop", spec := "fnExactStashDrop", unfollowed := true, recurses := true, apart := false }
def FnExactStashDropSaid : Prop := fnExactStashDropRow.holds Try.pinned (OpenSpec.ofChange fnExactStashDropSpec)

/-- ITS FALSE NEIGHBOUR: 'it returns false'. Refute it at one input. -/
def fnExactStashDropWrong : ChangeSpec := { name := "fnExactStashDrop", fn := fun _ => fun
  | [d1, d2] => { results := [.lit (.bool false)], args := [d1, d2] }
  | _ => none }
def FnExactStashDropWrongFalsely : Prop := fnExactStashDropRow.holds Try.pinned (OpenSpec.ofChange fnExactStashDropWrong)

/-- 'laws.FnEvicted': WHATEVER THE INPUT: true; the input reads as it did. -/
def fnEvictedSpec : ChangeSpec := { name := "fnEvicted", fn := fun _ => fun
  | [d] => { results := [.lit (.bool true)], args := [d] }
  | _ => none }
def fnEvictedRow : OpenClaim := { program := "ytggfndobfpmoaaa", sum := "fafbafda0922140299a024063850a961298f66cf2711be08a1f7c90451b7ac27", func := "loop.example/g00663/laws.FnEvicted", spec := "fnEvicted", unfollowed := true, recurses := true, apart := false }
def FnEvictedSaid : Prop := fnEvictedRow.holds Try.pinned (OpenSpec.ofChange fnEvictedSpec)

/-- ITS FALSE NEIGHBOUR: 'it returns false'. Refute it at one input. -/
def fnEvictedWrong : ChangeSpec := { name := "fnEvicted", fn := fun _ => fun
  | [d] => { results := [.lit (.bool false)], args := [d] }
  | _ => none }
def FnEvictedWrongFalsely : Prop := fnEvictedRow.holds Try.pinned (OpenSpec.ofChange fnEvictedWrong)

/- THE SECOND FORM. 'bulk': how many values and letters a reading holds, each counted each time it is reached (what is shared counts as often as it is met; a slice's spare places count too). A statement '..UptoSaid' is the law's where the arguments, and the package variables that the reading takes, are together of bulk at most 1048576: NARROWER than '..Said'. Prove '..Said' where nothing that the law and all that it calls make is longer than what came in: it says more and counts as full. Else prove '..UptoSaid'. A law counts once. -/
mutual
def uptoBulk {H : Type} : DataW H → Nat
  | .lit (.string bytes) => bytes.length + 1
  | .lit _ => 1
  | .nil => 1
  | .ptr d => uptoBulk d + 1
  | .slice elems spare => uptoBulkAll elems + uptoBulkAll spare + 1
  | .agg parts => uptoBulkAll parts + 1
  | .iface _ d => uptoBulk d + 1
  | .map entries => uptoBulkEntries entries + 1
  | .held _ => 1
def uptoBulkAll {H : Type} : List (DataW H) → Nat
  | [] => 0
  | d :: r => uptoBulk d + uptoBulkAll r
def uptoBulkEntries {H : Type} : List (Lit × DataW H) → Nat
  | [] => 0
  | x :: r => uptoBulkEntry x + uptoBulkEntries r
def uptoBulkEntry {H : Type} : Lit × DataW H → Nat
  | (.string bytes, d) => bytes.length + uptoBulk d + 1
  | (_, d) => uptoBulk d + 1
 end
def uptoSmall : (H : Type) → List (DataW H) → Bool := fun _ ds => decide (uptoBulkAll ds ≤ 1048576)
def OpenSpec.upto (s : _root_.Go.ChangeSpec) : _root_.Go.OpenSpec := { _root_.Go.OpenSpec.ofChange s with cond := some uptoSmall }

/-- 'laws.FnExactStashFind', WHERE WHAT IT READS IS OF BULK AT MOST 1048576: true; the input reads as it did. -/
def fnExactStashFindUptoRow : OpenClaim := { program := "ytggfndobfpmoaaa", sum := "fafbafda0922140299a024063850a961298f66cf2711be08a1f7c90451b7ac27", func := "loop.example/g00663/laws.FnExactStashFind", spec := "fnExactStashFind", unfollowed := true, recurses := true, apart := false, narrowed := true }
def FnExactStashFindUptoSaid : Prop := fnExactStashFindUptoRow.holds Try.pinned (OpenSpec.upto fnExactStashFindSpec)

/-- 'laws.FnNodeBack', WHERE WHAT IT READS IS OF BULK AT MOST 1048576: true; the input reads as it did. -/
def fnNodeBackUptoRow : OpenClaim := { program := "ytggfndobfpmoaaa", sum := "fafbafda0922140299a024063850a961298f66cf2711be08a1f7c90451b7ac27", func := "loop.example/g00663/laws.FnNodeBack", spec := "fnNodeBack", apart := false, narrowed := true }
def FnNodeBackUptoSaid : Prop := fnNodeBackUptoRow.holds Try.pinned (OpenSpec.upto fnNodeBackSpec)

/-- 'laws.FnExactNodeOf', WHERE WHAT IT READS IS OF BULK AT MOST 1048576: true; the input reads as it did. -/
def fnExactNodeOfUptoRow : OpenClaim := { program := "ytggfndobfpmoaaa", sum := "fafbafda0922140299a024063850a961298f66cf2711be08a1f7c90451b7ac27", func := "loop.example/g00663/laws.FnExactNodeOf", spec := "fnExactNodeOf", apart := false, narrowed := true }
def FnExactNodeOfUptoSaid : Prop := fnExactNodeOfUptoRow.holds Try.pinned (OpenSpec.upto fnExactNodeOfSpec)

/-- 'laws.FnExactNodeRead', WHERE WHAT IT READS IS OF BULK AT MOST 1048576: true; the input reads as it did. -/
def fnExactNodeReadUptoRow : OpenClaim := { program := "ytggfndobfpmoaaa", sum := "fafbafda0922140299a024063850a961298f66cf2711be08a1f7c90451b7ac27", func := "loop.example/g00663/laws.FnExactNodeRead", spec := "fnExactNodeRead", apart := false, narrowed := true }
def FnExactNodeReadUptoSaid : Prop := fnExactNodeReadUptoRow.holds Try.pinned (OpenSpec.upto fnExactNodeReadSpec)

/-- 'laws.FnExactStashDrop', WHERE WHAT IT READS IS OF BULK AT MOST 1048576: true; the input reads as it did. -/
def fnExactStashDropUptoRow : OpenClaim := { program := "ytggfndobfpmoaaa", sum := "fafbafda0922140299a024063850a961298f66cf2711be08a1f7c90451b7ac27", func := "loop.example/g00663/laws.FnExactStashDrop", spec := "fnExactStashDrop", unfollowed := true, recurses := true, apart := false, narrowed := true }
def FnExactStashDropUptoSaid : Prop := fnExactStashDropUptoRow.holds Try.pinned (OpenSpec.upto fnExactStashDropSpec)

/-- 'laws.FnEvicted', WHERE WHAT IT READS IS OF BULK AT MOST 1048576: true; the input reads as it did. -/
def fnEvictedUptoRow : OpenClaim := { program := "ytggfndobfpmoaaa", sum := "fafbafda0922140299a024063850a961298f66cf2711be08a1f7c90451b7ac27", func := "loop.example/g00663/laws.FnEvicted", spec := "fnEvicted", unfollowed := true, recurses := true, apart := false, narrowed := true }
def FnEvictedUptoSaid : Prop := fnEvictedUptoRow.holds Try.pinned (OpenSpec.upto fnEvictedSpec)

end Rows
end Go.Proofs.Ytggfndobfpmoaaa

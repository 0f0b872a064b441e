/-
  No cell of these rows narrows 'for every input' (looked for: loops, veiled, ifaces, maps, wideKeys, modest, calm, conditions, laid).
  DERIVED. THE GIVEN ROWS OF THIS SEAT. 10 by the template 'for every input the law returns true; each argument reads behind the call as it read before'; 0 by the template 'total and deterministic' (their statements: YtccoipncjfgbeaaTotals.lean).
  GIVEN WITH THE SEED: the statements are not yours to turn. If you find one false, say at which input.
  Laid BY PROGRAM, IN A SANDBOX (cutbox-rows.mjs): the forced cells as the released guide's own fill.sh prints them over the translation e034a846c3984313… (all of the seat's roots in one cut). By AI agents, Wed Nov 11 2026. No macro, syntax, notation, axiom, sorry.
-/
import Derived.Test.YtccoipncjfgbeaaChecked
import GoSem.Claim
import GoSem.ClaimJoined
import GoSem.ClaimMapViews
import Derived.JoinedTies
import Derived.KernelRfl
namespace Go.Proofs.Ytccoipncjfgbeaa
/- THE CELL 'sum', in the pinned program and in every row, IS THE sha256 OF THE DUMP (.gsa) THAT YtccoipncjfgbeaaProg.lean LOADS. Nothing in Lean hashes anything: it is a label: what it is worth is what the hold of that sum in a sandbox is worth. -/
noncomputable def Try.pinned : Pinned := { name := "ytccoipncjfgbeaa", sum := "e034a846c39843139d177d9afdcc58d1dec9267c9d73ff7c2eb340e636ded05d", checked := Try.checked }
namespace Rows
def none {H : Type} : Left H := { results := [], args := [] }

/-- 'laws.FnExactNodeSize': WHATEVER THE INPUT: true; the input reads as it did. -/
def fnExactNodeSizeSpec : ChangeSpec := { name := "fnExactNodeSize", fn := fun _ => fun
  | [d] => { results := [.lit (.bool true)], args := [d] }
  | _ => none }
def fnExactNodeSizeRow : OpenClaim := { program := "ytccoipncjfgbeaa", sum := "e034a846c39843139d177d9afdcc58d1dec9267c9d73ff7c2eb340e636ded05d", func := "loop.example/g00663/laws.FnExactNodeSize", spec := "fnExactNodeSize", apart := false }
def FnExactNodeSizeSaid : Prop := fnExactNodeSizeRow.holds Try.pinned (OpenSpec.ofChange fnExactNodeSizeSpec)

/-- ITS FALSE NEIGHBOUR: 'it returns false'. Refute it at one input. -/
def fnExactNodeSizeWrong : ChangeSpec := { name := "fnExactNodeSize", fn := fun _ => fun
  | [d] => { results := [.lit (.bool false)], args := [d] }
  | _ => none }
def FnExactNodeSizeWrongFalsely : Prop := fnExactNodeSizeRow.holds Try.pinned (OpenSpec.ofChange fnExactNodeSizeWrong)

/-- 'laws.FnExactTreeNodes': WHATEVER THE INPUT: true; the input reads as it did. -/
def fnExactTreeNodesSpec : ChangeSpec := { name := "fnExactTreeNodes", fn := fun _ => fun
  | [d] => { results := [.lit (.bool true)], args := [d] }
  | _ => none }
def fnExactTreeNodesRow : OpenClaim := { program := "ytccoipncjfgbeaa", sum := "e034a846c39843139d177d9afdcc58d1dec9267c9d73ff7c2eb340e636ded05d", func := "loop.example/g00663/laws.FnExactTreeNodes", spec := "fnExactTreeNodes", apart := false }
def FnExactTreeNodesSaid : Prop := fnExactTreeNodesRow.holds Try.pinned (OpenSpec.ofChange fnExactTreeNodesSpec)

/-- ITS FALSE NEIGHBOUR: 'it returns false'. Refute it at one input. -/
def fnExactTreeNodesWrong : ChangeSpec := { name := "fnExactTreeNodes", fn := fun _ => fun
  | [d] => { results := [.lit (.bool false)], args := [d] }
  | _ => none }
def FnExactTreeNodesWrongFalsely : Prop := fnExactTreeNodesRow.holds Try.pinned (OpenSpec.ofChange fnExactTreeNodesWrong)

/-- 'laws.FnExactRankSize': WHATEVER THE INPUT: true; the input reads as it did. -/
def fnExactRankSizeSpec : ChangeSpec := { name := "fnExactRankSize", fn := fun _ => fun
  | [d] => { results := [.lit (.bool true)], args := [d] }
  | _ => none }
def fnExactRankSizeRow : OpenClaim := { program := "ytccoipncjfgbeaa", sum := "e034a846c39843139d177d9afdcc58d1dec9267c9d73ff7c2eb340e636ded05d", func := "loop.example/g00663/laws.FnExactRankSize", spec := "fnExactRankSize", apart := false }
def FnExactRankSizeSaid : Prop := fnExactRankSizeRow.holds Try.pinned (OpenSpec.ofChange fnExactRankSizeSpec)

/-- ITS FALSE NEIGHBOUR: 'it returns false'. Refute it at one input. -/
def fnExactRankSizeWrong : ChangeSpec := { name := "fnExactRankSize", fn := fun _ => fun
  | [d] => { results := [.lit (.bool false)], args := [d] }
  | _ => none }
def FnExactRankSizeWrongFalsely : Prop := fnExactRankSizeRow.holds Try.pinned (OpenSpec.ofChange fnExactRankSizeWrong)

/-- 'laws.FnExactNodeLevel': WHATEVER THE INPUT: true; the input reads as it did. -/
def fnExactNodeLevelSpec : ChangeSpec := { name := "fnExactNodeLevel", fn := fun _ => fun
  | [d] => { results := [.lit (.bool true)], args := [d] }
  | _ => none }
def fnExactNodeLevelRow : OpenClaim := { program := "ytccoipncjfgbeaa", sum := "e034a846c39843139d177d9afdcc58d1dec9267c9d73ff7c2eb340e636ded05d", func := "loop.example/g00663/laws.FnExactNodeLevel", spec := "fnExactNodeLevel", apart := false }
def FnExactNodeLevelSaid : Prop := fnExactNodeLevelRow.holds Try.pinned (OpenSpec.ofChange fnExactNodeLevelSpec)

/-- ITS FALSE NEIGHBOUR: 'it returns false'. Refute it at one input. -/
def fnExactNodeLevelWrong : ChangeSpec := { name := "fnExactNodeLevel", fn := fun _ => fun
  | [d] => { results := [.lit (.bool false)], args := [d] }
  | _ => none }
def FnExactNodeLevelWrongFalsely : Prop := fnExactNodeLevelRow.holds Try.pinned (OpenSpec.ofChange fnExactNodeLevelWrong)

/-- 'laws.FnExactPathNodes': WHATEVER THE INPUT: true; the input reads as it did. -/
def fnExactPathNodesSpec : ChangeSpec := { name := "fnExactPathNodes", fn := fun _ => fun
  | [d1, d2] => { results := [.lit (.bool true)], args := [d1, d2] }
  | _ => none }
def fnExactPathNodesRow : OpenClaim := { program := "ytccoipncjfgbeaa", sum := "e034a846c39843139d177d9afdcc58d1dec9267c9d73ff7c2eb340e636ded05d", func := "loop.example/g00663/laws.FnExactPathNodes", spec := "fnExactPathNodes", apart := false }
def FnExactPathNodesSaid : Prop := fnExactPathNodesRow.holds Try.pinned (OpenSpec.ofChange fnExactPathNodesSpec)

/-- ITS FALSE NEIGHBOUR: 'it returns false'. Refute it at one input. -/
def fnExactPathNodesWrong : ChangeSpec := { name := "fnExactPathNodes", fn := fun _ => fun
  | [d1, d2] => { results := [.lit (.bool false)], args := [d1, d2] }
  | _ => none }
def FnExactPathNodesWrongFalsely : Prop := fnExactPathNodesRow.holds Try.pinned (OpenSpec.ofChange fnExactPathNodesWrong)

/-- 'laws.FnExactOnPath': WHATEVER THE INPUT: true; the input reads as it did. -/
def fnExactOnPathSpec : ChangeSpec := { name := "fnExactOnPath", fn := fun _ => fun
  | [d1, d2, d3] => { results := [.lit (.bool true)], args := [d1, d2, d3] }
  | _ => none }
def fnExactOnPathRow : OpenClaim := { program := "ytccoipncjfgbeaa", sum := "e034a846c39843139d177d9afdcc58d1dec9267c9d73ff7c2eb340e636ded05d", func := "loop.example/g00663/laws.FnExactOnPath", spec := "fnExactOnPath", apart := false }
def FnExactOnPathSaid : Prop := fnExactOnPathRow.holds Try.pinned (OpenSpec.ofChange fnExactOnPathSpec)

/-- ITS FALSE NEIGHBOUR: 'it returns false'. Refute it at one input. -/
def fnExactOnPathWrong : ChangeSpec := { name := "fnExactOnPath", fn := fun _ => fun
  | [d1, d2, d3] => { results := [.lit (.bool false)], args := [d1, d2, d3] }
  | _ => none }
def FnExactOnPathWrongFalsely : Prop := fnExactOnPathRow.holds Try.pinned (OpenSpec.ofChange fnExactOnPathWrong)

/-- 'laws.FnExactMeet': WHATEVER THE INPUT: true; the input reads as it did. -/
def fnExactMeetSpec : ChangeSpec := { name := "fnExactMeet", fn := fun _ => fun
  | [d1, d2, d3] => { results := [.lit (.bool true)], args := [d1, d2, d3] }
  | _ => none }
def fnExactMeetRow : OpenClaim := { program := "ytccoipncjfgbeaa", sum := "e034a846c39843139d177d9afdcc58d1dec9267c9d73ff7c2eb340e636ded05d", func := "loop.example/g00663/laws.FnExactMeet", spec := "fnExactMeet", apart := false }
def FnExactMeetSaid : Prop := fnExactMeetRow.holds Try.pinned (OpenSpec.ofChange fnExactMeetSpec)

/-- ITS FALSE NEIGHBOUR: 'it returns false'. Refute it at one input. -/
def fnExactMeetWrong : ChangeSpec := { name := "fnExactMeet", fn := fun _ => fun
  | [d1, d2, d3] => { results := [.lit (.bool false)], args := [d1, d2, d3] }
  | _ => none }
def FnExactMeetWrongFalsely : Prop := fnExactMeetRow.holds Try.pinned (OpenSpec.ofChange fnExactMeetWrong)

/-- 'laws.FnExactNodeLeaves': WHATEVER THE INPUT: true; the input reads as it did. -/
def fnExactNodeLeavesSpec : ChangeSpec := { name := "fnExactNodeLeaves", fn := fun _ => fun
  | [d1, d2] => { results := [.lit (.bool true)], args := [d1, d2] }
  | _ => none }
def fnExactNodeLeavesRow : OpenClaim := { program := "ytccoipncjfgbeaa", sum := "e034a846c39843139d177d9afdcc58d1dec9267c9d73ff7c2eb340e636ded05d", func := "loop.example/g00663/laws.FnExactNodeLeaves", spec := "fnExactNodeLeaves", apart := false }
def FnExactNodeLeavesSaid : Prop := fnExactNodeLeavesRow.holds Try.pinned (OpenSpec.ofChange fnExactNodeLeavesSpec)

/-- ITS FALSE NEIGHBOUR: 'it returns false'. Refute it at one input. -/
def fnExactNodeLeavesWrong : ChangeSpec := { name := "fnExactNodeLeaves", fn := fun _ => fun
  | [d1, d2] => { results := [.lit (.bool false)], args := [d1, d2] }
  | _ => none }
def FnExactNodeLeavesWrongFalsely : Prop := fnExactNodeLeavesRow.holds Try.pinned (OpenSpec.ofChange fnExactNodeLeavesWrong)

/-- 'laws.FnLeavesCover': WHATEVER THE INPUT: true; the input reads as it did. -/
def fnLeavesCoverSpec : ChangeSpec := { name := "fnLeavesCover", fn := fun _ => fun
  | [d] => { results := [.lit (.bool true)], args := [d] }
  | _ => none }
def fnLeavesCoverRow : OpenClaim := { program := "ytccoipncjfgbeaa", sum := "e034a846c39843139d177d9afdcc58d1dec9267c9d73ff7c2eb340e636ded05d", func := "loop.example/g00663/laws.FnLeavesCover", spec := "fnLeavesCover", apart := false }
def FnLeavesCoverSaid : Prop := fnLeavesCoverRow.holds Try.pinned (OpenSpec.ofChange fnLeavesCoverSpec)

/-- ITS FALSE NEIGHBOUR: 'it returns false'. Refute it at one input. -/
def fnLeavesCoverWrong : ChangeSpec := { name := "fnLeavesCover", fn := fun _ => fun
  | [d] => { results := [.lit (.bool false)], args := [d] }
  | _ => none }
def FnLeavesCoverWrongFalsely : Prop := fnLeavesCoverRow.holds Try.pinned (OpenSpec.ofChange fnLeavesCoverWrong)

/-- 'laws.FnMeet': WHATEVER THE INPUT: true; the input reads as it did. -/
def fnMeetSpec : ChangeSpec := { name := "fnMeet", fn := fun _ => fun
  | [d] => { results := [.lit (.bool true)], args := [d] }
  | _ => none }
def fnMeetRow : OpenClaim := { program := "ytccoipncjfgbeaa", sum := "e034a846c39843139d177d9afdcc58d1dec9267c9d73ff7c2eb340e636ded05d", func := "loop.example/g00663/laws.FnMeet", spec := "fnMeet", apart := false }
def FnMeetSaid : Prop := fnMeetRow.holds Try.pinned (OpenSpec.ofChange fnMeetSpec)

/-- ITS FALSE NEIGHBOUR: 'it returns false'. Refute it at one input. -/
def fnMeetWrong : ChangeSpec := { name := "fnMeet", fn := fun _ => fun
  | [d] => { results := [.lit (.bool false)], args := [d] }
  | _ => none }
def FnMeetWrongFalsely : Prop := fnMeetRow.holds Try.pinned (OpenSpec.ofChange fnMeetWrong)

/- THE SECOND FORM. 'bulk': how many values and letters a reading holds, each counted each time it is reached (what is shared counts as often as it is met; a slice's spare places count too). A statement '..UptoSaid' is the law's where the arguments, and the package variables that the reading takes, are together of bulk at most 1048576: NARROWER than '..Said'. Prove '..Said' where nothing that the law and all that it calls make is longer than what came in: it says more and counts as full. Else prove '..UptoSaid'. A law counts once. -/
mutual
def uptoBulk {H : Type} : DataW H → Nat
  | .lit (.string bytes) => bytes.length + 1
  | .lit _ => 1
  | .nil => 1
  | .ptr d => uptoBulk d + 1
  | .slice elems spare => uptoBulkAll elems + uptoBulkAll spare + 1
  | .agg parts => uptoBulkAll parts + 1
  | .iface _ d => uptoBulk d + 1
  | .map entries => uptoBulkEntries entries + 1
  | .held _ => 1
def uptoBulkAll {H : Type} : List (DataW H) → Nat
  | [] => 0
  | d :: r => uptoBulk d + uptoBulkAll r
def uptoBulkEntries {H : Type} : List (Lit × DataW H) → Nat
  | [] => 0
  | x :: r => uptoBulkEntry x + uptoBulkEntries r
def uptoBulkEntry {H : Type} : Lit × DataW H → Nat
  | (.string bytes, d) => bytes.length + uptoBulk d + 1
  | (_, d) => uptoBulk d + 1
 end
def uptoSmall : (H : Type) → List (DataW H) → Bool := fun _ ds => decide (uptoBulkAll ds ≤ 1048576)
def OpenSpec.upto (s : _root_.Go.ChangeSpec) : _root_.Go.OpenSpec := { _root_.Go.OpenSpec.ofChange s with cond := some uptoSmall }

/-- 'laws.FnExactNodeSize', WHERE WHAT IT READS IS OF BULK AT MOST 1048576: true; the input reads as it did. -/
def fnExactNodeSizeUptoRow : OpenClaim := { program := "ytccoipncjfgbeaa", sum := "e034a846c39843139d177d9afdcc58d1dec9267c9d73ff7c2eb340e636ded05d", func := "loop.example/g00663/laws.FnExactNodeSize", spec := "fnExactNodeSize", apart := false, narrowed := true }
def FnExactNodeSizeUptoSaid : Prop := fnExactNodeSizeUptoRow.holds Try.pinned (OpenSpec.upto fnExactNodeSizeSpec)

/-- 'laws.FnExactTreeNodes', WHERE WHAT IT READS IS OF BULK AT MOST 1048576: true; the input reads as it did. -/
def fnExactTreeNodesUptoRow : OpenClaim := { program := "ytccoipncjfgbeaa", sum := "e034a846c39843139d177d9afdcc58d1dec9267c9d73ff7c2eb340e636ded05d", func := "loop.example/g00663/laws.FnExactTreeNodes", spec := "fnExactTreeNodes", apart := false, narrowed := true }
def FnExactTreeNodesUptoSaid : Prop := fnExactTreeNodesUptoRow.holds Try.pinned (OpenSpec.upto fnExactTreeNodesSpec)

/-- 'laws.FnExactRankSize', WHERE WHAT IT READS IS OF BULK AT MOST 1048576: true; the input reads as it did. -/
def fnExactRankSizeUptoRow : OpenClaim := { program := "ytccoipncjfgbeaa", sum := "e034a846c39843139d177d9afdcc58d1dec9267c9d73ff7c2eb340e636ded05d", func := "loop.example/g00663/laws.FnExactRankSize", spec := "fnExactRankSize", apart := false, narrowed := true }
def FnExactRankSizeUptoSaid : Prop := fnExactRankSizeUptoRow.holds Try.pinned (OpenSpec.upto fnExactRankSizeSpec)

/-- 'laws.FnExactNodeLevel', WHERE WHAT IT READS IS OF BULK AT MOST 1048576: true; the input reads as it did. -/
def fnExactNodeLevelUptoRow : OpenClaim := { program := "ytccoipncjfgbeaa", sum := "e034a846c39843139d177d9afdcc58d1dec9267c9d73ff7c2eb340e636ded05d", func := "loop.example/g00663/laws.FnExactNodeLevel", spec := "fnExactNodeLevel", apart := false, narrowed := true }
def FnExactNodeLevelUptoSaid : Prop := fnExactNodeLevelUptoRow.holds Try.pinned (OpenSpec.upto fnExactNodeLevelSpec)

/-- 'laws.FnExactPathNodes', WHERE WHAT IT READS IS OF BULK AT MOST 1048576: true; the input reads as it did. -/
def fnExactPathNodesUptoRow : OpenClaim := { program := "ytccoipncjfgbeaa", sum := "e034a846c39843139d177d9afdcc58d1dec9267c9d73ff7c2eb340e636ded05d", func := "loop.example/g00663/laws.FnExactPathNodes", spec := "fnExactPathNodes", apart := false, narrowed := true }
def FnExactPathNodesUptoSaid : Prop := fnExactPathNodesUptoRow.holds Try.pinned (OpenSpec.upto fnExactPathNodesSpec)

/-- 'laws.FnExactOnPath', WHERE WHAT IT READS IS OF BULK AT MOST 1048576: true; the input reads as it did. -/
def fnExactOnPathUptoRow : OpenClaim := { program := "ytccoipncjfgbeaa", sum := "e034a846c39843139d177d9afdcc58d1dec9267c9d73ff7c2eb340e636ded05d", func := "loop.example/g00663/laws.FnExactOnPath", spec := "fnExactOnPath", apart := false, narrowed := true }
def FnExactOnPathUptoSaid : Prop := fnExactOnPathUptoRow.holds Try.pinned (OpenSpec.upto fnExactOnPathSpec)

/-- 'laws.FnExactMeet', WHERE WHAT IT READS IS OF BULK AT MOST 1048576: true; the input reads as it did. -/
def fnExactMeetUptoRow : OpenClaim := { program := "ytccoipncjfgbeaa", sum := "e034a846c39843139d177d9afdcc58d1dec9267c9d73ff7c2eb340e636ded05d", func := "loop.example/g00663/laws.FnExactMeet", spec := "fnExactMeet", apart := false, narrowed := true }
def FnExactMeetUptoSaid : Prop := fnExactMeetUptoRow.holds Try.pinned (OpenSpec.upto fnExactMeetSpec)

/-- 'laws.FnExactNodeLeaves', WHERE WHAT IT READS IS OF BULK AT MOST 1048576: true; the input reads as it did. -/
def fnExactNodeLeavesUptoRow : OpenClaim := { program := "ytccoipncjfgbeaa", sum := "e034a846c39843139d177d9afdcc58d1dec9267c9d73ff7c2eb340e636ded05d", func := "loop.example/g00663/laws.FnExactNodeLeaves", spec := "fnExactNodeLeaves", apart := false, narrowed := true }
def FnExactNodeLeavesUptoSaid : Prop := fnExactNodeLeavesUptoRow.holds Try.pinned (OpenSpec.upto fnExactNodeLeavesSpec)

/-- 'laws.FnLeavesCover', WHERE WHAT IT READS IS OF BULK AT MOST 1048576: true; the input reads as it did. -/
def fnLeavesCoverUptoRow : OpenClaim := { program := "ytccoipncjfgbeaa", sum := "e034a846c39843139d177d9afdcc58d1dec9267c9d73ff7c2eb340e636ded05d", func := "loop.example/g00663/laws.FnLeavesCover", spec := "fnLeavesCover", apart := false, narrowed := true }
def FnLeavesCoverUptoSaid : Prop := fnLeavesCoverUptoRow.holds Try.pinned (OpenSpec.upto fnLeavesCoverSpec)

/-- 'laws.FnMeet', WHERE WHAT IT READS IS OF BULK AT MOST 1048576: true; the input reads as it did. -/
def fnMeetUptoRow : OpenClaim := { program := "ytccoipncjfgbeaa", sum := "e034a846c39843139d177d9afdcc58d1dec9267c9d73ff7c2eb340e636ded05d", func := "loop.example/g00663/laws.FnMeet", spec := "fnMeet", apart := false, narrowed := true }
def FnMeetUptoSaid : Prop := fnMeetUptoRow.holds Try.pinned (OpenSpec.upto fnMeetSpec)

end Rows
end Go.Proofs.Ytccoipncjfgbeaa

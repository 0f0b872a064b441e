/-
  No cell of these rows narrows 'for every input' (looked for: loops, veiled, ifaces, maps, wideKeys, modest, calm, conditions, laid).
  DERIVED. THE GIVEN ROWS OF THIS SEAT. 6 by the template 'for every input the law returns true; each argument reads behind the call as it read before'; 0 by the template 'total and deterministic' (their statements: YtljmhhadclgegaaTotals.lean).
  GIVEN WITH THE SEED: the statements are not yours to turn. If you find one false, say at which input.
  Laid BY PROGRAM, IN A SANDBOX (cutbox-rows.mjs): the forced cells as the released guide's own fill.sh prints them over the translation ec9c52b43b745059… (all of the seat's roots in one cut). By AI agents, Wed Nov 11 2026. No macro, syntax, notation, axiom, sorry.
-/
import Derived.Test.YtljmhhadclgegaaChecked
import GoSem.Claim
import GoSem.ClaimJoined
import GoSem.ClaimMapViews
import Derived.JoinedTies
import Derived.KernelRfl
namespace Go.Proofs.Ytljmhhadclgegaa
/- THE CELL 'sum', in the pinned program and in every row, IS THE sha256 OF THE DUMP (.gsa) THAT YtljmhhadclgegaaProg.lean LOADS. Nothing in Lean hashes anything: it is a label: what it is worth is what the hold of that sum in a sandbox is worth. -/
noncomputable def Try.pinned : Pinned := { name := "ytljmhhadclgegaa", sum := "ec9c52b43b745059305438294c4a09461b59cafe9d7373185f236bca5c9766d1", checked := Try.checked }
namespace Rows
def none {H : Type} : Left H := { results := [], args := [] }

/-- 'laws.FnNums': WHATEVER THE INPUT: true; the input reads as it did. -/
def fnNumsSpec : ChangeSpec := { name := "fnNums", fn := fun _ => fun
  | [d] => { results := [.lit (.bool true)], args := [d] }
  | _ => none }
def fnNumsRow : OpenClaim := { program := "ytljmhhadclgegaa", sum := "ec9c52b43b745059305438294c4a09461b59cafe9d7373185f236bca5c9766d1", func := "loop.example/g00663/laws.FnNums", spec := "fnNums", apart := false }
def FnNumsSaid : Prop := fnNumsRow.holds Try.pinned (OpenSpec.ofChange fnNumsSpec)

/-- ITS FALSE NEIGHBOUR: 'it returns false'. Refute it at one input. -/
def fnNumsWrong : ChangeSpec := { name := "fnNums", fn := fun _ => fun
  | [d] => { results := [.lit (.bool false)], args := [d] }
  | _ => none }
def FnNumsWrongFalsely : Prop := fnNumsRow.holds Try.pinned (OpenSpec.ofChange fnNumsWrong)

/-- 'laws.FnExactPlanesOf': WHATEVER THE INPUT: true; the input reads as it did. -/
def fnExactPlanesOfSpec : ChangeSpec := { name := "fnExactPlanesOf", fn := fun _ => fun
  | [d] => { results := [.lit (.bool true)], args := [d] }
  | _ => none }
def fnExactPlanesOfRow : OpenClaim := { program := "ytljmhhadclgegaa", sum := "ec9c52b43b745059305438294c4a09461b59cafe9d7373185f236bca5c9766d1", func := "loop.example/g00663/laws.FnExactPlanesOf", spec := "fnExactPlanesOf", apart := false }
def FnExactPlanesOfSaid : Prop := fnExactPlanesOfRow.holds Try.pinned (OpenSpec.ofChange fnExactPlanesOfSpec)

/-- ITS FALSE NEIGHBOUR: 'it returns false'. Refute it at one input. -/
def fnExactPlanesOfWrong : ChangeSpec := { name := "fnExactPlanesOf", fn := fun _ => fun
  | [d] => { results := [.lit (.bool false)], args := [d] }
  | _ => none }
def FnExactPlanesOfWrongFalsely : Prop := fnExactPlanesOfRow.holds Try.pinned (OpenSpec.ofChange fnExactPlanesOfWrong)

/-- 'laws.FnExactPlanesOk': WHATEVER THE INPUT: true; the input reads as it did. -/
def fnExactPlanesOkSpec : ChangeSpec := { name := "fnExactPlanesOk", fn := fun _ => fun
  | [d] => { results := [.lit (.bool true)], args := [d] }
  | _ => none }
def fnExactPlanesOkRow : OpenClaim := { program := "ytljmhhadclgegaa", sum := "ec9c52b43b745059305438294c4a09461b59cafe9d7373185f236bca5c9766d1", func := "loop.example/g00663/laws.FnExactPlanesOk", spec := "fnExactPlanesOk", apart := false }
def FnExactPlanesOkSaid : Prop := fnExactPlanesOkRow.holds Try.pinned (OpenSpec.ofChange fnExactPlanesOkSpec)

/-- ITS FALSE NEIGHBOUR: 'it returns false'. Refute it at one input. -/
def fnExactPlanesOkWrong : ChangeSpec := { name := "fnExactPlanesOk", fn := fun _ => fun
  | [d] => { results := [.lit (.bool false)], args := [d] }
  | _ => none }
def FnExactPlanesOkWrongFalsely : Prop := fnExactPlanesOkRow.holds Try.pinned (OpenSpec.ofChange fnExactPlanesOkWrong)

/-- 'laws.FnExactPlanesWords': WHATEVER THE INPUT: true; the input reads as it did. -/
def fnExactPlanesWordsSpec : ChangeSpec := { name := "fnExactPlanesWords", fn := fun _ => fun
  | [d] => { results := [.lit (.bool true)], args := [d] }
  | _ => none }
def fnExactPlanesWordsRow : OpenClaim := { program := "ytljmhhadclgegaa", sum := "ec9c52b43b745059305438294c4a09461b59cafe9d7373185f236bca5c9766d1", func := "loop.example/g00663/laws.FnExactPlanesWords", spec := "fnExactPlanesWords", apart := false }
def FnExactPlanesWordsSaid : Prop := fnExactPlanesWordsRow.holds Try.pinned (OpenSpec.ofChange fnExactPlanesWordsSpec)

/-- ITS FALSE NEIGHBOUR: 'it returns false'. Refute it at one input. -/
def fnExactPlanesWordsWrong : ChangeSpec := { name := "fnExactPlanesWords", fn := fun _ => fun
  | [d] => { results := [.lit (.bool false)], args := [d] }
  | _ => none }
def FnExactPlanesWordsWrongFalsely : Prop := fnExactPlanesWordsRow.holds Try.pinned (OpenSpec.ofChange fnExactPlanesWordsWrong)

/-- 'laws.FnExactBatchCapped': WHATEVER THE INPUT: true; the input reads as it did. -/
def fnExactBatchCappedSpec : ChangeSpec := { name := "fnExactBatchCapped", fn := fun _ => fun
  | [d1, d2] => { results := [.lit (.bool true)], args := [d1, d2] }
  | _ => none }
def fnExactBatchCappedRow : OpenClaim := { program := "ytljmhhadclgegaa", sum := "ec9c52b43b745059305438294c4a09461b59cafe9d7373185f236bca5c9766d1", func := "loop.example/g00663/laws.FnExactBatchCapped", spec := "fnExactBatchCapped", apart := false }
def FnExactBatchCappedSaid : Prop := fnExactBatchCappedRow.holds Try.pinned (OpenSpec.ofChange fnExactBatchCappedSpec)

/-- ITS FALSE NEIGHBOUR: 'it returns false'. Refute it at one input. -/
def fnExactBatchCappedWrong : ChangeSpec := { name := "fnExactBatchCapped", fn := fun _ => fun
  | [d1, d2] => { results := [.lit (.bool false)], args := [d1, d2] }
  | _ => none }
def FnExactBatchCappedWrongFalsely : Prop := fnExactBatchCappedRow.holds Try.pinned (OpenSpec.ofChange fnExactBatchCappedWrong)

/-- 'laws.FnBatch': WHATEVER THE INPUT: true; the input reads as it did. -/
def fnBatchSpec : ChangeSpec := { name := "fnBatch", fn := fun _ => fun
  | [d] => { results := [.lit (.bool true)], args := [d] }
  | _ => none }
def fnBatchRow : OpenClaim := { program := "ytljmhhadclgegaa", sum := "ec9c52b43b745059305438294c4a09461b59cafe9d7373185f236bca5c9766d1", func := "loop.example/g00663/laws.FnBatch", spec := "fnBatch", apart := false }
def FnBatchSaid : Prop := fnBatchRow.holds Try.pinned (OpenSpec.ofChange fnBatchSpec)

/-- ITS FALSE NEIGHBOUR: 'it returns false'. Refute it at one input. -/
def fnBatchWrong : ChangeSpec := { name := "fnBatch", fn := fun _ => fun
  | [d] => { results := [.lit (.bool false)], args := [d] }
  | _ => none }
def FnBatchWrongFalsely : Prop := fnBatchRow.holds Try.pinned (OpenSpec.ofChange fnBatchWrong)

/- THE SECOND FORM. 'bulk': how many values and letters a reading holds, each counted each time it is reached (what is shared counts as often as it is met; a slice's spare places count too). A statement '..UptoSaid' is the law's where the arguments, and the package variables that the reading takes, are together of bulk at most 1048576: NARROWER than '..Said'. Prove '..Said' where nothing that the law and all that it calls make is longer than what came in: it says more and counts as full. Else prove '..UptoSaid'. A law counts once. -/
mutual
def uptoBulk {H : Type} : DataW H → Nat
  | .lit (.string bytes) => bytes.length + 1
  | .lit _ => 1
  | .nil => 1
  | .ptr d => uptoBulk d + 1
  | .slice elems spare => uptoBulkAll elems + uptoBulkAll spare + 1
  | .agg parts => uptoBulkAll parts + 1
  | .iface _ d => uptoBulk d + 1
  | .map entries => uptoBulkEntries entries + 1
  | .held _ => 1
def uptoBulkAll {H : Type} : List (DataW H) → Nat
  | [] => 0
  | d :: r => uptoBulk d + uptoBulkAll r
def uptoBulkEntries {H : Type} : List (Lit × DataW H) → Nat
  | [] => 0
  | x :: r => uptoBulkEntry x + uptoBulkEntries r
def uptoBulkEntry {H : Type} : Lit × DataW H → Nat
  | (.string bytes, d) => bytes.length + uptoBulk d + 1
  | (_, d) => uptoBulk d + 1
 end
def uptoSmall : (H : Type) → List (DataW H) → Bool := fun _ ds => decide (uptoBulkAll ds ≤ 1048576)
def OpenSpec.upto (s : _root_.Go.ChangeSpec) : _root_.Go.OpenSpec := { _root_.Go.OpenSpec.ofChange s with cond := some uptoSmall }

/-- 'laws.FnNums', WHERE WHAT IT READS IS OF BULK AT MOST 1048576: true; the input reads as it did. -/
def fnNumsUptoRow : OpenClaim := { program := "ytljmhhadclgegaa", sum := "ec9c52b43b745059305438294c4a09461b59cafe9d7373185f236bca5c9766d1", func := "loop.example/g00663/laws.FnNums", spec := "fnNums", apart := false, narrowed := true }
def FnNumsUptoSaid : Prop := fnNumsUptoRow.holds Try.pinned (OpenSpec.upto fnNumsSpec)

/-- 'laws.FnExactPlanesOf', WHERE WHAT IT READS IS OF BULK AT MOST 1048576: true; the input reads as it did. -/
def fnExactPlanesOfUptoRow : OpenClaim := { program := "ytljmhhadclgegaa", sum := "ec9c52b43b745059305438294c4a09461b59cafe9d7373185f236bca5c9766d1", func := "loop.example/g00663/laws.FnExactPlanesOf", spec := "fnExactPlanesOf", apart := false, narrowed := true }
def FnExactPlanesOfUptoSaid : Prop := fnExactPlanesOfUptoRow.holds Try.pinned (OpenSpec.upto fnExactPlanesOfSpec)

/-- 'laws.FnExactPlanesOk', WHERE WHAT IT READS IS OF BULK AT MOST 1048576: true; the input reads as it did. -/
def fnExactPlanesOkUptoRow : OpenClaim := { program := "ytljmhhadclgegaa", sum := "ec9c52b43b745059305438294c4a09461b59cafe9d7373185f236bca5c9766d1", func := "loop.example/g00663/laws.FnExactPlanesOk", spec := "fnExactPlanesOk", apart := false, narrowed := true }
def FnExactPlanesOkUptoSaid : Prop := fnExactPlanesOkUptoRow.holds Try.pinned (OpenSpec.upto fnExactPlanesOkSpec)

/-- 'laws.FnExactPlanesWords', WHERE WHAT IT READS IS OF BULK AT MOST 1048576: true; the input reads as it did. -/
def fnExactPlanesWordsUptoRow : OpenClaim := { program := "ytljmhhadclgegaa", sum := "ec9c52b43b745059305438294c4a09461b59cafe9d7373185f236bca5c9766d1", func := "loop.example/g00663/laws.FnExactPlanesWords", spec := "fnExactPlanesWords", apart := false, narrowed := true }
def FnExactPlanesWordsUptoSaid : Prop := fnExactPlanesWordsUptoRow.holds Try.pinned (OpenSpec.upto fnExactPlanesWordsSpec)

/-- 'laws.FnExactBatchCapped', WHERE WHAT IT READS IS OF BULK AT MOST 1048576: true; the input reads as it did. -/
def fnExactBatchCappedUptoRow : OpenClaim := { program := "ytljmhhadclgegaa", sum := "ec9c52b43b745059305438294c4a09461b59cafe9d7373185f236bca5c9766d1", func := "loop.example/g00663/laws.FnExactBatchCapped", spec := "fnExactBatchCapped", apart := false, narrowed := true }
def FnExactBatchCappedUptoSaid : Prop := fnExactBatchCappedUptoRow.holds Try.pinned (OpenSpec.upto fnExactBatchCappedSpec)

/-- 'laws.FnBatch', WHERE WHAT IT READS IS OF BULK AT MOST 1048576: true; the input reads as it did. -/
def fnBatchUptoRow : OpenClaim := { program := "ytljmhhadclgegaa", sum := "ec9c52b43b745059305438294c4a09461b59cafe9d7373185f236bca5c9766d1", func := "loop.example/g00663/laws.FnBatch", spec := "fnBatch", apart := false, narrowed := true }
def FnBatchUptoSaid : Prop := fnBatchUptoRow.holds Try.pinned (OpenSpec.upto fnBatchSpec)

end Rows
end Go.Proofs.Ytljmhhadclgegaa

/-
  No cell of these rows narrows 'for every input' (looked for: loops, veiled, ifaces, maps, wideKeys, modest, calm, conditions, laid).
  DERIVED. THE GIVEN ROWS OF THIS SEAT. 3 by the template 'for every input the law returns true; each argument reads behind the call as it read before'; 0 by the template 'total and deterministic' (their statements: YtncnmgklnnpeeaaTotals.lean).
  GIVEN WITH THE SEED: the statements are not yours to turn. If you find one false, say at which input.
  Laid BY PROGRAM, IN A SANDBOX (cutbox-rows.mjs): the forced cells as the released guide's own fill.sh prints them over the translation 6f51d040a5ff4f8c… (all of the seat's roots in one cut). By AI agents, Wed Nov 11 2026. No macro, syntax, notation, axiom, sorry.
-/
import Derived.Test.YtncnmgklnnpeeaaChecked
import GoSem.Claim
import GoSem.ClaimJoined
import GoSem.ClaimMapViews
import Derived.JoinedTies
import Derived.KernelRfl
namespace Go.Proofs.Ytncnmgklnnpeeaa
/- THE CELL 'sum', in the pinned program and in every row, IS THE sha256 OF THE DUMP (.gsa) THAT YtncnmgklnnpeeaaProg.lean LOADS. Nothing in Lean hashes anything: it is a label: what it is worth is what the hold of that sum in a sandbox is worth. -/
noncomputable def Try.pinned : Pinned := { name := "ytncnmgklnnpeeaa", sum := "6f51d040a5ff4f8ca69b057e36fbf82163891b27970afcd09f8c082c21c3bb78", checked := Try.checked }
namespace Rows
def none {H : Type} : Left H := { results := [], args := [] }

/-- 'laws.FnAhead': WHATEVER THE INPUT: true; the input reads as it did. -/
def fnAheadSpec : ChangeSpec := { name := "fnAhead", fn := fun _ => fun
  | [d] => { results := [.lit (.bool true)], args := [d] }
  | _ => none }
def fnAheadRow : OpenClaim := { program := "ytncnmgklnnpeeaa", sum := "6f51d040a5ff4f8ca69b057e36fbf82163891b27970afcd09f8c082c21c3bb78", func := "loop.example/g00663/laws.FnAhead", spec := "fnAhead", apart := false }
def FnAheadSaid : Prop := fnAheadRow.holds Try.pinned (OpenSpec.ofChange fnAheadSpec)

/-- ITS FALSE NEIGHBOUR: 'it returns false'. Refute it at one input. -/
def fnAheadWrong : ChangeSpec := { name := "fnAhead", fn := fun _ => fun
  | [d] => { results := [.lit (.bool false)], args := [d] }
  | _ => none }
def FnAheadWrongFalsely : Prop := fnAheadRow.holds Try.pinned (OpenSpec.ofChange fnAheadWrong)

/-- 'laws.FnRanked': WHATEVER THE INPUT: true; the input reads as it did. -/
def fnRankedSpec : ChangeSpec := { name := "fnRanked", fn := fun _ => fun
  | [d] => { results := [.lit (.bool true)], args := [d] }
  | _ => none }
def fnRankedRow : OpenClaim := { program := "ytncnmgklnnpeeaa", sum := "6f51d040a5ff4f8ca69b057e36fbf82163891b27970afcd09f8c082c21c3bb78", func := "loop.example/g00663/laws.FnRanked", spec := "fnRanked", unfollowed := true, recurses := true, apart := false }
def FnRankedSaid : Prop := fnRankedRow.holds Try.pinned (OpenSpec.ofChange fnRankedSpec)

/-- ITS FALSE NEIGHBOUR: 'it returns false'. Refute it at one input. -/
def fnRankedWrong : ChangeSpec := { name := "fnRanked", fn := fun _ => fun
  | [d] => { results := [.lit (.bool false)], args := [d] }
  | _ => none }
def FnRankedWrongFalsely : Prop := fnRankedRow.holds Try.pinned (OpenSpec.ofChange fnRankedWrong)

/-- 'laws.FnTopFirst': WHATEVER THE INPUT: true; the input reads as it did. -/
def fnTopFirstSpec : ChangeSpec := { name := "fnTopFirst", fn := fun _ => fun
  | [d] => { results := [.lit (.bool true)], args := [d] }
  | _ => none }
def fnTopFirstRow : OpenClaim := { program := "ytncnmgklnnpeeaa", sum := "6f51d040a5ff4f8ca69b057e36fbf82163891b27970afcd09f8c082c21c3bb78", func := "loop.example/g00663/laws.FnTopFirst", spec := "fnTopFirst", unfollowed := true, recurses := true, apart := false }
def FnTopFirstSaid : Prop := fnTopFirstRow.holds Try.pinned (OpenSpec.ofChange fnTopFirstSpec)

/-- ITS FALSE NEIGHBOUR: 'it returns false'. Refute it at one input. -/
def fnTopFirstWrong : ChangeSpec := { name := "fnTopFirst", fn := fun _ => fun
  | [d] => { results := [.lit (.bool false)], args := [d] }
  | _ => none }
def FnTopFirstWrongFalsely : Prop := fnTopFirstRow.holds Try.pinned (OpenSpec.ofChange fnTopFirstWrong)

/- THE SECOND FORM. 'bulk': how many values and letters a reading holds, each counted each time it is reached (what is shared counts as often as it is met; a slice's spare places count too). A statement '..UptoSaid' is the law's where the arguments, and the package variables that the reading takes, are together of bulk at most 1048576: NARROWER than '..Said'. Prove '..Said' where nothing that the law and all that it calls make is longer than what came in: it says more and counts as full. Else prove '..UptoSaid'. A law counts once. -/
mutual
def uptoBulk {H : Type} : DataW H → Nat
  | .lit (.string bytes) => bytes.length + 1
  | .lit _ => 1
  | .nil => 1
  | .ptr d => uptoBulk d + 1
  | .slice elems spare => uptoBulkAll elems + uptoBulkAll spare + 1
  | .agg parts => uptoBulkAll parts + 1
  | .iface _ d => uptoBulk d + 1
  | .map entries => uptoBulkEntries entries + 1
  | .held _ => 1
def uptoBulkAll {H : Type} : List (DataW H) → Nat
  | [] => 0
  | d :: r => uptoBulk d + uptoBulkAll r
def uptoBulkEntries {H : Type} : List (Lit × DataW H) → Nat
  | [] => 0
  | x :: r => uptoBulkEntry x + uptoBulkEntries r
def uptoBulkEntry {H : Type} : Lit × DataW H → Nat
  | (.string bytes, d) => bytes.length + uptoBulk d + 1
  | (_, d) => uptoBulk d + 1
 end
def uptoSmall : (H : Type) → List (DataW H) → Bool := fun _ ds => decide (uptoBulkAll ds ≤ 1048576)
def OpenSpec.upto (s : _root_.Go.ChangeSpec) : _root_.Go.OpenSpec := { _root_.Go.OpenSpec.ofChange s with cond := some uptoSmall }

/-- 'laws.FnAhead', WHERE WHAT IT READS IS OF BULK AT MOST 1048576: true; the input reads as it did. -/
def fnAheadUptoRow : OpenClaim := { program := "ytncnmgklnnpeeaa", sum := "6f51d040a5ff4f8ca69b057e36fbf82163891b27970afcd09f8c082c21c3bb78", func := "loop.example/g00663/laws.FnAhead", spec := "fnAhead", apart := false, narrowed := true }
def FnAheadUptoSaid : Prop := fnAheadUptoRow.holds Try.pinned (OpenSpec.upto fnAheadSpec)

/-- 'laws.FnRanked', WHERE WHAT IT READS IS OF BULK AT MOST 1048576: true; the input reads as it did. -/
def fnRankedUptoRow : OpenClaim := { program := "ytncnmgklnnpeeaa", sum := "6f51d040a5ff4f8ca69b057e36fbf82163891b27970afcd09f8c082c21c3bb78", func := "loop.example/g00663/laws.FnRanked", spec := "fnRanked", unfollowed := true, recurses := true, apart := false, narrowed := true }
def FnRankedUptoSaid : Prop := fnRankedUptoRow.holds Try.pinned (OpenSpec.upto fnRankedSpec)

/-- 'laws.FnTopFirst', WHERE WHAT IT READS IS OF BULK AT MOST 1048576: true; the input reads as it did. -/
def fnTopFirstUptoRow : OpenClaim := { program := "ytncnmgklnnpeeaa", sum := "6f51d040a5ff4f8ca69b057e36fbf82163891b27970afcd09f8c082c21c3bb78", func := "loop.example/g00663/laws.FnTopFirst", spec := "fnTopFirst", unfollowed := true, recurses := true, apart := false, narrowed := true }
def FnTopFirstUptoSaid : Prop := fnTopFirstUptoRow.holds Try.pinned (OpenSpec.upto fnTopFirstSpec)

end Rows
end Go.Proofs.Ytncnmgklnnpeeaa

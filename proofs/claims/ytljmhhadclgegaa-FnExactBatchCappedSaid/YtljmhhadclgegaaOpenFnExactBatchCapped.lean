/- The readings of the parameters of the law FnExactBatchCapped: what can be read as data says a value of the kind, in order. Conditions: none. -/
import Derived.Test.YtljmhhadclgegaaPFnExactBatchCappedx12
import Derived.Test.YtljmhhadclgegaaRowOpen
namespace Go.Proofs.Ytljmhhadclgegaa.OpenFnExactBatchCapped
open Go.RowKit Go.Proofs.Ytljmhhadclgegaa.PFnExactBatchCapped Go.Proofs.YtljmhhadclgegaaW.PrintWords Go.Proofs.Ytljmhhadclgegaa.RowOpen
structure S45 where
  f0 : Int
  f1 : (List Int)
  f2 : (List Int)
def k45 : Kd S45 := Kd.iso (Kd.pair (Kd.int .i64) (Kd.pair (Kd.slice 30 (Kd.int .u64)) (Kd.slice 30 (Kd.int .u64)))) (fun x : S45 => (x.f0, x.f1, x.f2))
/-- A value of the struct type 45 that can be read as data. -/
def ok45 (x : S45) : Prop := (Lit.int .i64 x.f0).wf = true ∧ (x.f1.length ≤ maxLen ∧ ∀ y, y ∈ x.f1 → (Lit.int .u64 y).wf = true) ∧ (x.f2.length ≤ maxLen ∧ ∀ y, y ∈ x.f2 → (Lit.int .u64 y).wf = true)
theorem opens45 : Opens Try.prog 45 k45 ok45 :=
  Opens.struct Try.underlying45 (by kernel_rfl) (OpensFs.cons rfl (by kernel_rfl) (Opens.int Try.underlying3) (OpensFs.cons rfl (by kernel_rfl) (Opens.slice Try.underlying27 (by kernel_rfl) (Opens.int Try.underlying30)) (OpensFs.one rfl (by kernel_rfl) (Opens.slice Try.underlying27 (by kernel_rfl) (Opens.int Try.underlying30))))) _ (fun p => (⟨p.1, p.2.1, p.2.2⟩ : S45)) (fun _ => rfl)
end Go.Proofs.Ytljmhhadclgegaa.OpenFnExactBatchCapped

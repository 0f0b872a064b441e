/- The readings of the parameters of the law FnExactStashDrop: what can be read as data says a value of the kind, in order. Conditions: none. -/
import Derived.Test.YtggfndobfpmoaaaPFnExactStashDropx5
import Derived.Test.YtggfndobfpmoaaaRowOpen
namespace Go.Proofs.Ytggfndobfpmoaaa.OpenFnExactStashDrop
open Go.RowKit Go.Proofs.Ytggfndobfpmoaaa.PFnExactStashDrop Go.Proofs.YtggfndobfpmoaaaW.PrintWords Go.Proofs.Ytggfndobfpmoaaa.RowOpen
/-- A value of the struct type 72 that can be read as data. -/
def ok72 (x : S72) : Prop := (Lit.int .i64 x.f0).wf = true ∧ (Lit.int .i64 x.f1).wf = true ∧ (x.f2.length ≤ maxLen ∧ ∀ y, y ∈ x.f2 → (Lit.int .u8 y).wf = true)
theorem opens72 : Opens Try.prog 72 k72 ok72 :=
  Opens.struct Try.underlying72 (by kernel_rfl) (OpensFs.cons rfl (by kernel_rfl) (Opens.int Try.underlying3) (OpensFs.cons rfl (by kernel_rfl) (Opens.int Try.underlying3) (OpensFs.one rfl (by kernel_rfl) (Opens.slice Try.underlying24 (by kernel_rfl) (Opens.int Try.underlying5))))) _ (fun p => (⟨p.1, p.2.1, p.2.2⟩ : S72)) (fun _ => rfl)
end Go.Proofs.Ytggfndobfpmoaaa.OpenFnExactStashDrop

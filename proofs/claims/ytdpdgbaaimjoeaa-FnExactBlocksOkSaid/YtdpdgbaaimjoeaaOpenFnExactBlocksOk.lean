/- The readings of the parameters of the law FnExactBlocksOk: what can be read as data says a value of the kind, in order. Conditions: none. -/
import Derived.Test.YtdpdgbaaimjoeaaPFnExactBlocksOkx5
import Derived.Test.YtdpdgbaaimjoeaaRowOpen
namespace Go.Proofs.Ytdpdgbaaimjoeaa.OpenFnExactBlocksOk
open Go.RowKit Go.Proofs.Ytdpdgbaaimjoeaa.PFnExactBlocksOk Go.Proofs.YtdpdgbaaimjoeaaW.PrintWords Go.Proofs.Ytdpdgbaaimjoeaa.RowOpen
/-- A value of the struct type 24 that can be read as data. -/
def ok24 (x : S24) : Prop := (Lit.int .i64 x.f0).wf = true ∧ (Lit.int .i64 x.f1).wf = true ∧ (x.f2.length ≤ maxLen ∧ ∀ y, y ∈ x.f2 → (Lit.int .u8 y).wf = true)
theorem opens24 : Opens Try.prog 24 k24 ok24 :=
  Opens.struct Try.underlying24 (by kernel_rfl) (OpensFs.cons rfl (by kernel_rfl) (Opens.int Try.underlying3) (OpensFs.cons rfl (by kernel_rfl) (Opens.int Try.underlying3) (OpensFs.one rfl (by kernel_rfl) (Opens.slice Try.underlying22 (by kernel_rfl) (Opens.int Try.underlying5))))) _ (fun p => (⟨p.1, p.2.1, p.2.2⟩ : S24)) (fun _ => rfl)
end Go.Proofs.Ytdpdgbaaimjoeaa.OpenFnExactBlocksOk

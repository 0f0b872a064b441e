/- The readings of the parameters of the law FnExactNodeOk: what can be read as data says a value of the kind, in order. Conditions: none. -/
import Derived.Test.YtdpdgbaaimjoeaaPFnExactNodeOkx6
import Derived.Test.YtdpdgbaaimjoeaaRowOpen
namespace Go.Proofs.Ytdpdgbaaimjoeaa.OpenFnExactNodeOk
open Go.RowKit Go.Proofs.Ytdpdgbaaimjoeaa.PFnExactNodeOk Go.Proofs.YtdpdgbaaimjoeaaW.PrintWords Go.Proofs.Ytdpdgbaaimjoeaa.RowOpen
/-- A value of the struct type 24 that can be read as data. -/
def ok24 (x : S24) : Prop := (Lit.int .i64 x.f0).wf = true ∧ (Lit.int .i64 x.f1).wf = true ∧ (x.f2.length ≤ maxLen ∧ ∀ y, y ∈ x.f2 → (Lit.int .u8 y).wf = true)
theorem opens24 : Opens Try.prog 24 k24 ok24 :=
  Opens.struct Try.underlying24 (by kernel_rfl) (OpensFs.cons rfl (by kernel_rfl) (Opens.int Try.underlying3) (OpensFs.cons rfl (by kernel_rfl) (Opens.int Try.underlying3) (OpensFs.one rfl (by kernel_rfl) (Opens.slice Try.underlying22 (by kernel_rfl) (Opens.int Try.underlying5))))) _ (fun p => (⟨p.1, p.2.1, p.2.2⟩ : S24)) (fun _ => rfl)
structure S39 where
  f0 : (List S24)
def k39 : Kd S39 := Kd.iso (Kd.slice 24 k24) (fun x : S39 => x.f0)
/-- A value of the struct type 39 that can be read as data. -/
def ok39 (x : S39) : Prop := (x.f0.length ≤ maxLen ∧ ∀ y, y ∈ x.f0 → ok24 y)
theorem opens39 : Opens Try.prog 39 k39 ok39 :=
  Opens.struct Try.underlying39 (by kernel_rfl) (OpensFs.one rfl (by kernel_rfl) (Opens.slice Try.underlying31 (by kernel_rfl) opens24)) _ (fun p => (⟨p⟩ : S39)) (fun _ => rfl)
end Go.Proofs.Ytdpdgbaaimjoeaa.OpenFnExactNodeOk

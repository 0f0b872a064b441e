/- The readings of the parameters of the law FnExactNodeOf: what can be read as data says a value of the kind, in order. Conditions: none. -/
import Derived.Test.YtggfndobfpmoaaaPFnExactNodeOfx8
import Derived.Test.YtggfndobfpmoaaaRowOpen
namespace Go.Proofs.Ytggfndobfpmoaaa.OpenFnExactNodeOf
open Go.RowKit Go.Proofs.Ytggfndobfpmoaaa.PFnExactNodeOf Go.Proofs.YtggfndobfpmoaaaW.PrintWords Go.Proofs.Ytggfndobfpmoaaa.RowOpen
/-- A value of the struct type 72 that can be read as data. -/
def ok72 (x : S72) : Prop := (Lit.int .i64 x.f0).wf = true ∧ (Lit.int .i64 x.f1).wf = true ∧ (x.f2.length ≤ maxLen ∧ ∀ y, y ∈ x.f2 → (Lit.int .u8 y).wf = true)
theorem opens72 : Opens Try.prog 72 k72 ok72 :=
  Opens.struct Try.underlying72 (by kernel_rfl) (OpensFs.cons rfl (by kernel_rfl) (Opens.int Try.underlying3) (OpensFs.cons rfl (by kernel_rfl) (Opens.int Try.underlying3) (OpensFs.one rfl (by kernel_rfl) (Opens.slice Try.underlying24 (by kernel_rfl) (Opens.int Try.underlying5))))) _ (fun p => (⟨p.1, p.2.1, p.2.2⟩ : S72)) (fun _ => rfl)
structure S48 where
  f0 : (List S72)
def k48 : Kd S48 := Kd.iso (Kd.slice 72 k72) (fun x : S48 => x.f0)
/-- A value of the struct type 48 that can be read as data. -/
def ok48 (x : S48) : Prop := (x.f0.length ≤ maxLen ∧ ∀ y, y ∈ x.f0 → ok72 y)
theorem opens48 : Opens Try.prog 48 k48 ok48 :=
  Opens.struct Try.underlying48 (by kernel_rfl) (OpensFs.one rfl (by kernel_rfl) (Opens.slice Try.underlying22 (by kernel_rfl) opens72)) _ (fun p => (⟨p⟩ : S48)) (fun _ => rfl)
end Go.Proofs.Ytggfndobfpmoaaa.OpenFnExactNodeOf

/- The readings of the parameters of the law FnExactNetSorts: what can be read as data says a value of the kind, in order. Conditions: none. -/
import Derived.Test.YtijikfllffjdhaaPFnExactNetSortsx5
import Derived.Test.YtijikfllffjdhaaRowOpen
namespace Go.Proofs.Ytijikfllffjdhaa.OpenFnExactNetSorts
open Go.RowKit Go.Proofs.Ytijikfllffjdhaa.PFnExactNetSorts Go.Proofs.YtijikfllffjdhaaW.PrintWords Go.Proofs.Ytijikfllffjdhaa.RowOpen
/-- A value of the struct type 73 that can be read as data. -/
def ok73 (x : S73) : Prop := (Lit.int .i64 x.f0).wf = true ∧ (Lit.int .i64 x.f1).wf = true
theorem opens73 : Opens Try.prog 73 k73 ok73 :=
  Opens.struct Try.underlying73 (by kernel_rfl) (OpensFs.cons rfl (by kernel_rfl) (Opens.int Try.underlying3) (OpensFs.one rfl (by kernel_rfl) (Opens.int Try.underlying3))) _ (fun p => (⟨p.1, p.2⟩ : S73)) (fun _ => rfl)
structure S32 where
  f0 : Int
  f1 : (List S73)
def k32 : Kd S32 := Kd.iso (Kd.pair (Kd.int .i64) (Kd.slice 73 k73)) (fun x : S32 => (x.f0, x.f1))
/-- A value of the struct type 32 that can be read as data. -/
def ok32 (x : S32) : Prop := (Lit.int .i64 x.f0).wf = true ∧ (x.f1.length ≤ maxLen ∧ ∀ y, y ∈ x.f1 → ok73 y)
theorem opens32 : Opens Try.prog 32 k32 ok32 :=
  Opens.struct Try.underlying32 (by kernel_rfl) (OpensFs.cons rfl (by kernel_rfl) (Opens.int Try.underlying3) (OpensFs.one rfl (by kernel_rfl) (Opens.slice Try.underlying30 (by kernel_rfl) opens73))) _ (fun p => (⟨p.1, p.2⟩ : S32)) (fun _ => rfl)
end Go.Proofs.Ytijikfllffjdhaa.OpenFnExactNetSorts

/- The readings of the parameters of the law FnExactNetJoin: what can be read as data says a value of the kind, in order. Conditions: none. -/
import Derived.Test.YtekfpjblakindaaPFnExactNetJoinx5
import Derived.Test.YtekfpjblakindaaRowOpen
namespace Go.Proofs.Ytekfpjblakindaa.OpenFnExactNetJoin
open Go.RowKit Go.Proofs.Ytekfpjblakindaa.PFnExactNetJoin Go.Proofs.YtekfpjblakindaaW.PrintWords Go.Proofs.Ytekfpjblakindaa.RowOpen
/-- A value of the struct type 72 that can be read as data. -/
def ok72 (x : S72) : Prop := (Lit.int .i64 x.f0).wf = true ∧ (Lit.int .i64 x.f1).wf = true
theorem opens72 : Opens Try.prog 72 k72 ok72 :=
  Opens.struct Try.underlying72 (by kernel_rfl) (OpensFs.cons rfl (by kernel_rfl) (Opens.int Try.underlying3) (OpensFs.one rfl (by kernel_rfl) (Opens.int Try.underlying3))) _ (fun p => (⟨p.1, p.2⟩ : S72)) (fun _ => rfl)
structure S37 where
  f0 : Int
  f1 : (List S72)
def k37 : Kd S37 := Kd.iso (Kd.pair (Kd.int .i64) (Kd.slice 72 k72)) (fun x : S37 => (x.f0, x.f1))
/-- A value of the struct type 37 that can be read as data. -/
def ok37 (x : S37) : Prop := (Lit.int .i64 x.f0).wf = true ∧ (x.f1.length ≤ maxLen ∧ ∀ y, y ∈ x.f1 → ok72 y)
theorem opens37 : Opens Try.prog 37 k37 ok37 :=
  Opens.struct Try.underlying37 (by kernel_rfl) (OpensFs.cons rfl (by kernel_rfl) (Opens.int Try.underlying3) (OpensFs.one rfl (by kernel_rfl) (Opens.slice Try.underlying35 (by kernel_rfl) opens72))) _ (fun p => (⟨p.1, p.2⟩ : S37)) (fun _ => rfl)
end Go.Proofs.Ytekfpjblakindaa.OpenFnExactNetJoin

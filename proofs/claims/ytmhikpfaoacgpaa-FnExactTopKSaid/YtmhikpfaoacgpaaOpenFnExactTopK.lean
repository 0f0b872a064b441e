/- The readings of the parameters of the law FnExactTopK: what can be read as data says a value of the kind, in order. Conditions: none. -/
import Derived.Test.YtmhikpfaoacgpaaPFnExactTopKx9
import Derived.Test.YtmhikpfaoacgpaaRowOpen
namespace Go.Proofs.Ytmhikpfaoacgpaa.OpenFnExactTopK
open Go.RowKit Go.Proofs.Ytmhikpfaoacgpaa.PFnExactTopK Go.Proofs.YtmhikpfaoacgpaaW.PrintWords Go.Proofs.Ytmhikpfaoacgpaa.RowOpen
/-- A value of the struct type 23 that can be read as data. -/
def ok23 (x : S23) : Prop := True ∧ (Lit.int .i64 x.f1).wf = true ∧ (Lit.int .i64 x.f2).wf = true ∧ x.f3.size ≤ maxLen
theorem opens23 : Opens Try.prog 23 k23 ok23 :=
  Opens.struct Try.underlying23 (by kernel_rfl) (OpensFs.cons rfl (by kernel_rfl) (Opens.bool Try.underlying4) (OpensFs.cons rfl (by kernel_rfl) (Opens.int Try.underlying3) (OpensFs.cons rfl (by kernel_rfl) (Opens.int Try.underlying3) (OpensFs.one rfl (by kernel_rfl) (Opens.string Try.underlying9))))) _ (fun p => (⟨p.1, p.2.1, p.2.2.1, p.2.2.2⟩ : S23)) (fun _ => rfl)
end Go.Proofs.Ytmhikpfaoacgpaa.OpenFnExactTopK

/- The readings of the parameters of the law FnExactRankBy: what can be read as data says a value of the kind, in order. Conditions: none. -/
import Derived.Test.YtmhikpfaoacgpaaPFnExactRankByx11
import Derived.Test.YtmhikpfaoacgpaaRowOpen
namespace Go.Proofs.Ytmhikpfaoacgpaa.OpenFnExactRankBy
open Go.RowKit Go.Proofs.Ytmhikpfaoacgpaa.PFnExactRankBy Go.Proofs.YtmhikpfaoacgpaaW.PrintWords Go.Proofs.Ytmhikpfaoacgpaa.RowOpen
/-- A value of the struct type 102 that can be read as data. -/
def ok102 (x : S102) : Prop := (Lit.int .i64 x.f0).wf = true ∧ (Lit.int .i64 x.f1).wf = true
theorem opens102 : Opens Try.prog 102 k102 ok102 :=
  Opens.struct Try.underlying102 (by kernel_rfl) (OpensFs.cons rfl (by kernel_rfl) (Opens.int Try.underlying3) (OpensFs.one rfl (by kernel_rfl) (Opens.int Try.underlying3))) _ (fun p => (⟨p.1, p.2⟩ : S102)) (fun _ => rfl)
structure S54 where
  f0 : Int
  f1 : (List S102)
def k54 : Kd S54 := Kd.iso (Kd.pair (Kd.int .i64) (Kd.slice 102 k102)) (fun x : S54 => (x.f0, x.f1))
/-- A value of the struct type 54 that can be read as data. -/
def ok54 (x : S54) : Prop := (Lit.int .i64 x.f0).wf = true ∧ (x.f1.length ≤ maxLen ∧ ∀ y, y ∈ x.f1 → ok102 y)
theorem opens54 : Opens Try.prog 54 k54 ok54 :=
  Opens.struct Try.underlying54 (by kernel_rfl) (OpensFs.cons rfl (by kernel_rfl) (Opens.int Try.underlying3) (OpensFs.one rfl (by kernel_rfl) (Opens.slice Try.underlying52 (by kernel_rfl) opens102))) _ (fun p => (⟨p.1, p.2⟩ : S54)) (fun _ => rfl)
/-- A value of the struct type 23 that can be read as data. -/
def ok23 (x : S23) : Prop := True ∧ (Lit.int .i64 x.f1).wf = true ∧ (Lit.int .i64 x.f2).wf = true ∧ x.f3.size ≤ maxLen
theorem opens23 : Opens Try.prog 23 k23 ok23 :=
  Opens.struct Try.underlying23 (by kernel_rfl) (OpensFs.cons rfl (by kernel_rfl) (Opens.bool Try.underlying4) (OpensFs.cons rfl (by kernel_rfl) (Opens.int Try.underlying3) (OpensFs.cons rfl (by kernel_rfl) (Opens.int Try.underlying3) (OpensFs.one rfl (by kernel_rfl) (Opens.string Try.underlying9))))) _ (fun p => (⟨p.1, p.2.1, p.2.2.1, p.2.2.2⟩ : S23)) (fun _ => rfl)
end Go.Proofs.Ytmhikpfaoacgpaa.OpenFnExactRankBy

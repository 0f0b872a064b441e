/- The program's TreeNodes returns what the reference's returns, for every int. Conditions: none. -/
import Derived.Test.YtccoipncjfgbeaaPFnExactTreeNodesx1
namespace Go.Proofs.Ytccoipncjfgbeaa.Pure
open Go.RowKit Go.Proofs.Ytccoipncjfgbeaa.PFnExactTreeNodes Go.Proofs.YtccoipncjfgbeaaW.PrintWords Go.Proofs.YtccoipncjfgbeaaW.PrintLast Go.Proofs.YtccoipncjfgbeaaW.PrintMore

theorem tree_all : ∀ n : Fin 7, laws_FnExactTreeNodes.f 9 (n.val : Int) = some true := by decide +kernel

theorem FnExactTreeNodes : laws_FnExactTreeNodes.Pure := by
  intro a0 _
  refine ⟨9, ?_⟩
  by_cases h1 : 0 ≤ a0 ∧ a0 ≤ 6
  · have := tree_all ⟨a0.toNat, by omega⟩
    rw [show ((⟨a0.toNat, by omega⟩ : Fin 7).val : Int) = a0 from by simp only; omega] at this
    exact this
  · unfold laws_FnExactTreeNodes.f spec_TreeNodes.f impl_TreeNodes.f impl_isLog.f impl_within.f spec_l11Log.f
    by_cases h2 : a0 ≥ 0
    · have h3 : decide (a0 ≤ 6) = false := decide_eq_false (by omega)
      rw [if_pos h2, h3]; rfl
    · rw [if_neg h2]; rfl

end Go.Proofs.Ytccoipncjfgbeaa.Pure

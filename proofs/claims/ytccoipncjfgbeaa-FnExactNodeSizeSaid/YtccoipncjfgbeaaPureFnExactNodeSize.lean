/- The program's NodeSize returns what the reference's returns, for every int. Conditions: none. -/
import Derived.Test.YtccoipncjfgbeaaPFnExactNodeSizex1
namespace Go.Proofs.Ytccoipncjfgbeaa.Pure
open Go.RowKit Go.Proofs.Ytccoipncjfgbeaa.PFnExactNodeSize Go.Proofs.YtccoipncjfgbeaaW.PrintWords Go.Proofs.YtccoipncjfgbeaaW.PrintLast Go.Proofs.YtccoipncjfgbeaaW.PrintMore

theorem FnExactNodeSize : laws_FnExactNodeSize.Pure := by
  intro a0 _
  unfold laws_FnExactNodeSize.f spec_NodeSize.f impl_NodeSize.f impl_within.f
  by_cases h1 : a0 < 1
  · have h2 : ¬ a0 ≥ 1 := by omega
    rw [if_pos h1, if_neg h2]; rfl
  · have h2 : a0 ≥ 1 := by omega
    rw [if_neg h1, if_pos h2]
    by_cases h3 : a0 > 200
    · have h4 : decide (a0 ≤ 200) = false := decide_eq_false (by omega)
      rw [if_pos h3, h4]; rfl
    · have h4 : decide (a0 ≤ 200) = true := decide_eq_true (by omega)
      rw [if_neg h3, h4]; simp

end Go.Proofs.Ytccoipncjfgbeaa.Pure

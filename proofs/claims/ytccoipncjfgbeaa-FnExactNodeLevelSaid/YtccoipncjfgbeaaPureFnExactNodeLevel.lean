/- The program's NodeLevel returns what the reference's returns, for every int. Conditions: none. -/
import Derived.Test.YtccoipncjfgbeaaPFnExactNodeLevelx1
namespace Go.Proofs.Ytccoipncjfgbeaa.Pure
open Go.RowKit Go.Proofs.Ytccoipncjfgbeaa.PFnExactNodeLevel Go.Proofs.YtccoipncjfgbeaaW.PrintWords Go.Proofs.YtccoipncjfgbeaaW.PrintLast Go.Proofs.YtccoipncjfgbeaaW.PrintMore

theorem level_all : ∀ n : Fin 128, laws_FnExactNodeLevel.f 9 (n.val : Int) = some true := by decide +kernel

theorem FnExactNodeLevel : laws_FnExactNodeLevel.Pure := by
  intro a0 _
  refine ⟨9, ?_⟩
  by_cases h1 : 0 ≤ a0 ∧ a0 ≤ 127
  · have := level_all ⟨a0.toNat, by omega⟩
    rw [show ((⟨a0.toNat, by omega⟩ : Fin 128).val : Int) = a0 from by simp only; omega] at this
    exact this
  · unfold laws_FnExactNodeLevel.f spec_NodeLevel.f impl_NodeLevel.f impl_within.f
    by_cases h2 : a0 < 1
    · have h3 : ¬ a0 ≥ 1 := by omega
      rw [if_pos h2, if_neg h3]; rfl
    · have h3 : a0 ≥ 1 := by omega
      have h4 : decide (a0 ≤ 127) = false := decide_eq_false (by omega)
      have h5 : decide (a0 > 127) = true := decide_eq_true (by omega)
      rw [if_neg h2, if_pos h3, h4, h5]; rfl

end Go.Proofs.Ytccoipncjfgbeaa.Pure

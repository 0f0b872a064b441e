/- The program's RankSize returns what the reference's returns, for every int. Conditions: none. -/
import Derived.Test.YtccoipncjfgbeaaPFnExactRankSizex1
namespace Go.Proofs.Ytccoipncjfgbeaa.Pure
open Go.RowKit Go.Proofs.Ytccoipncjfgbeaa.PFnExactRankSize Go.Proofs.YtccoipncjfgbeaaW.PrintWords Go.Proofs.YtccoipncjfgbeaaW.PrintLast Go.Proofs.YtccoipncjfgbeaaW.PrintMore

theorem rank_all : ∀ n : Fin 65, laws_FnExactRankSize.f 9 (n.val : Int) = some true := by decide +kernel

theorem FnExactRankSize : laws_FnExactRankSize.Pure := by
  intro a0 _
  refine ⟨9, ?_⟩
  by_cases h1 : 0 ≤ a0 ∧ a0 ≤ 64
  · have := rank_all ⟨a0.toNat, by omega⟩
    rw [show ((⟨a0.toNat, by omega⟩ : Fin 65).val : Int) = a0 from by simp only; omega] at this
    exact this
  · unfold laws_FnExactRankSize.f spec_RankSize.f impl_RankSize.f impl_rankSize.f impl_within.f
    by_cases h2 : a0 < 0
    · have h3 : ¬ a0 ≥ 0 := by omega
      rw [if_pos h2, if_neg h3]; rfl
    · have h3 : a0 ≥ 0 := by omega
      have h4 : decide (a0 ≤ 64) = false := decide_eq_false (by omega)
      have h5 : decide (a0 > 64) = true := decide_eq_true (by omega)
      rw [if_neg h2, if_pos h3, h4, h5]; rfl

end Go.Proofs.Ytccoipncjfgbeaa.Pure

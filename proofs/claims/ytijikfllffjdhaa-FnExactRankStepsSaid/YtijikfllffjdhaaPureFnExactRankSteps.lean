/- The program's RankSteps returns what the reference's returns, for every int. Conditions: none. -/
import Derived.Test.YtijikfllffjdhaaPFnExactRankStepsx2
namespace Go.Proofs.Ytijikfllffjdhaa.Pure
open Go.RowKit Go.Proofs.Ytijikfllffjdhaa.PFnExactRankSteps Go.Proofs.YtijikfllffjdhaaW.PrintWords Go.Proofs.YtijikfllffjdhaaW.PrintLast Go.Proofs.YtijikfllffjdhaaW.PrintMore
set_option linter.unusedVariables false
set_option linter.unusedSimpArgs false

theorem size_all : ∀ n : Nat, n < 65 → ∃ s : Nat, s < 7 ∧ spec_RankSize.f 3000 (n : Int) = some ((2 ^ s : Nat) : Int) ∧ impl_rankSize.f 3000 (n : Int) = some ((2 ^ s : Nat) : Int) := by
  have h : ∀ n : Fin 65, ∃ s : Fin 7, spec_RankSize.f 3000 (n.val : Int) = some ((2 ^ s.val : Nat) : Int) ∧ impl_rankSize.f 3000 (n.val : Int) = some ((2 ^ s.val : Nat) : Int) := by decide +kernel
  intro n hn
  obtain ⟨s, h1, h2⟩ := h ⟨n, hn⟩
  exact ⟨s.val, s.isLt, h1, h2⟩
def len2 (x : Option (Int × List S60)) : Int := match x with | none => -1 | some y => (y.2.length : Int)
set_option maxRecDepth 100000 in
theorem steps_all : ∀ s : Fin 7, len2 (spec_Bitonic.f 3000 ((2 ^ s.val : Nat) : Int)) = len2 (impl_bitonic.f 3000 ((2 ^ s.val : Nat) : Int)) ∧ len2 (impl_bitonic.f 3000 ((2 ^ s.val : Nat) : Int)) ≠ -1 := by decide +kernel

theorem FnExactRankSteps : laws_FnExactRankSteps.Pure := by
  intro a0 _
  refine ⟨3000, ?_⟩
  by_cases h : 0 ≤ a0 ∧ a0 ≤ 64
  · obtain ⟨n, rfl⟩ := Int.eq_ofNat_of_zero_le h.1
    obtain ⟨s, hs, e1, e2⟩ := size_all n (by omega)
    obtain ⟨q1, q2⟩ := steps_all ⟨s, hs⟩
    simp only at q1 q2
    unfold laws_FnExactRankSteps.f spec_RankSteps.f impl_RankSteps.f impl_within.f
    rw [e1, e2]
    have hp : ¬ (((2 ^ s : Nat) : Int) < 0) := Int.not_lt.mpr (Int.natCast_nonneg _)
    rw [if_pos (show (n : Int) ≥ 0 by omega), decide_eq_true (show (n : Int) ≤ 64 by omega)]
    simp only [Option.bind_some, if_true]
    rw [if_neg hp]
    cases x : spec_Bitonic.f 3000 ((2 ^ s : Nat) : Int) with
    | none => rw [x] at q1; exact absurd q1.symm q2
    | some y =>
      cases z : impl_bitonic.f 3000 ((2 ^ s : Nat) : Int) with
      | none => rw [z] at q2; exact absurd rfl q2
      | some w =>
        rw [x, z] at q1
        simp only [len2] at q1
        simp only [Option.bind_some]
        rw [if_pos q1.symm]
  · unfold laws_FnExactRankSteps.f spec_RankSteps.f impl_RankSteps.f impl_within.f spec_RankSize.f
    by_cases h2 : a0 < 0
    · have h3 : ¬ a0 ≥ 0 := by omega
      rw [if_pos h2, if_neg h3]; rfl
    · have h3 : a0 ≥ 0 := by omega
      have h4 : decide (a0 ≤ 64) = false := decide_eq_false (by omega)
      have h5 : decide (a0 > 64) = true := decide_eq_true (by omega)
      rw [if_neg h2, if_pos h3, h4, h5]; rfl

end Go.Proofs.Ytijikfllffjdhaa.Pure

/- The program's NodeLeaves returns what the reference's returns, for all ints. Conditions: none. -/
import Derived.Test.YtccoipncjfgbeaaPFnExactNodeLeavesx2
namespace Go.Proofs.Ytccoipncjfgbeaa.Pure
open Go.RowKit Go.Proofs.Ytccoipncjfgbeaa.PFnExactNodeLeaves Go.Proofs.YtccoipncjfgbeaaW.PrintWords Go.Proofs.YtccoipncjfgbeaaW.PrintLast Go.Proofs.YtccoipncjfgbeaaW.PrintMore
set_option linter.unusedVariables false
set_option linter.unusedSimpArgs false

theorem pow_all : ∀ l : Nat, l < 7 → spec_l02Pow.f 200 (l : Int) = some ((2 ^ l : Nat) : Int) := by decide +kernel
theorem tree_all : ∀ l : Nat, l < 7 → impl_treeNodes.f (l : Int) = some (((2 ^ (l + 1) : Nat) : Int) - 1) ∧ spec_TreeNodes.f 200 (l : Int) = some (((2 ^ (l + 1) : Nat) : Int) - 1) := by decide +kernel
def okAt (l n : Nat) : Bool := decide (laws_FnExactNodeLeaves.f 200 (l : Int) (n : Int) = some true)
theorem leaves_all : ∀ l, l < 7 → ∀ n, n < 2 ^ (l + 1) → okAt l n = true := by decide +kernel

theorem no_log (a0 : Int) (h : ¬ (0 ≤ a0 ∧ a0 ≤ 6)) : impl_isLog.f a0 = some false ∧ spec_TreeNodes.f 200 a0 = some (-1) := by
  unfold impl_isLog.f impl_within.f spec_TreeNodes.f spec_l11Log.f
  by_cases h2 : a0 ≥ 0
  · have h3 : decide (a0 ≤ 6) = false := decide_eq_false (by omega)
    rw [if_pos h2, h3]; exact ⟨rfl, rfl⟩
  · rw [if_neg h2]; exact ⟨rfl, rfl⟩

theorem FnExactNodeLeaves : laws_FnExactNodeLeaves.Pure := by
  intro a0 a1 _ _
  refine ⟨200, ?_⟩
  by_cases hl : 0 ≤ a0 ∧ a0 ≤ 6
  · obtain ⟨l, rfl⟩ := Int.eq_ofNat_of_zero_le hl.1
    by_cases hn : 0 ≤ a1 ∧ a1 < ((2 ^ (l + 1) : Nat) : Int)
    · obtain ⟨n, rfl⟩ := Int.eq_ofNat_of_zero_le hn.1
      exact of_decide_eq_true (leaves_all l (by omega) n (by omega))
    · obtain ⟨t1, t2⟩ := tree_all l (by omega)
      unfold laws_FnExactNodeLeaves.f spec_NodeLeaves.f impl_NodeLeaves.f impl_isTreeNode.f impl_isLog.f impl_within.f
      rw [t1, t2]
      have d1 : decide ((l : Int) ≤ 6) = true := decide_eq_true (by omega)
      rw [if_pos (show (l : Int) ≥ 0 by omega), d1]
      by_cases h3 : a1 < 1
      · rw [if_pos h3]
        simp only [Option.bind_some, if_true]
        rw [if_neg (by omega)]; rfl
      · rw [if_neg h3]
        simp only [Option.bind_some, if_true]
        have d2 : decide (a1 ≤ ((2 ^ (l + 1) : Nat) : Int) - 1) = false := decide_eq_false (by omega)
        have d3 : decide (a1 > ((2 ^ (l + 1) : Nat) : Int) - 1) = true := decide_eq_true (by omega)
        rw [if_pos (by omega), d2, d3]; rfl
  · obtain ⟨t1, t2⟩ := no_log a0 hl
    unfold laws_FnExactNodeLeaves.f spec_NodeLeaves.f impl_NodeLeaves.f
    rw [t1, t2]
    by_cases h3 : a1 < 1
    · rw [if_pos h3]; rfl
    · have d3 : decide (a1 > -1) = true := decide_eq_true (by omega)
      rw [if_neg h3]
      simp only [Option.bind_some]
      rw [d3]; rfl

end Go.Proofs.Ytccoipncjfgbeaa.Pure

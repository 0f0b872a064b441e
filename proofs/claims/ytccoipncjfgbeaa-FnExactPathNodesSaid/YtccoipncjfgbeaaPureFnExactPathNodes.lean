/- The program's PathNodes returns what the reference's returns, in memory of its own, for all ints. Conditions: none. -/
import Derived.Test.YtccoipncjfgbeaaPFnExactPathNodesx2
namespace Go.Proofs.Ytccoipncjfgbeaa.Pure
open Go.RowKit Go.Proofs.Ytccoipncjfgbeaa.PFnExactPathNodes Go.Proofs.YtccoipncjfgbeaaW.PrintWords Go.Proofs.YtccoipncjfgbeaaW.PrintLast Go.Proofs.YtccoipncjfgbeaaW.PrintMore

def okAt (l : Nat) (x : Nat) : Bool := decide (laws_FnExactPathNodes.f 20 (l : Int) (x : Int) = some true)
theorem path_all : ∀ l, l < 7 → ∀ x, x < 2 ^ l → okAt l x = true := by decide +kernel
theorem pow_all : ∀ l : Nat, l < 7 → spec_l02Pow.f 20 (l : Int) = some ((2 ^ l : Nat) : Int) ∧ wrap64 ((shl .i64 1 (l : Int)) - 1) = ((2 ^ l : Nat) : Int) - 1 := by decide +kernel
theorem path_no (a0 a1 : Int) (h1 : spec_l11Leaf.f 20 a0 a1 = some false) (h2 : impl_isLeaf.f a0 a1 = some false) : laws_FnExactPathNodes.f 20 a0 a1 = some true := by
  unfold laws_FnExactPathNodes.f spec_PathNodes.f impl_PathNodes.f
  rw [h1, h2]
  simp only [Option.bind_some, Bool.false_eq_true, if_false]
  decide +kernel

theorem FnExactPathNodes : laws_FnExactPathNodes.Pure := by
  intro a0 a1 _ _
  refine ⟨20, ?_⟩
  by_cases h1 : 0 ≤ a0 ∧ a0 ≤ 6
  · obtain ⟨l, rfl⟩ := Int.eq_ofNat_of_zero_le h1.1
    obtain ⟨e1, e2⟩ := pow_all l (by omega)
    have d1 : (l : Int) ≥ 0 := by omega
    have d2 : decide ((l : Int) ≤ 6) = true := decide_eq_true (by omega)
    by_cases h2 : 0 ≤ a1 ∧ a1 < ((2 ^ l : Nat) : Int)
    · obtain ⟨x, rfl⟩ := Int.eq_ofNat_of_zero_le h2.1
      exact of_decide_eq_true (path_all l (by omega) x (by omega))
    · apply path_no
      · unfold spec_l11Leaf.f spec_l11Log.f
        rw [if_pos d1, d2, e1]
        by_cases h3 : a1 ≥ 0
        · have d3 : decide (a1 < ((2 ^ l : Nat) : Int)) = false := decide_eq_false (by omega)
          simp only [Option.bind_some, if_true]
          rw [if_pos h3, d3]
        · simp only [Option.bind_some, if_true]
          rw [if_neg h3]
      · unfold impl_isLeaf.f impl_isLog.f impl_within.f
        rw [if_pos d1, d2]
        simp only [Option.bind_some, if_true]
        rw [if_pos h1.1, e2]
        by_cases h3 : a1 ≥ 0
        · have d3 : decide (a1 ≤ ((2 ^ l : Nat) : Int) - 1) = false := decide_eq_false (by omega)
          rw [if_pos h3, d3]; rfl
        · rw [if_neg h3]; rfl
  · apply path_no
    · unfold spec_l11Leaf.f spec_l11Log.f
      by_cases h2 : a0 ≥ 0
      · have h3 : decide (a0 ≤ 6) = false := decide_eq_false (by omega)
        rw [if_pos h2, h3]; rfl
      · rw [if_neg h2]; rfl
    · unfold impl_isLeaf.f impl_isLog.f impl_within.f
      by_cases h2 : a0 ≥ 0
      · have h3 : decide (a0 ≤ 6) = false := decide_eq_false (by omega)
        rw [if_pos h2, h3]; rfl
      · rw [if_neg h2]; rfl

end Go.Proofs.Ytccoipncjfgbeaa.Pure

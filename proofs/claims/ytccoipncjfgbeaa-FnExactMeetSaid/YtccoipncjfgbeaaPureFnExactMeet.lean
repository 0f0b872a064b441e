/- The program's Meet returns what the reference's returns, for all ints. Conditions: none. -/
import Derived.Test.YtccoipncjfgbeaaPFnExactMeetx1
namespace Go.Proofs.Ytccoipncjfgbeaa.Pure
open Go.RowKit Go.Proofs.Ytccoipncjfgbeaa.PFnExactMeet Go.Proofs.YtccoipncjfgbeaaW.PrintWords Go.Proofs.YtccoipncjfgbeaaW.PrintLast Go.Proofs.YtccoipncjfgbeaaW.PrintMore

def okAt (l a b : Nat) : Bool := decide (laws_FnExactMeet.f 20 (l : Int) (a : Int) (b : Int) = some true)
theorem meet_all : ∀ l, l < 7 → ∀ a, a < 2 ^ l → ∀ b, b < 2 ^ l → okAt l a b = true := by decide +kernel
theorem pow_all : ∀ l : Nat, l < 7 → spec_l02Pow.f 20 (l : Int) = some ((2 ^ l : Nat) : Int) ∧ wrap64 ((shl .i64 1 (l : Int)) - 1) = ((2 ^ l : Nat) : Int) - 1 := by decide +kernel
def isL (a0 a1 : Int) : Bool := decide (0 ≤ a0 ∧ a0 ≤ 6 ∧ 0 ≤ a1 ∧ a1 < ((2 ^ a0.toNat : Nat) : Int))
theorem pow_k (k l : Nat) (hk : 20 ≤ k) (hl : l < 7) : spec_l02Pow.f k (l : Int) = some ((2 ^ l : Nat) : Int) :=
  at_rounds (g := fun k => spec_l02Pow.f k (l : Int)) (fun k => spec_l02Pow.mono (l : Int) k) hk (pow_all l hl).1
theorem leaf_spec (k : Nat) (hk : 20 ≤ k) (a0 a1 : Int) : spec_l11Leaf.f k a0 a1 = some (isL a0 a1) := by
  unfold spec_l11Leaf.f spec_l11Log.f isL
  by_cases h1 : 0 ≤ a0 ∧ a0 ≤ 6
  · obtain ⟨l, rfl⟩ := Int.eq_ofNat_of_zero_le h1.1
    have e1 := pow_k k l hk (by omega)
    have d1 : (l : Int) ≥ 0 := by omega
    have d2 : decide ((l : Int) ≤ 6) = true := decide_eq_true (by omega)
    rw [if_pos d1, d2, e1, Int.toNat_natCast]
    simp only [Option.bind_some, if_true]
    by_cases h3 : a1 ≥ 0
    · rw [if_pos h3]; congr 1; apply decide_eq_decide.2; omega
    · rw [if_neg h3]; congr 1; symm; apply decide_eq_false; omega
  · have e : decide (0 ≤ a0 ∧ a0 ≤ 6 ∧ 0 ≤ a1 ∧ a1 < ((2 ^ a0.toNat : Nat) : Int)) = false := decide_eq_false (by omega)
    rw [e]
    by_cases h2 : a0 ≥ 0
    · have h3 : decide (a0 ≤ 6) = false := decide_eq_false (by omega)
      rw [if_pos h2, h3]; rfl
    · rw [if_neg h2]; rfl
theorem leaf_impl (a0 a1 : Int) : impl_isLeaf.f a0 a1 = some (isL a0 a1) := by
  unfold impl_isLeaf.f impl_isLog.f impl_within.f isL
  by_cases h1 : 0 ≤ a0 ∧ a0 ≤ 6
  · obtain ⟨l, rfl⟩ := Int.eq_ofNat_of_zero_le h1.1
    have e2 := (pow_all l (by omega)).2
    have d1 : (l : Int) ≥ 0 := by omega
    have d2 : decide ((l : Int) ≤ 6) = true := decide_eq_true (by omega)
    rw [if_pos d1, d2, Int.toNat_natCast]
    simp only [Option.bind_some, if_true]
    rw [if_pos h1.1, e2]
    by_cases h3 : a1 ≥ 0
    · rw [if_pos h3]
      show some _ = some _
      congr 1; apply decide_eq_decide.2; omega
    · rw [if_neg h3]
      show some _ = some _
      congr 1; symm; apply decide_eq_false; omega
  · have e : decide (0 ≤ a0 ∧ a0 ≤ 6 ∧ 0 ≤ a1 ∧ a1 < ((2 ^ a0.toNat : Nat) : Int)) = false := decide_eq_false (by omega)
    rw [e]
    by_cases h2 : a0 ≥ 0
    · have h3 : decide (a0 ≤ 6) = false := decide_eq_false (by omega)
      rw [if_pos h2, h3]; rfl
    · rw [if_neg h2]; rfl
theorem FnExactMeet : laws_FnExactMeet.Pure := by
  intro a0 a1 a2 _ _ _
  refine ⟨20, ?_⟩
  by_cases h : isL a0 a1 = true ∧ isL a0 a2 = true
  · obtain ⟨h1, h2⟩ := h
    simp only [isL, decide_eq_true_eq] at h1 h2
    obtain ⟨l, rfl⟩ := Int.eq_ofNat_of_zero_le h1.1
    obtain ⟨x, rfl⟩ := Int.eq_ofNat_of_zero_le h1.2.2.1
    obtain ⟨y, rfl⟩ := Int.eq_ofNat_of_zero_le h2.2.2.1
    rw [Int.toNat_natCast] at h1 h2
    exact of_decide_eq_true (meet_all l (by omega) x (by omega) y (by omega))
  · unfold laws_FnExactMeet.f spec_Meet.f impl_Meet.f
    rw [leaf_spec 20 (by omega), leaf_spec 20 (by omega), leaf_impl, leaf_impl]
    cases e1 : isL a0 a1 with
    | false => simp [spec_Meet.j0]
    | true =>
      cases e2 : isL a0 a2 with
      | false => simp [spec_Meet.j0]
      | true => exact absurd ⟨e1, e2⟩ h

end Go.Proofs.Ytccoipncjfgbeaa.Pure

/- The program's OnPath returns what the reference's returns, for all ints. Conditions: none. -/
import Derived.Test.YtccoipncjfgbeaaPFnExactOnPathx1
namespace Go.Proofs.Ytccoipncjfgbeaa.Pure
open Go.RowKit Go.Proofs.Ytccoipncjfgbeaa.PFnExactOnPath Go.Proofs.YtccoipncjfgbeaaW.PrintWords Go.Proofs.YtccoipncjfgbeaaW.PrintLast Go.Proofs.YtccoipncjfgbeaaW.PrintMore

theorem pow_all : ∀ l : Nat, l < 7 → spec_l02Pow.f 20 (l : Int) = some ((2 ^ l : Nat) : Int) ∧ wrap64 ((shl .i64 1 (l : Int)) - 1) = ((2 ^ l : Nat) : Int) - 1 := by decide +kernel
def isL (a0 a1 : Int) : Bool := decide (0 ≤ a0 ∧ a0 ≤ 6 ∧ 0 ≤ a1 ∧ a1 < ((2 ^ a0.toNat : Nat) : Int))
theorem leaf_spec (a0 a1 : Int) : spec_l11Leaf.f 20 a0 a1 = some (isL a0 a1) := by
  unfold spec_l11Leaf.f spec_l11Log.f isL
  by_cases h1 : 0 ≤ a0 ∧ a0 ≤ 6
  · obtain ⟨l, rfl⟩ := Int.eq_ofNat_of_zero_le h1.1
    have e1 := (pow_all l (by omega)).1
    have d1 : (l : Int) ≥ 0 := by omega
    have d2 : decide ((l : Int) ≤ 6) = true := decide_eq_true (by omega)
    rw [if_pos d1, d2, e1, Int.toNat_natCast]
    simp only [Option.bind_some, if_true]
    by_cases h3 : a1 ≥ 0
    · rw [if_pos h3]; congr 1; apply decide_eq_decide.2; omega
    · rw [if_neg h3]; congr 1; symm; apply decide_eq_false; omega
  · have e : decide (0 ≤ a0 ∧ a0 ≤ 6 ∧ 0 ≤ a1 ∧ a1 < ((2 ^ a0.toNat : Nat) : Int)) = false := decide_eq_false (by omega)
    rw [e]
    by_cases h2 : a0 ≥ 0
    · have h3 : decide (a0 ≤ 6) = false := decide_eq_false (by omega)
      rw [if_pos h2, h3]; rfl
    · rw [if_neg h2]; rfl
theorem leaf_impl (a0 a1 : Int) : impl_isLeaf.f a0 a1 = some (isL a0 a1) := by
  unfold impl_isLeaf.f impl_isLog.f impl_within.f isL
  by_cases h1 : 0 ≤ a0 ∧ a0 ≤ 6
  · obtain ⟨l, rfl⟩ := Int.eq_ofNat_of_zero_le h1.1
    have e2 := (pow_all l (by omega)).2
    have d1 : (l : Int) ≥ 0 := by omega
    have d2 : decide ((l : Int) ≤ 6) = true := decide_eq_true (by omega)
    rw [if_pos d1, d2, Int.toNat_natCast]
    simp only [Option.bind_some, if_true]
    rw [if_pos h1.1, e2]
    by_cases h3 : a1 ≥ 0
    · rw [if_pos h3]
      show some _ = some _
      congr 1; apply decide_eq_decide.2; omega
    · rw [if_neg h3]
      show some _ = some _
      congr 1; symm; apply decide_eq_false; omega
  · have e : decide (0 ≤ a0 ∧ a0 ≤ 6 ∧ 0 ≤ a1 ∧ a1 < ((2 ^ a0.toNat : Nat) : Int)) = false := decide_eq_false (by omega)
    rw [e]
    by_cases h2 : a0 ≥ 0
    · have h3 : decide (a0 ≤ 6) = false := decide_eq_false (by omega)
      rw [if_pos h2, h3]; rfl
    · rw [if_neg h2]; rfl
def P (l x : Nat) : List Int := (List.range (l + 1)).map fun v => (((2 ^ l + x) / 2 ^ (l - v) : Nat) : Int)
theorem P_all : ∀ l : Nat, l < 7 → ∀ x : Nat, x < 2 ^ l → spec_PathNodes.f 20 (l : Int) (x : Int) = some (P l x) ∧ (P l x).length = l + 1 ∧ ∀ y, y ∈ P l x → 1 ≤ y ∧ y < ((2 ^ (l + 1) : Nat) : Int) := by decide +kernel
theorem tree_all : ∀ l : Nat, l < 7 → impl_treeNodes.f (l : Int) = some (((2 ^ (l + 1) : Nat) : Int) - 1) := by decide +kernel
def okAt (l x n : Nat) : Bool := decide (impl_onPath.f (l : Int) (n : Int) (x : Int) = some (decide ((n : Int) ∈ P l x)))
theorem on_all : ∀ l, l < 7 → ∀ x, x < 2 ^ l → ∀ n, n < 2 ^ (l + 1) → 1 ≤ n → okAt l x n = true := by decide +kernel

theorem loop_on (node : Int) (xs : List Int) (hx : xs.length < 1000) : ∀ (d k : Nat) (i : Nat), i ≤ xs.length → xs.length - i = d → d < k →
    spec_OnPath.l0 k node xs (i : Int) = some (decide (node ∈ xs.drop i)) := by
  intro d
  induction d with
  | zero =>
    intro k i h0 hd hk
    obtain ⟨k, rfl⟩ : ∃ m, k = m + 1 := ⟨k - 1, by omega⟩
    simp only [spec_OnPath.l0]
    rw [if_neg (by omega), List.drop_eq_nil_of_le (by omega)]
    simp
  | succ d ih =>
    intro k i h0 hd hk
    obtain ⟨k, rfl⟩ : ∃ m, k = m + 1 := ⟨k - 1, by omega⟩
    have hlt : i < xs.length := by omega
    simp only [spec_OnPath.l0]
    rw [if_pos (by omega), if_pos (by omega)]
    have hr : rd xs (i : Int) = xs[i] := by simp [rd, hlt]
    rw [hr, List.drop_eq_getElem_cons hlt]
    by_cases e : xs[i] = node
    · rw [if_pos e]; simp [e]
    · rw [if_neg e, show wrap64 ((i : Int) + 1) = ((i + 1 : Nat) : Int) from by unfold wrap64; omega, ih k (i + 1) (by omega) (by omega) (by omega)]
      have e' : ¬ node = xs[i] := fun h => e h.symm
      congr 1
      apply decide_eq_decide.2
      rw [List.mem_cons]
      exact ⟨fun h => .inr h, fun h => h.resolve_left e'⟩

theorem FnExactOnPath : laws_FnExactOnPath.Pure := by
  intro a0 a1 a2 _ _ _
  refine ⟨20, ?_⟩
  cases h : isL a0 a2 with
  | false =>
    unfold laws_FnExactOnPath.f spec_OnPath.f impl_OnPath.f spec_PathNodes.f
    rw [leaf_spec, leaf_impl, h]
    simp [spec_OnPath.l0]
  | true =>
    have h1 := h
    simp only [isL, decide_eq_true_eq] at h1
    obtain ⟨l, rfl⟩ := Int.eq_ofNat_of_zero_le h1.1
    obtain ⟨x, rfl⟩ := Int.eq_ofNat_of_zero_le h1.2.2.1
    rw [Int.toNat_natCast] at h1
    have hx : x < 2 ^ l := by omega
    obtain ⟨p1, p2, p3⟩ := P_all l (by omega) x hx
    unfold laws_FnExactOnPath.f spec_OnPath.f impl_OnPath.f impl_isTreeNode.f impl_within.f
    rw [p1, leaf_impl, h, tree_all l (by omega)]
    simp only [Option.bind_some, if_true]
    have hl := loop_on a1 (P l x) (by omega) (l + 1) 20 0 (by omega) (by omega) (by omega)
    rw [show ((0 : Nat) : Int) = 0 from rfl] at hl
    rw [hl, List.drop_zero]
    simp only [Option.bind_some]
    by_cases hn : 1 ≤ a1 ∧ a1 < ((2 ^ (l + 1) : Nat) : Int)
    · obtain ⟨n, rfl⟩ := Int.eq_ofNat_of_zero_le (show 0 ≤ a1 by omega)
      have ho := of_decide_eq_true (on_all l (by omega) x hx n (by omega) (by omega))
      have d : decide ((n : Int) ≤ ((2 ^ (l + 1) : Nat) : Int) - 1) = true := decide_eq_true (by omega)
      rw [if_pos (by omega), d]
      simp only [Option.bind_some, if_true]
      rw [ho]
      simp
    · have hm : decide (a1 ∈ P l x) = false := decide_eq_false (fun hm => hn (p3 a1 hm))
      rw [hm]
      by_cases h3 : a1 ≥ 1
      · have d : decide (a1 ≤ ((2 ^ (l + 1) : Nat) : Int) - 1) = false := decide_eq_false (by omega)
        rw [if_pos h3, d]; rfl
      · rw [if_neg h3]; rfl

end Go.Proofs.Ytccoipncjfgbeaa.Pure

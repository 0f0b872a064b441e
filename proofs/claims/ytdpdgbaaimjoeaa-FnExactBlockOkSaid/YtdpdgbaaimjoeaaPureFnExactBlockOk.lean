/- The program's BlockOk returns what the reference's returns and leaves its argument as it was, for every block and all ints. Conditions: none. -/
import Derived.Test.YtdpdgbaaimjoeaaOpenFnExactBlockOk
namespace Go.Proofs.Ytdpdgbaaimjoeaa.Pure
open Go.RowKit Go.Proofs.Ytdpdgbaaimjoeaa.OpenFnExactBlockOk Go.Proofs.Ytdpdgbaaimjoeaa.RowOpen Go.Proofs.Ytdpdgbaaimjoeaa.PFnExactBlockOk Go.Proofs.YtdpdgbaaimjoeaaW.PrintWords Go.Proofs.YtdpdgbaaimjoeaaW.PrintLast Go.Proofs.YtdpdgbaaimjoeaaW.PrintMore
set_option linter.unusedVariables false
set_option linter.unusedSimpArgs false

theorem pow_all : ∀ l : Nat, l < 7 → spec_l02Pow.f 20 (l : Int) = some ((2 ^ l : Nat) : Int) ∧ wrap64 ((shl .i64 1 (l : Int)) - 1) = ((2 ^ l : Nat) : Int) - 1 := by decide +kernel
def isL (a0 a1 : Int) : Bool := decide (0 ≤ a0 ∧ a0 ≤ 6 ∧ 0 ≤ a1 ∧ a1 < ((2 ^ a0.toNat : Nat) : Int))
theorem pow_k (k l : Nat) (hk : 20 ≤ k) (hl : l < 7) : spec_l02Pow.f k (l : Int) = some ((2 ^ l : Nat) : Int) :=
  at_rounds (g := fun k => spec_l02Pow.f k (l : Int)) (fun k => spec_l02Pow.mono (l : Int) k) hk (pow_all l hl).1
theorem leaf_spec (k : Nat) (hk : 20 ≤ k) (a0 a1 : Int) : spec_l11Leaf.f k a0 a1 = some (isL a0 a1) := by
  unfold spec_l11Leaf.f spec_l11Log.f isL
  by_cases h1 : 0 ≤ a0 ∧ a0 ≤ 6
  · obtain ⟨l, rfl⟩ := Int.eq_ofNat_of_zero_le h1.1
    have e1 := pow_k k l hk (by omega)
    have d1 : (l : Int) ≥ 0 := by omega
    have d2 : decide ((l : Int) ≤ 6) = true := decide_eq_true (by omega)
    rw [if_pos d1, d2, e1, Int.toNat_natCast]
    simp only [Option.bind_some, if_true]
    by_cases h3 : a1 ≥ 0
    · rw [if_pos h3]; congr 1; apply decide_eq_decide.2; omega
    · rw [if_neg h3]; congr 1; symm; apply decide_eq_false; omega
  · have e : decide (0 ≤ a0 ∧ a0 ≤ 6 ∧ 0 ≤ a1 ∧ a1 < ((2 ^ a0.toNat : Nat) : Int)) = false := decide_eq_false (by omega)
    rw [e]
    by_cases h2 : a0 ≥ 0
    · have h3 : decide (a0 ≤ 6) = false := decide_eq_false (by omega)
      rw [if_pos h2, h3]; rfl
    · rw [if_neg h2]; rfl
theorem leaf_impl (a0 a1 : Int) : impl_isLeaf.f a0 a1 = some (isL a0 a1) := by
  unfold impl_isLeaf.f impl_isLog.f impl_within.f isL
  by_cases h1 : 0 ≤ a0 ∧ a0 ≤ 6
  · obtain ⟨l, rfl⟩ := Int.eq_ofNat_of_zero_le h1.1
    have e2 := (pow_all l (by omega)).2
    have d1 : (l : Int) ≥ 0 := by omega
    have d2 : decide ((l : Int) ≤ 6) = true := decide_eq_true (by omega)
    rw [if_pos d1, d2, Int.toNat_natCast]
    simp only [Option.bind_some, if_true]
    rw [if_pos h1.1, e2]
    by_cases h3 : a1 ≥ 0
    · rw [if_pos h3]
      show some _ = some _
      congr 1; apply decide_eq_decide.2; omega
    · rw [if_neg h3]
      show some _ = some _
      congr 1; symm; apply decide_eq_false; omega
  · have e : decide (0 ≤ a0 ∧ a0 ≤ 6 ∧ 0 ≤ a1 ∧ a1 < ((2 ^ a0.toNat : Nat) : Int)) = false := decide_eq_false (by omega)
    rw [e]
    by_cases h2 : a0 ≥ 0
    · have h3 : decide (a0 ≤ 6) = false := decide_eq_false (by omega)
      rw [if_pos h2, h3]; rfl
    · rw [if_neg h2]; rfl
theorem take_set_ByteS (x l : List Int) (i : Nat) (hi : i < l.length) (hx : x.length = l.length) (h : x.take i = l.take i) : (x.set i (rd l (i : Int))).take (i + 1) = l.take (i + 1) := by
  have hr : rd l (i : Int) = l[i] := by simp [rd, hi]
  rw [hr, List.take_add_one, List.take_add_one, List.take_set_of_le (Nat.le_refl _), h]
  simp [hi, hx]
theorem toByteS_l0 (l : List Int) (hl : l.length ≤ 1048576) : ∀ (d k i : Nat) (x : List Int), x.length = l.length → i ≤ l.length → l.length - i = d → d < k → x.take i = l.take i → laws_toByteS.l0 k l x (i : Int) = some l := by
  intro d
  induction d with
  | zero =>
    intro k i x hx hi hd hk h
    obtain ⟨k, rfl⟩ : ∃ m, k = m + 1 := ⟨k - 1, by omega⟩
    simp only [laws_toByteS.l0]
    rw [if_neg (by omega)]
    rw [List.take_of_length_le (by omega), List.take_of_length_le (by omega)] at h
    rw [h]
  | succ d ih =>
    intro k i x hx hi hd hk h
    obtain ⟨k, rfl⟩ : ∃ m, k = m + 1 := ⟨k - 1, by omega⟩
    simp only [laws_toByteS.l0]
    rw [if_pos (by omega), if_pos (by omega), if_pos (by omega), show wrap64 ((i : Int) + 1) = ((i + 1 : Nat) : Int) from by unfold wrap64; omega, Int.toNat_natCast]
    exact ih k (i + 1) _ (by simp [hx]) (by omega) (by omega) (by omega) (take_set_ByteS x l i (by omega) hx h)
theorem toByteS_eq (l : List Int) (hl : l.length ≤ 1048576) (k : Nat) (hk : l.length < k) : laws_toByteS.f k l = some l := by
  unfold laws_toByteS.f
  rw [if_pos (by omega), if_pos (by omega)]
  exact toByteS_l0 l hl l.length k 0 _ (by simp) (by omega) (by omega) hk rfl
theorem eqByteS_l0 (a : List Int) (ha : a.length ≤ 1048576) : ∀ (d k i : Nat), i ≤ a.length → a.length - i = d → d < k → laws_eqByteS.l0 k a a (i : Int) = some true := by
  intro d
  induction d with
  | zero =>
    intro k i hi hd hk
    obtain ⟨k, rfl⟩ : ∃ m, k = m + 1 := ⟨k - 1, by omega⟩
    simp only [laws_eqByteS.l0]
    rw [if_neg (by omega)]
  | succ d ih =>
    intro k i hi hd hk
    obtain ⟨k, rfl⟩ : ∃ m, k = m + 1 := ⟨k - 1, by omega⟩
    simp only [laws_eqByteS.l0]
    rw [if_pos (by omega), if_pos (by omega), if_pos (by omega), if_pos trivial, show wrap64 ((i : Int) + 1) = ((i + 1 : Nat) : Int) from by unfold wrap64; omega]
    exact ih k (i + 1) (by omega) (by omega) (by omega)
theorem eqByteS_eq (a : List Int) (ha : a.length ≤ 1048576) (k : Nat) (hk : a.length < k) : laws_eqByteS.f k a a = some true := by
  unfold laws_eqByteS.f
  rw [if_pos rfl]
  exact eqByteS_l0 a ha a.length k 0 (by omega) (by omega) hk
def blockB (id leaf len log width : Int) : Bool := decide (0 ≤ log ∧ log ≤ 6 ∧ 1 ≤ width ∧ width ≤ 200 ∧ 0 ≤ id ∧ id ≤ 255) && (isL log leaf && (len == width))
theorem block_spec (k : Nat) (hk : 20 ≤ k) (id leaf : Int) (data : List Int) (log width : Int) : spec_BlockOk.f k id leaf data log width = some (blockB id leaf (data.length : Int) log width) := by
  unfold spec_BlockOk.f spec_l12Frame.f spec_l11Log.f blockB
  rw [leaf_spec k hk]
  by_cases h1 : log ≥ 0
  · rw [if_pos h1]
    simp only [Option.bind_some]
    by_cases h2 : log ≤ 6
    · rw [if_pos (by simpa using h2)]
      by_cases h3 : width ≥ 1
      · rw [if_pos h3]
        simp only [Option.bind_some]
        by_cases h4 : width ≤ 200
        · rw [if_pos (by simpa using h4)]
          by_cases h5 : id ≥ 0
          · rw [if_pos h5]
            by_cases h6 : id ≤ 255
            · rw [if_pos h6, decide_eq_true (show 0 ≤ log ∧ log ≤ 6 ∧ 1 ≤ width ∧ width ≤ 200 ∧ 0 ≤ id ∧ id ≤ 255 from by omega)]
              cases isL log leaf <;> simp
            · rw [if_neg h6, decide_eq_false (show ¬ (0 ≤ log ∧ log ≤ 6 ∧ 1 ≤ width ∧ width ≤ 200 ∧ 0 ≤ id ∧ id ≤ 255) from by omega)]; rfl
          · rw [if_neg h5, decide_eq_false (show ¬ (0 ≤ log ∧ log ≤ 6 ∧ 1 ≤ width ∧ width ≤ 200 ∧ 0 ≤ id ∧ id ≤ 255) from by omega)]; rfl
        · rw [if_neg (by simpa using h4), decide_eq_false (show ¬ (0 ≤ log ∧ log ≤ 6 ∧ 1 ≤ width ∧ width ≤ 200 ∧ 0 ≤ id ∧ id ≤ 255) from by omega)]; rfl
      · rw [if_neg h3, decide_eq_false (show ¬ (0 ≤ log ∧ log ≤ 6 ∧ 1 ≤ width ∧ width ≤ 200 ∧ 0 ≤ id ∧ id ≤ 255) from by omega)]; rfl
    · rw [if_neg (by simpa using h2), decide_eq_false (show ¬ (0 ≤ log ∧ log ≤ 6 ∧ 1 ≤ width ∧ width ≤ 200 ∧ 0 ≤ id ∧ id ≤ 255) from by omega)]; rfl
  · rw [if_neg h1, decide_eq_false (show ¬ (0 ≤ log ∧ log ≤ 6 ∧ 1 ≤ width ∧ width ≤ 200 ∧ 0 ≤ id ∧ id ≤ 255) from by omega)]; rfl
theorem block_impl (id leaf : Int) (data : List Int) (log width : Int) : impl_isBlock.f id leaf data log width = some (blockB id leaf (data.length : Int) log width) := by
  unfold impl_isBlock.f blockB
  rw [leaf_impl]
  cases hL : isL log leaf with
  | false => simp
  | true =>
    simp only [isL, decide_eq_true_eq] at hL
    simp only [Option.bind_some, if_true]
    unfold impl_within.f
    by_cases h3 : width ≥ 1
    · rw [if_pos h3]
      simp only [Option.bind_some]
      by_cases h4 : width ≤ 200
      · rw [if_pos (by simpa using h4)]
        by_cases h5 : id ≥ 0
        · rw [if_pos h5]
          simp only [Option.bind_some]
          by_cases h6 : id ≤ 255
          · rw [if_pos (by simpa using h6), decide_eq_true (show 0 ≤ log ∧ log ≤ 6 ∧ 1 ≤ width ∧ width ≤ 200 ∧ 0 ≤ id ∧ id ≤ 255 from by omega)]
            simp
          · rw [if_neg (by simpa using h6), decide_eq_false (show ¬ (0 ≤ log ∧ log ≤ 6 ∧ 1 ≤ width ∧ width ≤ 200 ∧ 0 ≤ id ∧ id ≤ 255) from by omega)]; rfl
        · rw [if_neg h5, decide_eq_false (show ¬ (0 ≤ log ∧ log ≤ 6 ∧ 1 ≤ width ∧ width ≤ 200 ∧ 0 ≤ id ∧ id ≤ 255) from by omega)]; rfl
      · rw [if_neg (by simpa using h4), decide_eq_false (show ¬ (0 ≤ log ∧ log ≤ 6 ∧ 1 ≤ width ∧ width ≤ 200 ∧ 0 ≤ id ∧ id ≤ 255) from by omega)]; rfl
    · rw [if_neg h3, decide_eq_false (show ¬ (0 ≤ log ∧ log ≤ 6 ∧ 1 ≤ width ∧ width ≤ 200 ∧ 0 ≤ id ∧ id ≤ 255) from by omega)]; rfl
theorem sz_block (x : S24) (h : x.f2.length ≤ maxLen) : laws_szBlock.f x.f0 x.f1 x.f2 1048576 = some (if 1048576 < x.f2.length then -1 else 1048576 - (x.f2.length : Int)) := by
  unfold maxLen at h
  unfold laws_szBlock.f laws_szByteS.f
  rw [show wrap64 (1048576 - (x.f2.length : Int)) = 1048576 - (x.f2.length : Int) from by unfold wrap64; omega]
  by_cases c : 1048576 < x.f2.length
  · rw [if_pos c, if_pos (by omega)]; rfl
  · rw [if_neg c, if_neg (by omega)]
    simp only [Option.bind_some]
    rw [if_neg (by omega)]

theorem FnExactBlockOk (x0 : S24) (w0 : ok24 x0) (a1 : Int) (w1 : (Lit.int .i64 a1).wf = true) (a2 : Int) (w2 : (Lit.int .i64 a2).wf = true) : ∃ k, laws_FnExactBlockOk.f k x0.f0 x0.f1 x0.f2 a1 a2 = some true := by
  obtain ⟨_, _, hl, _⟩ := w0
  refine ⟨x0.f2.length + 20, ?_⟩
  unfold laws_FnExactBlockOk.f
  rw [sz_block x0 hl]
  simp only [Option.bind_some]
  by_cases c : 1048576 < x0.f2.length
  · rw [if_pos c, if_pos (by omega)]
  · rw [if_neg c, if_neg (by omega)]
    have ht : laws_toBlock.f (x0.f2.length + 20) x0.f0 x0.f1 x0.f2 = some (x0.f0, x0.f1, x0.f2) := by
      unfold laws_toBlock.f
      rw [toByteS_eq _ (by omega) _ (by omega)]; rfl
    have he : laws_eqBlock.f (x0.f2.length + 20) x0.f0 x0.f1 x0.f2 x0.f0 x0.f1 x0.f2 = some true := by
      unfold laws_eqBlock.f
      rw [if_pos rfl, if_pos rfl, eqByteS_eq _ (by omega) _ (by omega)]; rfl
    rw [ht]
    simp only [Option.bind_some]
    rw [block_spec _ (by omega)]
    unfold impl_BlockOk.f
    rw [block_impl, he]
    simp

end Go.Proofs.Ytdpdgbaaimjoeaa.Pure

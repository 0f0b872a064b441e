/- For all bytes, log and width the program's NodeRead tells the node that the specification's NodeRead tells, and marks in the node or the bytes leave one another unchanged. Conditions: none. -/
import Derived.Test.YtggfndobfpmoaaaPFnExactNodeReadx10
namespace Go.Proofs.Ytggfndobfpmoaaa.Pure
open Go.RowKit Go.Proofs.Ytggfndobfpmoaaa.PFnExactNodeRead Go.Proofs.YtggfndobfpmoaaaW.PrintWords Go.Proofs.YtggfndobfpmoaaaW.PrintLast Go.Proofs.YtggfndobfpmoaaaW.PrintMore
set_option linter.unusedVariables false
set_option linter.unusedSimpArgs false

theorem pow_all : ∀ l : Nat, l < 7 → spec_l02Pow.f 20 (l : Int) = some ((2 ^ l : Nat) : Int) ∧ wrap64 ((shl .i64 1 (l : Int)) - 1) = ((2 ^ l : Nat) : Int) - 1 := by decide +kernel
def isL (a0 a1 : Int) : Bool := decide (0 ≤ a0 ∧ a0 ≤ 6 ∧ 0 ≤ a1 ∧ a1 < ((2 ^ a0.toNat : Nat) : Int))
theorem pow_k (k l : Nat) (hk : 20 ≤ k) (hl : l < 7) : spec_l02Pow.f k (l : Int) = some ((2 ^ l : Nat) : Int) :=
  at_rounds (g := fun k => spec_l02Pow.f k (l : Int)) (fun k => spec_l02Pow.mono (l : Int) k) hk (pow_all l hl).1
theorem leaf_spec (k : Nat) (hk : 20 ≤ k) (a0 a1 : Int) : spec_l11Leaf.f k a0 a1 = some (isL a0 a1) := by
  unfold spec_l11Leaf.f spec_l11Log.f isL
  by_cases h1 : 0 ≤ a0 ∧ a0 ≤ 6
  · obtain ⟨l, rfl⟩ := Int.eq_ofNat_of_zero_le h1.1
    have e1 := pow_k k l hk (by omega)
    have d1 : (l : Int) ≥ 0 := by omega
    have d2 : decide ((l : Int) ≤ 6) = true := decide_eq_true (by omega)
    rw [if_pos d1, d2, e1, Int.toNat_natCast]
    simp only [Option.bind_some, if_true]
    by_cases h3 : a1 ≥ 0
    · rw [if_pos h3]; congr 1; apply decide_eq_decide.2; omega
    · rw [if_neg h3]; congr 1; symm; apply decide_eq_false; omega
  · have e : decide (0 ≤ a0 ∧ a0 ≤ 6 ∧ 0 ≤ a1 ∧ a1 < ((2 ^ a0.toNat : Nat) : Int)) = false := decide_eq_false (by omega)
    rw [e]
    by_cases h2 : a0 ≥ 0
    · have h3 : decide (a0 ≤ 6) = false := decide_eq_false (by omega)
      rw [if_pos h2, h3]; rfl
    · rw [if_neg h2]; rfl
theorem leaf_impl (a0 a1 : Int) : impl_isLeaf.f a0 a1 = some (isL a0 a1) := by
  unfold impl_isLeaf.f impl_isLog.f impl_within.f isL
  by_cases h1 : 0 ≤ a0 ∧ a0 ≤ 6
  · obtain ⟨l, rfl⟩ := Int.eq_ofNat_of_zero_le h1.1
    have e2 := (pow_all l (by omega)).2
    have d1 : (l : Int) ≥ 0 := by omega
    have d2 : decide ((l : Int) ≤ 6) = true := decide_eq_true (by omega)
    rw [if_pos d1, d2, Int.toNat_natCast]
    simp only [Option.bind_some, if_true]
    rw [if_pos h1.1, e2]
    by_cases h3 : a1 ≥ 0
    · rw [if_pos h3]
      show some _ = some _
      congr 1; apply decide_eq_decide.2; omega
    · rw [if_neg h3]
      show some _ = some _
      congr 1; symm; apply decide_eq_false; omega
  · have e : decide (0 ≤ a0 ∧ a0 ≤ 6 ∧ 0 ≤ a1 ∧ a1 < ((2 ^ a0.toNat : Nat) : Int)) = false := decide_eq_false (by omega)
    rw [e]
    by_cases h2 : a0 ≥ 0
    · have h3 : decide (a0 ≤ 6) = false := decide_eq_false (by omega)
      rw [if_pos h2, h3]; rfl
    · rw [if_neg h2]; rfl
theorem take_set_ByteS (x l : List Int) (i : Nat) (hi : i < l.length) (hx : x.length = l.length) (h : x.take i = l.take i) : (x.set i (rd l (i : Int))).take (i + 1) = l.take (i + 1) := by
  have hr : rd l (i : Int) = l[i] := by simp [rd, hi]
  rw [hr, List.take_add_one, List.take_add_one, List.take_set_of_le (Nat.le_refl _), h]
  simp [hi, hx]
theorem toByteS_l0 (l : List Int) (hl : l.length ≤ 1048576) : ∀ (d k i : Nat) (x : List Int), x.length = l.length → i ≤ l.length → l.length - i = d → d < k → x.take i = l.take i → laws_toByteS.l0 k l x (i : Int) = some l := by
  intro d
  induction d with
  | zero =>
    intro k i x hx hi hd hk h
    obtain ⟨k, rfl⟩ : ∃ m, k = m + 1 := ⟨k - 1, by omega⟩
    simp only [laws_toByteS.l0]
    rw [if_neg (by omega)]
    rw [List.take_of_length_le (by omega), List.take_of_length_le (by omega)] at h
    rw [h]
  | succ d ih =>
    intro k i x hx hi hd hk h
    obtain ⟨k, rfl⟩ : ∃ m, k = m + 1 := ⟨k - 1, by omega⟩
    simp only [laws_toByteS.l0]
    rw [if_pos (by omega), if_pos (by omega), if_pos (by omega), show wrap64 ((i : Int) + 1) = ((i + 1 : Nat) : Int) from by unfold wrap64; omega, Int.toNat_natCast]
    exact ih k (i + 1) _ (by simp [hx]) (by omega) (by omega) (by omega) (take_set_ByteS x l i (by omega) hx h)
theorem toByteS_eq (l : List Int) (hl : l.length ≤ 1048576) (k : Nat) (hk : l.length < k) : laws_toByteS.f k l = some l := by
  unfold laws_toByteS.f
  rw [if_pos (by omega), if_pos (by omega)]
  exact toByteS_l0 l hl l.length k 0 _ (by simp) (by omega) (by omega) hk rfl
theorem eqByteS_l0 (a : List Int) (ha : a.length ≤ 1048576) : ∀ (d k i : Nat), i ≤ a.length → a.length - i = d → d < k → laws_eqByteS.l0 k a a (i : Int) = some true := by
  intro d
  induction d with
  | zero =>
    intro k i hi hd hk
    obtain ⟨k, rfl⟩ : ∃ m, k = m + 1 := ⟨k - 1, by omega⟩
    simp only [laws_eqByteS.l0]
    rw [if_neg (by omega)]
  | succ d ih =>
    intro k i hi hd hk
    obtain ⟨k, rfl⟩ : ∃ m, k = m + 1 := ⟨k - 1, by omega⟩
    simp only [laws_eqByteS.l0]
    rw [if_pos (by omega), if_pos (by omega), if_pos (by omega), if_pos trivial, show wrap64 ((i : Int) + 1) = ((i + 1 : Nat) : Int) from by unfold wrap64; omega]
    exact ih k (i + 1) (by omega) (by omega) (by omega)
theorem eqByteS_eq (a : List Int) (ha : a.length ≤ 1048576) (k : Nat) (hk : a.length < k) : laws_eqByteS.f k a a = some true := by
  unfold laws_eqByteS.f
  rw [if_pos rfl]
  exact eqByteS_l0 a ha a.length k 0 (by omega) (by omega) hk
def blockB (id leaf len log width : Int) : Bool := decide (0 ≤ log ∧ log ≤ 6 ∧ 1 ≤ width ∧ width ≤ 200 ∧ 0 ≤ id ∧ id ≤ 255) && (isL log leaf && (len == width))
theorem block_spec (k : Nat) (hk : 20 ≤ k) (id leaf : Int) (data : List Int) (log width : Int) : spec_BlockOk.f k id leaf data log width = some (blockB id leaf (data.length : Int) log width) := by
  unfold spec_BlockOk.f spec_l12Frame.f spec_l11Log.f blockB
  rw [leaf_spec k hk]
  by_cases h1 : log ≥ 0
  · rw [if_pos h1]
    simp only [Option.bind_some]
    by_cases h2 : log ≤ 6
    · rw [if_pos (by simpa using h2)]
      by_cases h3 : width ≥ 1
      · rw [if_pos h3]
        simp only [Option.bind_some]
        by_cases h4 : width ≤ 200
        · rw [if_pos (by simpa using h4)]
          by_cases h5 : id ≥ 0
          · rw [if_pos h5]
            by_cases h6 : id ≤ 255
            · rw [if_pos h6, decide_eq_true (show 0 ≤ log ∧ log ≤ 6 ∧ 1 ≤ width ∧ width ≤ 200 ∧ 0 ≤ id ∧ id ≤ 255 from by omega)]
              cases isL log leaf <;> simp
            · rw [if_neg h6, decide_eq_false (show ¬ (0 ≤ log ∧ log ≤ 6 ∧ 1 ≤ width ∧ width ≤ 200 ∧ 0 ≤ id ∧ id ≤ 255) from by omega)]; rfl
          · rw [if_neg h5, decide_eq_false (show ¬ (0 ≤ log ∧ log ≤ 6 ∧ 1 ≤ width ∧ width ≤ 200 ∧ 0 ≤ id ∧ id ≤ 255) from by omega)]; rfl
        · rw [if_neg (by simpa using h4), decide_eq_false (show ¬ (0 ≤ log ∧ log ≤ 6 ∧ 1 ≤ width ∧ width ≤ 200 ∧ 0 ≤ id ∧ id ≤ 255) from by omega)]; rfl
      · rw [if_neg h3, decide_eq_false (show ¬ (0 ≤ log ∧ log ≤ 6 ∧ 1 ≤ width ∧ width ≤ 200 ∧ 0 ≤ id ∧ id ≤ 255) from by omega)]; rfl
    · rw [if_neg (by simpa using h2), decide_eq_false (show ¬ (0 ≤ log ∧ log ≤ 6 ∧ 1 ≤ width ∧ width ≤ 200 ∧ 0 ≤ id ∧ id ≤ 255) from by omega)]; rfl
  · rw [if_neg h1, decide_eq_false (show ¬ (0 ≤ log ∧ log ≤ 6 ∧ 1 ≤ width ∧ width ≤ 200 ∧ 0 ≤ id ∧ id ≤ 255) from by omega)]; rfl
theorem block_impl (id leaf : Int) (data : List Int) (log width : Int) : impl_isBlock.f id leaf data log width = some (blockB id leaf (data.length : Int) log width) := by
  unfold impl_isBlock.f blockB
  rw [leaf_impl]
  cases hL : isL log leaf with
  | false => simp
  | true =>
    simp only [isL, decide_eq_true_eq] at hL
    simp only [Option.bind_some, if_true]
    unfold impl_within.f
    by_cases h3 : width ≥ 1
    · rw [if_pos h3]
      simp only [Option.bind_some]
      by_cases h4 : width ≤ 200
      · rw [if_pos (by simpa using h4)]
        by_cases h5 : id ≥ 0
        · rw [if_pos h5]
          simp only [Option.bind_some]
          by_cases h6 : id ≤ 255
          · rw [if_pos (by simpa using h6), decide_eq_true (show 0 ≤ log ∧ log ≤ 6 ∧ 1 ≤ width ∧ width ≤ 200 ∧ 0 ≤ id ∧ id ≤ 255 from by omega)]
            simp
          · rw [if_neg (by simpa using h6), decide_eq_false (show ¬ (0 ≤ log ∧ log ≤ 6 ∧ 1 ≤ width ∧ width ≤ 200 ∧ 0 ≤ id ∧ id ≤ 255) from by omega)]; rfl
        · rw [if_neg h5, decide_eq_false (show ¬ (0 ≤ log ∧ log ≤ 6 ∧ 1 ≤ width ∧ width ≤ 200 ∧ 0 ≤ id ∧ id ≤ 255) from by omega)]; rfl
      · rw [if_neg (by simpa using h4), decide_eq_false (show ¬ (0 ≤ log ∧ log ≤ 6 ∧ 1 ≤ width ∧ width ≤ 200 ∧ 0 ≤ id ∧ id ≤ 255) from by omega)]; rfl
    · rw [if_neg h3, decide_eq_false (show ¬ (0 ≤ log ∧ log ≤ 6 ∧ 1 ≤ width ∧ width ≤ 200 ∧ 0 ≤ id ∧ id ≤ 255) from by omega)]; rfl
theorem rd26 (l : List S26) (i : Nat) (h : i < l.length) : rd_T26 l (i : Int) = l[i] := by simp [rd_T26, h]
theorem wr (i : Nat) (h : i ≤ 2000000) : wrap64 ((i : Int) + 1) = ((i + 1 : Nat) : Int) := by unfold wrap64; omega
/-! the blocks' own rule -/
def goodAt (xs : List S26) (log width : Int) (i : Nat) : Bool := blockB (rd_T26 xs (i : Int)).f0 (rd_T26 xs (i : Int)).f1 ((rd_T26 xs (i : Int)).f2.length : Int) log width && (decide (i = 0) || !decide ((rd_T26 xs ((i - 1 : Nat) : Int)).f0 ≥ (rd_T26 xs (i : Int)).f0))
def allFrom (xs : List S26) (log width : Int) : Nat → Nat → Bool
  | 0, _ => true
  | d + 1, i => goodAt xs log width i && allFrom xs log width d (i + 1)
theorem allFrom_succ (xs : List S26) (log width : Int) (d i : Nat) : allFrom xs log width (d + 1) i = (goodAt xs log width i && allFrom xs log width d (i + 1)) := rfl
def frameB (log width : Int) : Bool := decide (0 ≤ log ∧ log ≤ 6 ∧ 1 ≤ width ∧ width ≤ 200)
def blocksB (xs : List S26) (log width : Int) : Bool := frameB log width && allFrom xs log width xs.length 0
theorem frame_spec (log width : Int) : spec_l12Frame.f log width = some (frameB log width) := by
  unfold spec_l12Frame.f spec_l11Log.f frameB
  by_cases h1 : log ≥ 0
  · rw [if_pos h1]
    simp only [Option.bind_some]
    by_cases h2 : log ≤ 6
    · rw [if_pos (by simpa using h2)]
      by_cases h3 : width ≥ 1
      · rw [if_pos h3]; congr 1; apply decide_eq_decide.2; omega
      · rw [if_neg h3]; congr 1; symm; apply decide_eq_false; omega
    · rw [if_neg (by simpa using h2)]; congr 1; symm; apply decide_eq_false; omega
  · rw [if_neg h1]
    show some false = _
    congr 1; symm; apply decide_eq_false; omega
theorem frame_impl (log width : Int) : ((impl_isLog.f log).bind fun t => if t = true then ((impl_within.f width 1 200).bind fun u => some u) else some false) = some (frameB log width) := by
  unfold impl_isLog.f impl_within.f frameB
  by_cases h1 : log ≥ 0
  · rw [if_pos h1]
    simp only [Option.bind_some]
    by_cases h2 : log ≤ 6
    · rw [if_pos (by simpa using h2)]
      by_cases h3 : width ≥ 1
      · rw [if_pos h3]
        show some _ = some _
        congr 1; apply decide_eq_decide.2; omega
      · rw [if_neg h3]
        show some _ = some _
        congr 1; symm; apply decide_eq_false; omega
    · rw [if_neg (by simpa using h2)]; congr 1; symm; apply decide_eq_false; omega
  · rw [if_neg h1]
    show some false = _
    congr 1; symm; apply decide_eq_false; omega
theorem blocks_spec_l0 (xs : List S26) (hx : xs.length ≤ 1048576) (log width : Int) : ∀ (d k i : Nat), i ≤ xs.length → xs.length - i = d → d + 20 < k → spec_BlocksOk.l0 k xs log width (i : Int) = some (allFrom xs log width d i) := by
  intro d
  induction d with
  | zero =>
    intro k i hi hd hk
    obtain ⟨k, rfl⟩ : ∃ m, k = m + 1 := ⟨k - 1, by omega⟩
    simp only [spec_BlocksOk.l0]
    rw [if_neg (by omega)]; rfl
  | succ d ih =>
    intro k i hi hd hk
    obtain ⟨k, rfl⟩ : ∃ m, k = m + 1 := ⟨k - 1, by omega⟩
    simp only [spec_BlocksOk.l0]
    rw [if_pos (by omega), if_pos (by omega), block_spec k (by omega)]
    simp only [Option.bind_some]
    rw [wr i (by omega), ih k (i + 1) (by omega) (by omega) (by omega)]
    rw [allFrom_succ]
    unfold goodAt
    cases blockB (rd_T26 xs (i : Int)).f0 (rd_T26 xs (i : Int)).f1 ((rd_T26 xs (i : Int)).f2.length : Int) log width with
    | false => simp
    | true =>
      by_cases c : i = 0
      · subst c; simp
      · rw [if_pos rfl, if_pos (by omega), show wrap64 ((i : Int) - 1) = ((i - 1 : Nat) : Int) from by unfold wrap64; omega, if_pos (by omega), if_pos (by omega), decide_eq_false c]
        by_cases c2 : (rd_T26 xs ((i - 1 : Nat) : Int)).f0 ≥ (rd_T26 xs (i : Int)).f0
        · rw [if_pos c2, decide_eq_true c2]; rfl
        · rw [if_neg c2, decide_eq_false c2]; rfl
theorem blocks_impl_l0 (xs : List S26) (hx : xs.length ≤ 1048576) (log width : Int) : ∀ (d k i : Nat), i ≤ xs.length → xs.length - i = d → d + 20 < k → impl_areBlocks.l0 k xs log width xs (xs.length : Int) (i : Int) = some (allFrom xs log width d i && frameB log width) := by
  intro d
  induction d with
  | zero =>
    intro k i hi hd hk
    obtain ⟨k, rfl⟩ : ∃ m, k = m + 1 := ⟨k - 1, by omega⟩
    simp only [impl_areBlocks.l0]
    rw [if_neg (by omega), frame_impl]; rfl
  | succ d ih =>
    intro k i hi hd hk
    obtain ⟨k, rfl⟩ : ∃ m, k = m + 1 := ⟨k - 1, by omega⟩
    simp only [impl_areBlocks.l0]
    rw [if_pos (by omega), if_pos (by omega), if_pos (by omega), block_impl]
    simp only [Option.bind_some]
    rw [wr i (by omega), ih k (i + 1) (by omega) (by omega) (by omega)]
    rw [allFrom_succ]
    unfold goodAt
    cases blockB (rd_T26 xs (i : Int)).f0 (rd_T26 xs (i : Int)).f1 ((rd_T26 xs (i : Int)).f2.length : Int) log width with
    | false => simp
    | true =>
      by_cases c : i = 0
      · subst c; simp
      · rw [if_pos rfl, if_pos (by omega), show wrap64 ((i : Int) - 1) = ((i - 1 : Nat) : Int) from by unfold wrap64; omega, if_pos (by omega), if_pos (by omega), decide_eq_false c]
        by_cases c2 : (rd_T26 xs ((i - 1 : Nat) : Int)).f0 ≥ (rd_T26 xs (i : Int)).f0
        · rw [if_pos c2, decide_eq_true c2]; rfl
        · rw [if_neg c2, decide_eq_false c2]; rfl
theorem blocks_spec (xs : List S26) (hx : xs.length ≤ 1048576) (log width : Int) (k : Nat) (hk : xs.length + 20 < k) : spec_BlocksOk.f k xs log width = some (blocksB xs log width) := by
  unfold spec_BlocksOk.f blocksB
  have := blocks_spec_l0 xs hx log width xs.length k 0 (by omega) (by omega) hk
  rw [show ((0 : Nat) : Int) = 0 from rfl] at this
  rw [frame_spec, this]
  cases frameB log width <;> simp
theorem blocks_impl (xs : List S26) (hx : xs.length ≤ 1048576) (log width : Int) (k : Nat) (hk : xs.length + 20 < k) : impl_areBlocks.f k xs log width = some (blocksB xs log width) := by
  unfold impl_areBlocks.f blocksB
  have := blocks_impl_l0 xs hx log width xs.length k 0 (by omega) (by omega) hk
  rw [show ((0 : Nat) : Int) = 0 from rfl] at this
  rw [this, Bool.and_comm]
def mkB (a : Int) (n : Nat) : List Int := (List.range n).map fun (i : Nat) => (a + (i : Int)) % 256
theorem mkB_length (a : Int) (n : Nat) : (mkB a n).length = n := by simp [mkB]
theorem mkB_step (a : Int) (x : List Int) (n i : Nat) (hi : i < n) (hx : x.length = n) (h : x.take i = (mkB a n).take i) : (x.set i ((a + (i : Int)) % 256)).take (i + 1) = (mkB a n).take (i + 1) := by
  rw [List.take_add_one, List.take_add_one, List.take_set_of_le (Nat.le_refl _), h]
  simp [hi, hx, mkB]
theorem markB_l0 (a : Int) (n : Nat) (hn : n ≤ 1048576) (ha0 : 0 ≤ a) (ha : a ≤ 4194304) : ∀ (d k i : Nat) (x : List Int), x.length = n → i ≤ n → n - i = d → d < k → x.take i = (mkB a n).take i →
    laws_markByteS.l0 k x (a + (i : Int)) (i : Int) = some (a + (n : Int), mkB a n) := by
  intro d
  induction d with
  | zero =>
    intro k i x hx hi hd hk h
    obtain ⟨k, rfl⟩ : ∃ m, k = m + 1 := ⟨k - 1, by omega⟩
    simp only [laws_markByteS.l0]
    rw [if_neg (by omega)]
    rw [List.take_of_length_le (by omega), List.take_of_length_le (by rw [mkB_length]; omega)] at h
    rw [h, show i = n by omega]
  | succ d ih =>
    intro k i x hx hi hd hk h
    obtain ⟨k, rfl⟩ : ∃ m, k = m + 1 := ⟨k - 1, by omega⟩
    simp only [laws_markByteS.l0]
    rw [if_pos (by omega), if_pos (by omega), show wrap64 (a + (i : Int) + 1) = a + ((i + 1 : Nat) : Int) from by unfold wrap64; omega, show wrap64 ((i : Int) + 1) = ((i + 1 : Nat) : Int) from by unfold wrap64; omega, Int.toNat_natCast]
    exact ih k (i + 1) _ (by simp [hx]) (by omega) (by omega) (by omega) (mkB_step a x n i (by omega) hx h)
theorem markB_eq (a : Int) (l : List Int) (hl : l.length ≤ 1048576) (ha0 : 0 ≤ a) (ha : a ≤ 4194304) (k : Nat) (hk : l.length < k) : laws_markByteS.f k l a = some (a + (l.length : Int), mkB a l.length) := by
  unfold laws_markByteS.f
  have := markB_l0 a l.length hl ha0 ha l.length k 0 l rfl (by omega) (by omega) hk rfl
  simpa using this
theorem heldB_l0 (n : Nat) (hn : n ≤ 1048576) : ∀ (d k i : Nat), i ≤ n → n - i = d → d < k → laws_heldByteS.l0 k (mkB 1 n) (1 + (i : Int)) (i : Int) = some (1 + (n : Int)) := by
  intro d
  induction d with
  | zero =>
    intro k i hi hd hk
    obtain ⟨k, rfl⟩ : ∃ m, k = m + 1 := ⟨k - 1, by omega⟩
    simp only [laws_heldByteS.l0]
    rw [if_neg (by rw [mkB_length]; omega), show i = n by omega]
  | succ d ih =>
    intro k i hi hd hk
    obtain ⟨k, rfl⟩ : ∃ m, k = m + 1 := ⟨k - 1, by omega⟩
    simp only [laws_heldByteS.l0]
    have e : rd (mkB 1 n) (i : Int) = (1 + (i : Int)) % 256 := by
      have : i < n := by omega
      simp [rd, mkB, this]
    rw [if_pos (by rw [mkB_length]; omega), if_pos (by omega), if_pos e, show wrap64 (1 + (i : Int) + 1) = 1 + ((i + 1 : Nat) : Int) from by unfold wrap64; omega, show wrap64 ((i : Int) + 1) = ((i + 1 : Nat) : Int) from by unfold wrap64; omega]
    exact ih k (i + 1) (by omega) (by omega) (by omega)
theorem heldB_eq (n : Nat) (hn : n ≤ 1048576) (k : Nat) (hk : n < k) : laws_heldByteS.f k (mkB 1 n) 1 = some (1 + (n : Int)) := by
  unfold laws_heldByteS.f
  have := heldB_l0 n hn n k 0 (by omega) (by omega) hk
  simpa using this
def datI (l : List S26) : Nat := (l.map fun x => x.f2.length).sum
theorem datI_cons (x : S26) (l : List S26) : datI (x :: l) = x.f2.length + datI l := by simp [datI]
theorem rdI_at (p : List S26) (x : S26) (l : List S26) : rd_T26 (p ++ x :: l) (p.length : Int) = x := by simp [rd_T26]
theorem set_at (p : List S26) (x y : S26) (l : List S26) : (p ++ x :: l).set p.length y = (p ++ [y]) ++ l := by simp
def mkBs : Int → List S26 → List S26
  | _, [] => []
  | a, x :: l => ⟨a, a + 1, mkB (a + 2) x.f2.length⟩ :: mkBs (a + 2 + (x.f2.length : Int)) l
theorem markBs_l0 : ∀ (l p : List S26) (a : Int) (k : Nat), p.length + l.length ≤ 1048576 → datI l ≤ 1048576 → 0 ≤ a → a + 2 * (l.length : Int) + (datI l : Int) ≤ 4194304 → l.length + datI l < k →
    laws_markBlockS.l0 k (p ++ l) a (p.length : Int) = some (a + 2 * (l.length : Int) + (datI l : Int), p ++ mkBs a l)
  | [], p, a, k, h1, h2, h3, h4, hk => by
    obtain ⟨k, rfl⟩ : ∃ m, k = m + 1 := ⟨k - 1, by omega⟩
    simp only [laws_markBlockS.l0]
    rw [if_neg (by simp), List.append_nil, mkBs, List.append_nil]
    simp [datI]
  | x :: l, p, a, k, h1, h2, h3, h4, hk => by
    obtain ⟨k, rfl⟩ : ∃ m, k = m + 1 := ⟨k - 1, by omega⟩
    rw [datI_cons] at h2 h4 hk
    rw [List.length_cons] at h1 h4 hk
    simp only [laws_markBlockS.l0]
    rw [if_pos (by rw [List.length_append, List.length_cons]; omega), if_pos (by omega), rdI_at, show wrap64 (a + 1) = a + 1 from by unfold wrap64; omega, show wrap64 (a + 1 + 1) = a + 2 from by unfold wrap64; omega, markB_eq (a + 2) x.f2 (by omega) (by omega) (by omega) k (by omega), Option.bind_some]
    dsimp only
    rw [Int.toNat_natCast, set_at, show wrap64 ((p.length : Int) + 1) = ((p ++ [(⟨a, a + 1, mkB (a + 2) x.f2.length⟩ : S26)]).length : Int) from by rw [List.length_append, List.length_singleton]; unfold wrap64; omega]
    rw [markBs_l0 l _ (a + 2 + (x.f2.length : Int)) k (by rw [List.length_append, List.length_singleton]; omega) (by omega) (by omega) (by omega) (by omega)]
    rw [mkBs, datI_cons, List.length_cons, List.append_assoc]
    refine congrArg some (Prod.ext ?_ rfl)
    show _ = _
    push_cast
    omega
theorem markBs_eq (l : List S26) (hl : l.length + datI l ≤ 1048576) (k : Nat) (hk : l.length + datI l < k) : laws_markBlockS.f k l 1 = some (1 + 2 * (l.length : Int) + (datI l : Int), mkBs 1 l) := by
  have h := markBs_l0 l [] 1 k (by simp; omega) (by omega) (by omega) (by omega) hk
  simpa [laws_markBlockS.f] using h
theorem heldBg_l0 (a : Int) (n : Nat) (hn : n ≤ 1048576) (ha0 : 0 ≤ a) (ha : a ≤ 4194304) : ∀ (d k i : Nat), i ≤ n → n - i = d → d < k → laws_heldByteS.l0 k (mkB a n) (a + (i : Int)) (i : Int) = some (a + (n : Int)) := by
  intro d
  induction d with
  | zero =>
    intro k i hi hd hk
    obtain ⟨k, rfl⟩ : ∃ m, k = m + 1 := ⟨k - 1, by omega⟩
    simp only [laws_heldByteS.l0]
    rw [if_neg (by rw [mkB_length]; omega), show i = n by omega]
  | succ d ih =>
    intro k i hi hd hk
    obtain ⟨k, rfl⟩ : ∃ m, k = m + 1 := ⟨k - 1, by omega⟩
    simp only [laws_heldByteS.l0]
    have e : rd (mkB a n) (i : Int) = (a + (i : Int)) % 256 := by
      have : i < n := by omega
      simp [rd, mkB, this]
    rw [if_pos (by rw [mkB_length]; omega), if_pos (by omega), if_pos e, show wrap64 (a + (i : Int) + 1) = a + ((i + 1 : Nat) : Int) from by unfold wrap64; omega, show wrap64 ((i : Int) + 1) = ((i + 1 : Nat) : Int) from by unfold wrap64; omega]
    exact ih k (i + 1) (by omega) (by omega) (by omega)
theorem heldBg_eq (a : Int) (n : Nat) (hn : n ≤ 1048576) (ha0 : 0 ≤ a) (ha : a ≤ 4194304) (k : Nat) (hk : n < k) : laws_heldByteS.f k (mkB a n) a = some (a + (n : Int)) := by
  unfold laws_heldByteS.f
  have := heldBg_l0 a n hn ha0 ha n k 0 (by omega) (by omega) hk
  simpa using this
theorem heldBs_l0 : ∀ (l p : List S26) (a : Int) (k : Nat), p.length + l.length ≤ 1048576 → datI l ≤ 1048576 → 0 ≤ a → a + 2 * (l.length : Int) + (datI l : Int) ≤ 4194304 → l.length + datI l < k →
    laws_heldBlockS.l0 k (p ++ mkBs a l) a (p.length : Int) = some (a + 2 * (l.length : Int) + (datI l : Int))
  | [], p, a, k, h1, h2, h3, h4, hk => by
    obtain ⟨k, rfl⟩ : ∃ m, k = m + 1 := ⟨k - 1, by omega⟩
    rw [mkBs, List.append_nil]
    simp only [laws_heldBlockS.l0]
    rw [if_neg (by omega)]
    simp [datI]
  | x :: l, p, a, k, h1, h2, h3, h4, hk => by
    obtain ⟨k, rfl⟩ : ∃ m, k = m + 1 := ⟨k - 1, by omega⟩
    rw [datI_cons] at h2 h4 hk
    rw [List.length_cons] at h1 h4 hk
    rw [mkBs]
    simp only [laws_heldBlockS.l0]
    rw [if_pos (by rw [List.length_append, List.length_cons]; omega), if_pos (by omega), rdI_at, show wrap64 (a + 1) = a + 1 from by unfold wrap64; omega, show wrap64 (a + 1 + 1) = a + 2 from by unfold wrap64; omega, if_pos rfl, if_pos rfl]
    dsimp only
    rw [heldBg_eq (a + 2) x.f2.length (by omega) (by omega) (by omega) k (by omega), Option.bind_some, if_neg (by omega), show wrap64 ((p.length : Int) + 1) = ((p ++ [(⟨a, a + 1, mkB (a + 2) x.f2.length⟩ : S26)]).length : Int) from by rw [List.length_append, List.length_singleton]; unfold wrap64; omega]
    rw [show p ++ (⟨a, a + 1, mkB (a + 2) x.f2.length⟩ : S26) :: mkBs (a + 2 + (x.f2.length : Int)) l = (p ++ [(⟨a, a + 1, mkB (a + 2) x.f2.length⟩ : S26)]) ++ mkBs (a + 2 + (x.f2.length : Int)) l from by simp]
    rw [heldBs_l0 l _ (a + 2 + (x.f2.length : Int)) k (by rw [List.length_append, List.length_singleton]; omega) (by omega) (by omega) (by omega) (by omega), datI_cons, List.length_cons]
    refine congrArg some ?_
    push_cast
    omega
theorem heldBs_eq (l : List S26) (hl : l.length + datI l ≤ 1048576) (k : Nat) (hk : l.length + datI l < k) : laws_heldBlockS.f k (mkBs 1 l) 1 = some (1 + 2 * (l.length : Int) + (datI l : Int)) := by
  have h := heldBs_l0 l [] 1 k (by simp; omega) (by omega) (by omega) (by omega) hk
  simpa [laws_heldBlockS.f] using h
theorem data_le (xs : List S26) : ∀ (j : Nat) (h : j < xs.length), xs[j].f2.length ≤ datI xs := by
  induction xs with
  | nil => intro j h; simp at h
  | cons x l ih =>
    intro j h
    rw [datI_cons]
    cases j with
    | zero => simp
    | succ j =>
      have := ih j (by simpa using h)
      simp only [List.getElem_cons_succ]
      omega
theorem eqBlk (x : S26) (hx : x.f2.length ≤ 1048576) (k : Nat) (hk : x.f2.length < k) : laws_eqBlock.f k x.f0 x.f1 x.f2 x.f0 x.f1 x.f2 = some true := by
  unfold laws_eqBlock.f
  rw [if_pos rfl, if_pos rfl, eqByteS_eq _ hx _ hk, Option.bind_some, if_pos rfl]
theorem eqBs_l0 (l : List S26) (hl : l.length + datI l ≤ 1048576) : ∀ (d k i : Nat), i ≤ l.length → l.length - i = d → d + datI l < k → laws_eqBlockS.l0 k l l (i : Int) = some true := by
  intro d
  induction d with
  | zero =>
    intro k i hi hd hk
    obtain ⟨k, rfl⟩ : ∃ m, k = m + 1 := ⟨k - 1, by omega⟩
    simp only [laws_eqBlockS.l0]
    rw [if_neg (by omega)]
  | succ d ih =>
    intro k i hi hd hk
    obtain ⟨k, rfl⟩ : ∃ m, k = m + 1 := ⟨k - 1, by omega⟩
    have hlt : i < l.length := by omega
    have hm := data_le l i hlt
    simp only [laws_eqBlockS.l0]
    rw [if_pos (by omega), if_pos (by omega), if_pos (by omega), rd26 l i hlt, eqBlk l[i] (by omega) _ (by omega), Option.bind_some, if_pos rfl, wr i (by omega)]
    exact ih k (i + 1) (by omega) (by omega) (by omega)
theorem eqBs_eq (l : List S26) (hl : l.length + datI l ≤ 1048576) (k : Nat) (hk : l.length + datI l < k) : laws_eqBlockS.f k l l = some true := by
  unfold laws_eqBlockS.f
  rw [if_pos rfl]
  exact eqBs_l0 l hl l.length k 0 (by omega) (by omega) hk
def nb (l : List S26) : List Int := l.flatMap fun x => [1, x.f0 % 256, x.f1 % 256] ++ x.f2
theorem nb_snoc (p : List S26) (x : S26) : nb (p ++ [x]) = (nb p ++ [1, x.f0 % 256, x.f1 % 256]) ++ x.f2 := by simp [nb]
theorem nb_len (W : Nat) : ∀ l : List S26, (∀ x ∈ l, x.f2.length = W) → (nb l).length = l.length * (W + 3)
  | [], _ => by simp [nb]
  | x :: l, h => by
    have e : nb (x :: l) = ([1, x.f0 % 256, x.f1 % 256] ++ x.f2) ++ nb l := by simp [nb]
    rw [e, List.length_append, nb_len W l (fun y hy => h y (List.mem_cons_of_mem _ hy)), List.length_append, h x List.mem_cons_self]
    show 3 + W + l.length * (W + 3) = (l.length + 1) * (W + 3)
    rw [Nat.succ_mul]
    omega
/-- The bytes of a node. -/
def encN (l : List S26) (W : Nat) : List Int := nb l ++ List.replicate (4 * (W + 3) - (nb l).length) 0
theorem nb_le (W : Nat) (l : List S26) (h4 : l.length ≤ 4) (h : ∀ x ∈ l, x.f2.length = W) : (nb l).length ≤ 4 * (W + 3) := by
  rw [nb_len W l h]
  exact Nat.mul_le_mul_right _ h4
theorem encN_len (W : Nat) (l : List S26) (h4 : l.length ≤ 4) (h : ∀ x ∈ l, x.f2.length = W) : (encN l W).length = 4 * (W + 3) := by
  have := nb_le W l h4 h
  unfold encN
  rw [List.length_append, List.length_replicate]
  omega
theorem pad_eq (W n : Nat) (hW : W ≤ 200) (h : n ≤ 4 * (W + 3)) : wrap64 (wrap64 (4 * wrap64 ((W : Int) + 3)) - (n : Int)) = ((4 * (W + 3) - n : Nat) : Int) := by
  have e1 : wrap64 ((W : Int) + 3) = (W : Int) + 3 := by unfold wrap64; omega
  have e2 : wrap64 (4 * ((W : Int) + 3)) = 4 * ((W : Int) + 3) := by unfold wrap64; omega
  rw [e1, e2]
  unfold wrap64
  omega
theorem nodeOf_l0 (W : Nat) (hW : W ≤ 200) : ∀ (q p : List S26) (k : Nat), (∀ x ∈ p ++ q, x.f2.length = W) → (p ++ q).length ≤ 4 → q.length < k → impl_nodeOf.l0 k (W : Int) (nb p) (p ++ q) ((p ++ q).length : Int) (p.length : Int) = some (encN (p ++ q) W)
  | [], p, k, h, h4, hk => by
    obtain ⟨k, rfl⟩ : ∃ m, k = m + 1 := ⟨k - 1, by omega⟩
    rw [List.append_nil] at h h4 ⊢
    have hle := nb_le W p h4 h
    simp only [impl_nodeOf.l0]
    rw [if_neg (by omega), pad_eq W _ hW hle, if_pos (by omega), Int.toNat_natCast, if_pos (by omega)]
    rfl
  | x :: q, p, k, h, h4, hk => by
    obtain ⟨k, rfl⟩ : ∃ m, k = m + 1 := ⟨k - 1, by omega⟩
    have hx : x.f2.length = W := h x (by simp)
    rw [List.length_cons] at hk
    have h4' : p.length + (q.length + 1) ≤ 4 := by rw [List.length_append, List.length_cons] at h4; exact h4
    have hp := nb_le W p (by omega) (fun y hy => h y (List.mem_append_left _ hy))
    have ih := nodeOf_l0 W hW q (p ++ [x]) k (fun y hy => h y (by simpa using hy)) (by rw [List.length_append, List.length_append, List.length_singleton]; omega) (by omega)
    simp only [impl_nodeOf.l0]
    rw [if_pos (by rw [List.length_append, List.length_cons]; omega), if_pos (by omega), if_pos (by rw [List.length_append, List.length_cons]; omega), rdI_at, Option.bind_some]
    dsimp only [List.length_cons, List.length_nil]
    rw [if_pos (by omega), Option.bind_some, if_pos (by rw [List.length_append, hx]; show (nb p).length + 3 + W < _; omega), show wrap64 ((p.length : Int) + 1) = ((p ++ [x]).length : Int) from by rw [List.length_append, List.length_singleton]; unfold wrap64; omega, ← nb_snoc]
    rw [show p ++ x :: q = (p ++ [x]) ++ q from by simp]
    exact ih
theorem specNodeOf_l0 (W : Nat) (hW1 : 1 ≤ W) (hW : W ≤ 200) : ∀ (q p : List S26) (k : Nat), (∀ x ∈ p ++ q, x.f2.length = W) → (p ++ q).length ≤ 4 → q.length < k → spec_NodeOf.l0 k (W : Int) (nb p) (p.length : Int) (p ++ q) = some (encN (p ++ q) W)
  | [], p, k, h, h4, hk => by
    obtain ⟨k, rfl⟩ : ∃ m, k = m + 1 := ⟨k - 1, by omega⟩
    rw [List.append_nil] at h h4 ⊢
    have hle := nb_le W p h4 h
    simp only [spec_NodeOf.l0]
    unfold spec_NodeSize.f
    rw [if_neg (by omega), if_neg (by omega), if_neg (by omega), Option.bind_some, pad_eq W _ hW hle, if_pos (by omega), Int.toNat_natCast, if_pos (by omega)]
    rfl
  | x :: q, p, k, h, h4, hk => by
    obtain ⟨k, rfl⟩ : ∃ m, k = m + 1 := ⟨k - 1, by omega⟩
    have hx : x.f2.length = W := h x (by simp)
    rw [List.length_cons] at hk
    have h4' : p.length + (q.length + 1) ≤ 4 := by rw [List.length_append, List.length_cons] at h4; exact h4
    have hp := nb_le W p (by omega) (fun y hy => h y (List.mem_append_left _ hy))
    have ih := specNodeOf_l0 W hW1 hW q (p ++ [x]) k (fun y hy => h y (by simpa using hy)) (by rw [List.length_append, List.length_append, List.length_singleton]; omega) (by omega)
    simp only [spec_NodeOf.l0]
    rw [if_pos (by rw [List.length_append, List.length_cons]; omega), if_pos (by omega), rdI_at, Option.bind_some]
    dsimp only [List.length_cons, List.length_nil]
    rw [if_pos (by omega), Option.bind_some, if_pos (by rw [List.length_append, hx]; show (nb p).length + 3 + W < _; omega), show wrap64 ((p.length : Int) + 1) = ((p ++ [x]).length : Int) from by rw [List.length_append, List.length_singleton]; unfold wrap64; omega, ← nb_snoc]
    rw [show p ++ x :: q = (p ++ [x]) ++ q from by simp]
    exact ih
theorem allFrom_at (xs : List S26) (log width : Int) : ∀ (d i : Nat), allFrom xs log width d i = true → ∀ j, i ≤ j → j < i + d → goodAt xs log width j = true
  | 0, i, _, j, h1, h2 => by omega
  | d + 1, i, h, j, h1, h2 => by
    rw [allFrom_succ, Bool.and_eq_true] at h
    by_cases e : j = i
    · subst e; exact h.1
    · exact allFrom_at xs log width d (i + 1) h.2 j (by omega) (by omega)
theorem blocksB_frame (xs : List S26) (log width : Int) (h : blocksB xs log width = true) : 0 ≤ log ∧ log ≤ 6 ∧ 1 ≤ width ∧ width ≤ 200 := by
  unfold blocksB at h
  rw [Bool.and_eq_true] at h
  have := h.1
  unfold frameB at this
  exact of_decide_eq_true this
theorem blocksB_len (xs : List S26) (log width : Int) (h : blocksB xs log width = true) : ∀ x ∈ xs, x.f2.length = width.toNat := by
  intro x hx
  have hf := blocksB_frame xs log width h
  unfold blocksB at h
  rw [Bool.and_eq_true] at h
  obtain ⟨i, hi, rfl⟩ := List.getElem_of_mem hx
  have hg := allFrom_at xs log width _ _ h.2 i (by omega) (by omega)
  unfold goodAt at hg
  rw [Bool.and_eq_true, rd26 xs i hi] at hg
  have hb := hg.1
  unfold blockB at hb
  rw [Bool.and_eq_true, Bool.and_eq_true, beq_iff_eq] at hb
  have := hb.2.2
  omega
/-- What both programs answer. -/
def nodeEnc (xs : List S26) (log width : Int) : List Int := if xs.length ≤ 4 ∧ blocksB xs log width = true then encN xs width.toNat else []
theorem nodeEnc_len (xs : List S26) (log width : Int) : (nodeEnc xs log width).length ≤ 812 := by
  unfold nodeEnc
  split
  · rename_i h
    have hf := blocksB_frame xs log width h.2
    rw [encN_len _ xs h.1 (blocksB_len xs log width h.2)]
    omega
  · exact Nat.zero_le _
theorem specNodeOf_eq (xs : List S26) (hx : xs.length ≤ 1048576) (log width : Int) (k : Nat) (hk : xs.length + 20 < k) : spec_NodeOf.f k xs log width = some (nodeEnc xs log width) := by
  unfold spec_NodeOf.f spec_NodeOk.f nodeEnc
  by_cases c : xs.length ≤ 4
  · rw [if_pos (by omega), blocks_spec xs hx log width k hk, Option.bind_some, Option.bind_some]
    by_cases d : blocksB xs log width = true
    · have hf := blocksB_frame xs log width d
      obtain ⟨W, rfl⟩ := Int.eq_ofNat_of_zero_le (show 0 ≤ width by omega)
      have hl := blocksB_len xs log _ d
      rw [Int.toNat_natCast] at hl
      have h := specNodeOf_l0 W (by omega) (by omega) xs [] k (by simpa using hl) (by simpa using c) (by omega)
      rw [if_pos d, if_pos ⟨c, d⟩, Int.toNat_natCast]
      exact h
    · rw [if_neg d, if_neg (fun h => d h.2)]
  · rw [if_neg (by omega), Option.bind_some, if_neg (by simp), if_neg (fun h => c h.1)]
theorem strL (l : List Int) : (strOfNums l).toList = l.map fun n => UInt8.ofNat n.toNat := by rw [ByteArray.toList_eq]; rfl
def blkAt (D : List Int) (W a : Nat) : S26 := ⟨wrap64 (rd D ((a + 1 : Nat) : Int)), wrap64 (rd D ((a + 2 : Nat) : Int)), (D.take (a + 3 + W)).drop (a + 3)⟩
def parse (D : List Int) (W : Nat) : Nat → Nat → List S26 → List S26
  | 0, _, p => p
  | d + 1, j, p => if rd D ((j * (W + 3) : Nat) : Int) = 1 then parse D W d (j + 1) (p ++ [blkAt D W (j * (W + 3))]) else p
def endR (D : List Int) (log : Int) (W : Nat) (X : List S26) : List S26 × Bool := if blocksB X log (W : Int) = true ∧ (strOfNums (encN X W)).toList = (strOfNums D).toList then (X, true) else (([] : List S26), false)
theorem blkAt_len (D : List Int) (W a : Nat) : (blkAt D W a).f2.length ≤ W := by
  show ((D.take (a + 3 + W)).drop (a + 3)).length ≤ W
  rw [List.length_drop, List.length_take]
  omega
theorem parse_ok (D : List Int) (W : Nat) (hW : W ≤ 200) : ∀ (d j : Nat) (p : List S26), p.length = j → j + d ≤ 4 → (∀ x ∈ p, x.f2.length ≤ 200) → (parse D W d j p).length ≤ 4 ∧ ∀ x ∈ parse D W d j p, x.f2.length ≤ 200
  | 0, j, p, h1, h2, h3 => ⟨by rw [parse]; omega, h3⟩
  | d + 1, j, p, h1, h2, h3 => by
    rw [parse]
    split
    · refine parse_ok D W hW d (j + 1) _ (by rw [List.length_append, List.length_singleton]; omega) (by omega) (fun x hx => ?_)
      rcases List.mem_append.1 hx with hx | hx
      · exact h3 x hx
      · rw [List.mem_singleton.1 hx]
        have := blkAt_len D W (j * (W + 3))
        omega
    · exact ⟨by omega, h3⟩
theorem datI_le : ∀ l : List S26, (∀ x ∈ l, x.f2.length ≤ 200) → datI l ≤ 200 * l.length
  | [], _ => Nat.zero_le _
  | x :: l, h => by
    rw [datI_cons, List.length_cons]
    have h1 := h x List.mem_cons_self
    have h2 := datI_le l (fun y hy => h y (List.mem_cons_of_mem _ hy))
    omega
theorem nodeOf_f (xs : List S26) (W : Nat) (hW : W ≤ 200) (h4 : xs.length ≤ 4) (hl : ∀ x ∈ xs, x.f2.length = W) (k : Nat) (hk : 4 < k) : impl_nodeOf.f k xs (W : Int) = some (encN xs W) := nodeOf_l0 W hW xs [] k (by simpa using hl) (by simpa using h4) (by omega)
theorem impl_end (D : List Int) (log : Int) (W : Nat) (X : List S26) (h4 : X.length ≤ 4) (k : Nat) (hk : 30 ≤ k) : ((impl_areBlocks.f k X log (W : Int)).bind fun t => (if t = true then ((impl_nodeOf.f k X (W : Int)).bind fun t => ((bytes_Equal.f t D).bind fun t => (if t = true then (some (X, true)) else (some (([] : List S26), false))))) else (some (([] : List S26), false)))) = some (endR D log W X) := by
  rw [blocks_impl X (by omega) log _ k (by omega), Option.bind_some]
  unfold endR
  by_cases c : blocksB X log (W : Int) = true
  · have hf := blocksB_frame X log _ c
    have hl := blocksB_len X log _ c
    rw [Int.toNat_natCast] at hl
    rw [if_pos c, nodeOf_f X W (by omega) h4 hl k (by omega), Option.bind_some]
    unfold bytes_Equal.f
    rw [Option.bind_some]
    by_cases e : (strOfNums (encN X W)).toList = (strOfNums D).toList
    · rw [if_pos (by rw [e]; exact beq_self_eq_true _), if_pos ⟨c, e⟩]
    · rw [if_neg (by simpa using e), if_neg (fun h => e h.2)]
  · rw [if_neg c, if_neg (fun h => c h.1)]
theorem spec_end (D : List Int) (hD : 0 < D.length) (log : Int) (W : Nat) (X : List S26) (h4 : X.length ≤ 4) (k : Nat) (hk : 30 ≤ k) : ((spec_NodeOf.f k X log (W : Int)).bind fun t => (if (strOfNums t).toList = (strOfNums D).toList then (some (X, true)) else (some (([] : List S26), false)))) = some (endR D log W X) := by
  rw [specNodeOf_eq X (by omega) log _ k (by omega), Option.bind_some]
  unfold endR
  by_cases c : blocksB X log (W : Int) = true
  · have hN : nodeEnc X log (W : Int) = encN X W := by
      unfold nodeEnc
      rw [if_pos ⟨h4, c⟩, Int.toNat_natCast]
    rw [hN]
    by_cases e : (strOfNums (encN X W)).toList = (strOfNums D).toList
    · rw [if_pos e, if_pos ⟨c, e⟩]
    · rw [if_neg e, if_neg (fun h => e h.2)]
  · have hN : nodeEnc X log (W : Int) = [] := by
      unfold nodeEnc
      rw [if_neg (fun h => c h.2)]
    have hne : ¬ (strOfNums ([] : List Int)).toList = (strOfNums D).toList := by
      intro e
      rw [strL, strL] at e
      have := congrArg List.length e
      simp at this
      omega
    rw [hN, if_neg hne, if_neg (fun h => c h.1)]
theorem w_two (a b : Nat) (h : a + b ≤ 2000000) : wrap64 ((a : Int) + (b : Int)) = ((a + b : Nat) : Int) := by unfold wrap64; omega
theorem w_lit1 (a : Nat) (h : a ≤ 1000000) : wrap64 ((a : Int) + 1) = ((a + 1 : Nat) : Int) := w_two a 1 (by omega)
theorem w_lit2 (a : Nat) (h : a ≤ 1000000) : wrap64 ((a : Int) + 2) = ((a + 2 : Nat) : Int) := w_two a 2 (by omega)
theorem w_lit3 (a : Nat) (h : a ≤ 1000000) : wrap64 ((a : Int) + 3) = ((a + 3 : Nat) : Int) := w_two a 3 (by omega)
theorem at_le (W j : Nat) (hj : j + 1 ≤ 4) : j * (W + 3) + (W + 3) ≤ 4 * (W + 3) := by
  have h := Nat.mul_le_mul_right (W + 3) hj
  rw [Nat.succ_mul] at h
  exact h
theorem implRead_step (D : List Int) (log : Int) (W : Nat) (hW : W ≤ 200) (a : Nat) (ha : a ≤ 1000) (hlen : a + (W + 3) ≤ D.length) (p : List S26) (hp : p.length ≤ 4) (k : Nat) (hk : 30 ≤ k) :
    impl_nodeRead.l0 (k + 1) D log (W : Int) p (a : Int) = if rd D (a : Int) = 1 then impl_nodeRead.l0 k D log (W : Int) (p ++ [blkAt D W a]) ((a + (W + 3) : Nat) : Int) else some (endR D log W p) := by
  have hcut : ((D.take (a + 3 + W)).drop (a + 3)).length < 140737488355328 := Nat.lt_of_le_of_lt (blkAt_len D W a) (by omega)
  simp only [impl_nodeRead.l0]
  rw [if_pos (by omega), if_pos (by omega)]
  by_cases c : rd D (a : Int) = 1
  · rw [if_pos c, if_pos c, w_lit1 a (by omega), w_lit2 a (by omega), w_lit3 a (by omega), w_two (a + 3) W (by omega), w_lit3 W (by omega), w_two a (W + 3) (by omega), if_pos (by omega), if_pos (by omega), if_pos (by omega), if_pos (by omega), if_pos (by omega), if_pos (by omega), if_pos (by omega), Int.toNat_natCast, Int.toNat_natCast]
    unfold bytes_Clone.f
    rw [if_pos hcut, Option.bind_some, if_pos (by omega)]
    rfl
  · rw [if_neg c, if_neg c, impl_end D log W p hp k hk]
theorem specRead_step (D : List Int) (log : Int) (W : Nat) (hW : W ≤ 200) (a : Nat) (ha : a ≤ 1000) (hlen : a + (W + 3) ≤ D.length) (p : List S26) (hp : p.length ≤ 4) (k : Nat) (hk : 30 ≤ k) :
    spec_NodeRead.l0 (k + 1) D log (W : Int) (a : Int) p = if rd D (a : Int) = 1 then spec_NodeRead.l0 k D log (W : Int) ((a + (W + 3) : Nat) : Int) (p ++ [blkAt D W a]) else some (endR D log W p) := by
  have hcut : ([] : List Int).length + ((D.take (a + 3 + W)).drop (a + 3)).length < 140737488355328 := by
    have := blkAt_len D W a
    show 0 + ((D.take (a + 3 + W)).drop (a + 3)).length < _
    have h2 : ((D.take (a + 3 + W)).drop (a + 3)).length ≤ W := this
    omega
  simp only [spec_NodeRead.l0]
  rw [if_pos (by omega), if_pos (by omega)]
  by_cases c : rd D (a : Int) = 1
  · rw [if_pos c, if_pos c, w_lit1 a (by omega), w_lit2 a (by omega), w_lit3 a (by omega), w_two (a + 3) W (by omega), w_two a W (by omega), w_lit3 (a + W) (by omega), if_pos (by omega), if_pos (by omega), if_pos (by omega), if_pos (by omega), Option.bind_some, if_pos (by omega), if_pos (by omega), if_pos (by omega), Int.toNat_natCast, Int.toNat_natCast, if_pos hcut, if_pos (by omega), List.nil_append]
    rfl
  · rw [if_neg c, if_neg c, spec_end D (by omega) log W p hp k hk]
theorem implRead_l0 (D : List Int) (log : Int) (W : Nat) (hW : W ≤ 200) (hD : D.length = 4 * (W + 3)) : ∀ (d j : Nat) (p : List S26) (k : Nat), j + d = 4 → p.length = j → d + 31 ≤ k → impl_nodeRead.l0 k D log (W : Int) p ((j * (W + 3) : Nat) : Int) = some (endR D log W (parse D W d j p)) := by
  intro d
  induction d with
  | zero =>
    intro j p k hj hp hk
    obtain ⟨k, rfl⟩ : ∃ m, k = m + 1 := ⟨k - 1, by omega⟩
    obtain rfl : j = 4 := by omega
    simp only [impl_nodeRead.l0]
    rw [if_neg (by omega), impl_end D log W p (by omega) k (by omega), parse]
  | succ d ih =>
    intro j p k hj hp hk
    obtain ⟨k, rfl⟩ : ∃ m, k = m + 1 := ⟨k - 1, by omega⟩
    have hm := at_le W j (by omega)
    rw [implRead_step D log W hW (j * (W + 3)) (by omega) (by omega) p (by omega) k (by omega), parse]
    by_cases c : rd D ((j * (W + 3) : Nat) : Int) = 1
    · rw [if_pos c, if_pos c, ← Nat.succ_mul]
      exact ih (j + 1) _ k (by omega) (by rw [List.length_append, List.length_singleton, hp]) (by omega)
    · rw [if_neg c, if_neg c]
theorem specRead_l0 (D : List Int) (log : Int) (W : Nat) (hW : W ≤ 200) (hD : D.length = 4 * (W + 3)) : ∀ (d j : Nat) (p : List S26) (k : Nat), j + d = 4 → p.length = j → d + 31 ≤ k → spec_NodeRead.l0 k D log (W : Int) ((j * (W + 3) : Nat) : Int) p = some (endR D log W (parse D W d j p)) := by
  intro d
  induction d with
  | zero =>
    intro j p k hj hp hk
    obtain ⟨k, rfl⟩ : ∃ m, k = m + 1 := ⟨k - 1, by omega⟩
    obtain rfl : j = 4 := by omega
    simp only [spec_NodeRead.l0]
    rw [if_neg (by omega), spec_end D (by omega) log W p (by omega) k (by omega), parse]
  | succ d ih =>
    intro j p k hj hp hk
    obtain ⟨k, rfl⟩ : ∃ m, k = m + 1 := ⟨k - 1, by omega⟩
    have hm := at_le W j (by omega)
    rw [specRead_step D log W hW (j * (W + 3)) (by omega) (by omega) p (by omega) k (by omega), parse]
    by_cases c : rd D ((j * (W + 3) : Nat) : Int) = 1
    · rw [if_pos c, if_pos c, ← Nat.succ_mul]
      exact ih (j + 1) _ k (by omega) (by rw [List.length_append, List.length_singleton, hp]) (by omega)
    · rw [if_neg c, if_neg c]
theorem read_both (D : List Int) (log width : Int) : ∃ (X : List S26) (b : Bool), X.length ≤ 4 ∧ datI X ≤ 800 ∧ ∀ k, 40 ≤ k → spec_NodeRead.f k D log width = some (X, b) ∧ impl_NodeRead.f k D log width = some (X, b) := by
  have hf := frame_spec log width
  by_cases c : 0 ≤ log ∧ log ≤ 6 ∧ 1 ≤ width ∧ width ≤ 200
  · rw [show frameB log width = true from decide_eq_true c] at hf
    obtain ⟨c0, c1, c2, c3⟩ := c
    obtain ⟨W, rfl⟩ := Int.eq_ofNat_of_zero_le (show 0 ≤ width by omega)
    have e1 : wrap64 ((W : Int) + 3) = (W : Int) + 3 := w_lit3 W (by omega)
    have e2 : wrap64 (4 * ((W : Int) + 3)) = 4 * ((W : Int) + 3) := by unfold wrap64; omega
    have hL : impl_isLog.f log = some true := by
      unfold impl_isLog.f impl_within.f
      rw [if_pos c0, decide_eq_true c1, Option.bind_some]
    have hWi : impl_within.f (W : Int) 1 200 = some true := by
      unfold impl_within.f
      rw [if_pos c2, decide_eq_true c3]
    by_cases e : D.length = 4 * (W + 3)
    · have hp := parse_ok D W (by omega) 4 0 [] rfl (by omega) (by simp)
      have hd := datI_le _ hp.2
      refine ⟨(endR D log W (parse D W 4 0 [])).1, (endR D log W (parse D W 4 0 [])).2, ?_, ?_, fun k hk => ?_⟩
      · unfold endR; split
        · exact hp.1
        · exact Nat.zero_le _
      · unfold endR; split
        · show datI (parse D W 4 0 []) ≤ 800; omega
        · exact Nat.zero_le _
      · have h1 := specRead_l0 D log W (by omega) e 4 0 [] k (by omega) rfl (by omega)
        have h2 := implRead_l0 D log W (by omega) e 4 0 [] k (by omega) rfl (by omega)
        rw [Nat.zero_mul] at h1 h2
        constructor
        · unfold spec_NodeRead.f spec_NodeSize.f
          rw [hf, Option.bind_some, if_pos rfl, if_neg (by omega), if_neg (by omega), Option.bind_some, e1, e2, if_pos (by omega)]
          exact h1
        · unfold impl_NodeRead.f impl_nodeRead.f
          rw [hL, Option.bind_some, if_pos rfl, hWi, Option.bind_some, if_pos rfl, e1, e2, if_pos (by omega)]
          rw [show impl_nodeRead.l0 k D log (W : Int) [] 0 = _ from h2, Option.bind_some]
    · refine ⟨[], false, Nat.zero_le _, Nat.zero_le _, fun k hk => ⟨?_, ?_⟩⟩
      · unfold spec_NodeRead.f spec_NodeSize.f
        rw [hf, Option.bind_some, if_pos rfl, if_neg (by omega), if_neg (by omega), Option.bind_some, e1, e2, if_neg (by omega)]
      · unfold impl_NodeRead.f impl_nodeRead.f
        rw [hL, Option.bind_some, if_pos rfl, hWi, Option.bind_some, if_pos rfl, e1, e2, if_neg (by omega), Option.bind_some]
  · rw [show frameB log width = false from decide_eq_false c] at hf
    refine ⟨[], false, Nat.zero_le _, Nat.zero_le _, fun k hk => ⟨?_, ?_⟩⟩
    · unfold spec_NodeRead.f
      rw [hf, Option.bind_some, if_neg (by simp)]
    · unfold impl_NodeRead.f impl_nodeRead.f impl_isLog.f impl_within.f
      by_cases c0 : log ≥ 0
      · rw [if_pos c0, Option.bind_some, Option.bind_some]
        by_cases c1 : log ≤ 6
        · rw [if_pos (by simpa using c1)]
          by_cases c2 : width ≥ 1
          · rw [if_pos c2, decide_eq_false (by omega), Option.bind_some, if_neg (by simp), Option.bind_some]
          · rw [if_neg c2, Option.bind_some, if_neg (by simp), Option.bind_some]
        · rw [if_neg (by simpa using c1), Option.bind_some]
      · rw [if_neg c0, Option.bind_some, Option.bind_some, if_neg (by simp), Option.bind_some]
theorem law_at (D : List Int) (log width : Int) (hD : D.length ≤ 1048576) (k : Nat) (hk : 1048576 + 1000 ≤ k) (X : List S26) (b : Bool) (h4 : X.length ≤ 4) (hd : datI X ≤ 800) (hS : spec_NodeRead.f k D log width = some (X, b)) (hI : impl_NodeRead.f k D log width = some (X, b)) : laws_FnExactNodeRead.f k D log width = some true := by
  have hto : laws_toByteS.f k D = some D := toByteS_eq D hD k (by omega)
  have heq : laws_eqNode.f k X X = some true := by
    unfold laws_eqNode.f
    rw [eqBs_eq X (by omega) k (by omega), Option.bind_some, if_pos rfl]
  have hmk : laws_markNode.f k X 1 = some (1 + 2 * (X.length : Int) + (datI X : Int), mkBs 1 X) := markBs_eq X (by omega) k (by omega)
  have hhd : laws_heldNode.f k (mkBs 1 X) 1 = some (1 + 2 * (X.length : Int) + (datI X : Int)) := by
    unfold laws_heldNode.f
    rw [heldBs_eq X (by omega) k (by omega), Option.bind_some, if_neg (by omega)]
  unfold laws_FnExactNodeRead.f
  rw [if_neg (by omega), hto, Option.bind_some, hS, Option.bind_some, Option.bind_some, hI, Option.bind_some]
  dsimp only
  rw [heq, Option.bind_some, if_pos rfl, if_neg (by simp), Option.bind_some, eqByteS_eq D hD k (by omega), Option.bind_some, if_pos rfl, markB_eq 1 D hD (by omega) (by omega) k (by omega), Option.bind_some]
  dsimp only
  rw [if_neg (by omega), Option.bind_some, if_pos rfl, hmk, Option.bind_some]
  dsimp only
  rw [hhd, Option.bind_some, if_neg (by omega), if_pos rfl, Option.bind_some, hI, Option.bind_some]
  dsimp only
  rw [heq, Option.bind_some, if_pos rfl, if_neg (by simp), Option.bind_some, if_neg (by omega), if_pos rfl]
theorem FnExactNodeRead : laws_FnExactNodeRead.Pure := by
  intro l0 a1 a2 _ _ _ _ _
  by_cases c : l0.length ≤ 1048576
  · obtain ⟨X, b, h4, hd, h⟩ := read_both l0 a1 a2
    exact ⟨1048576 + 1000, law_at l0 a1 a2 c _ (Nat.le_refl _) X b h4 hd (h _ (by omega)).1 (h _ (by omega)).2⟩
  · refine ⟨1, ?_⟩
    unfold laws_FnExactNodeRead.f
    rw [if_pos (by omega)]

end Go.Proofs.Ytggfndobfpmoaaa.Pure

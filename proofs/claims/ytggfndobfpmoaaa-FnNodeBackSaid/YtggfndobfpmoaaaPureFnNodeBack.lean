/- the plain law of FnNodeBack: what a node's bytes say is read back -/
import Derived.Test.YtggfndobfpmoaaaPFnNodeBackx8
namespace Go.Proofs.Ytggfndobfpmoaaa.Pure
open Go.RowKit Go.Proofs.Ytggfndobfpmoaaa.PFnNodeBack Go.Proofs.YtggfndobfpmoaaaW.PrintWords Go.Proofs.YtggfndobfpmoaaaW.PrintLast Go.Proofs.YtggfndobfpmoaaaW.PrintMore
set_option linter.unusedVariables false
set_option linter.unusedSimpArgs false

theorem pow_all : ∀ l : Nat, l < 7 → spec_l02Pow.f 20 (l : Int) = some ((2 ^ l : Nat) : Int) ∧ wrap64 ((shl .i64 1 (l : Int)) - 1) = ((2 ^ l : Nat) : Int) - 1 := by decide +kernel
def isL (a0 a1 : Int) : Bool := decide (0 ≤ a0 ∧ a0 ≤ 6 ∧ 0 ≤ a1 ∧ a1 < ((2 ^ a0.toNat : Nat) : Int))
theorem pow_k (k l : Nat) (hk : 20 ≤ k) (hl : l < 7) : spec_l02Pow.f k (l : Int) = some ((2 ^ l : Nat) : Int) :=
  at_rounds (g := fun k => spec_l02Pow.f k (l : Int)) (fun k => spec_l02Pow.mono (l : Int) k) hk (pow_all l hl).1
theorem leaf_spec (k : Nat) (hk : 20 ≤ k) (a0 a1 : Int) : spec_l11Leaf.f k a0 a1 = some (isL a0 a1) := by
  unfold spec_l11Leaf.f spec_l11Log.f isL
  by_cases h1 : 0 ≤ a0 ∧ a0 ≤ 6
  · obtain ⟨l, rfl⟩ := Int.eq_ofNat_of_zero_le h1.1
    have e1 := pow_k k l hk (by omega)
    have d1 : (l : Int) ≥ 0 := by omega
    have d2 : decide ((l : Int) ≤ 6) = true := decide_eq_true (by omega)
    rw [if_pos d1, d2, e1, Int.toNat_natCast]
    simp only [Option.bind_some, if_true]
    by_cases h3 : a1 ≥ 0
    · rw [if_pos h3]; congr 1; apply decide_eq_decide.2; omega
    · rw [if_neg h3]; congr 1; symm; apply decide_eq_false; omega
  · have e : decide (0 ≤ a0 ∧ a0 ≤ 6 ∧ 0 ≤ a1 ∧ a1 < ((2 ^ a0.toNat : Nat) : Int)) = false := decide_eq_false (by omega)
    rw [e]
    by_cases h2 : a0 ≥ 0
    · have h3 : decide (a0 ≤ 6) = false := decide_eq_false (by omega)
      rw [if_pos h2, h3]; rfl
    · rw [if_neg h2]; rfl
theorem leaf_impl (a0 a1 : Int) : impl_isLeaf.f a0 a1 = some (isL a0 a1) := by
  unfold impl_isLeaf.f impl_isLog.f impl_within.f isL
  by_cases h1 : 0 ≤ a0 ∧ a0 ≤ 6
  · obtain ⟨l, rfl⟩ := Int.eq_ofNat_of_zero_le h1.1
    have e2 := (pow_all l (by omega)).2
    have d1 : (l : Int) ≥ 0 := by omega
    have d2 : decide ((l : Int) ≤ 6) = true := decide_eq_true (by omega)
    rw [if_pos d1, d2, Int.toNat_natCast]
    simp only [Option.bind_some, if_true]
    rw [if_pos h1.1, e2]
    by_cases h3 : a1 ≥ 0
    · rw [if_pos h3]
      show some _ = some _
      congr 1; apply decide_eq_decide.2; omega
    · rw [if_neg h3]
      show some _ = some _
      congr 1; symm; apply decide_eq_false; omega
  · have e : decide (0 ≤ a0 ∧ a0 ≤ 6 ∧ 0 ≤ a1 ∧ a1 < ((2 ^ a0.toNat : Nat) : Int)) = false := decide_eq_false (by omega)
    rw [e]
    by_cases h2 : a0 ≥ 0
    · have h3 : decide (a0 ≤ 6) = false := decide_eq_false (by omega)
      rw [if_pos h2, h3]; rfl
    · rw [if_neg h2]; rfl
def blockB (id leaf len log width : Int) : Bool := decide (0 ≤ log ∧ log ≤ 6 ∧ 1 ≤ width ∧ width ≤ 200 ∧ 0 ≤ id ∧ id ≤ 255) && (isL log leaf && (len == width))
theorem block_spec (k : Nat) (hk : 20 ≤ k) (id leaf : Int) (data : List Int) (log width : Int) : spec_BlockOk.f k id leaf data log width = some (blockB id leaf (data.length : Int) log width) := by
  unfold spec_BlockOk.f spec_l12Frame.f spec_l11Log.f blockB
  rw [leaf_spec k hk]
  by_cases h1 : log ≥ 0
  · rw [if_pos h1]
    simp only [Option.bind_some]
    by_cases h2 : log ≤ 6
    · rw [if_pos (by simpa using h2)]
      by_cases h3 : width ≥ 1
      · rw [if_pos h3]
        simp only [Option.bind_some]
        by_cases h4 : width ≤ 200
        · rw [if_pos (by simpa using h4)]
          by_cases h5 : id ≥ 0
          · rw [if_pos h5]
            by_cases h6 : id ≤ 255
            · rw [if_pos h6, decide_eq_true (show 0 ≤ log ∧ log ≤ 6 ∧ 1 ≤ width ∧ width ≤ 200 ∧ 0 ≤ id ∧ id ≤ 255 from by omega)]
              cases isL log leaf <;> simp
            · rw [if_neg h6, decide_eq_false (show ¬ (0 ≤ log ∧ log ≤ 6 ∧ 1 ≤ width ∧ width ≤ 200 ∧ 0 ≤ id ∧ id ≤ 255) from by omega)]; rfl
          · rw [if_neg h5, decide_eq_false (show ¬ (0 ≤ log ∧ log ≤ 6 ∧ 1 ≤ width ∧ width ≤ 200 ∧ 0 ≤ id ∧ id ≤ 255) from by omega)]; rfl
        · rw [if_neg (by simpa using h4), decide_eq_false (show ¬ (0 ≤ log ∧ log ≤ 6 ∧ 1 ≤ width ∧ width ≤ 200 ∧ 0 ≤ id ∧ id ≤ 255) from by omega)]; rfl
      · rw [if_neg h3, decide_eq_false (show ¬ (0 ≤ log ∧ log ≤ 6 ∧ 1 ≤ width ∧ width ≤ 200 ∧ 0 ≤ id ∧ id ≤ 255) from by omega)]; rfl
    · rw [if_neg (by simpa using h2), decide_eq_false (show ¬ (0 ≤ log ∧ log ≤ 6 ∧ 1 ≤ width ∧ width ≤ 200 ∧ 0 ≤ id ∧ id ≤ 255) from by omega)]; rfl
  · rw [if_neg h1, decide_eq_false (show ¬ (0 ≤ log ∧ log ≤ 6 ∧ 1 ≤ width ∧ width ≤ 200 ∧ 0 ≤ id ∧ id ≤ 255) from by omega)]; rfl
theorem block_impl (id leaf : Int) (data : List Int) (log width : Int) : impl_isBlock.f id leaf data log width = some (blockB id leaf (data.length : Int) log width) := by
  unfold impl_isBlock.f blockB
  rw [leaf_impl]
  cases hL : isL log leaf with
  | false => simp
  | true =>
    simp only [isL, decide_eq_true_eq] at hL
    simp only [Option.bind_some, if_true]
    unfold impl_within.f
    by_cases h3 : width ≥ 1
    · rw [if_pos h3]
      simp only [Option.bind_some]
      by_cases h4 : width ≤ 200
      · rw [if_pos (by simpa using h4)]
        by_cases h5 : id ≥ 0
        · rw [if_pos h5]
          simp only [Option.bind_some]
          by_cases h6 : id ≤ 255
          · rw [if_pos (by simpa using h6), decide_eq_true (show 0 ≤ log ∧ log ≤ 6 ∧ 1 ≤ width ∧ width ≤ 200 ∧ 0 ≤ id ∧ id ≤ 255 from by omega)]
            simp
          · rw [if_neg (by simpa using h6), decide_eq_false (show ¬ (0 ≤ log ∧ log ≤ 6 ∧ 1 ≤ width ∧ width ≤ 200 ∧ 0 ≤ id ∧ id ≤ 255) from by omega)]; rfl
        · rw [if_neg h5, decide_eq_false (show ¬ (0 ≤ log ∧ log ≤ 6 ∧ 1 ≤ width ∧ width ≤ 200 ∧ 0 ≤ id ∧ id ≤ 255) from by omega)]; rfl
      · rw [if_neg (by simpa using h4), decide_eq_false (show ¬ (0 ≤ log ∧ log ≤ 6 ∧ 1 ≤ width ∧ width ≤ 200 ∧ 0 ≤ id ∧ id ≤ 255) from by omega)]; rfl
    · rw [if_neg h3, decide_eq_false (show ¬ (0 ≤ log ∧ log ≤ 6 ∧ 1 ≤ width ∧ width ≤ 200 ∧ 0 ≤ id ∧ id ≤ 255) from by omega)]; rfl
theorem rd26 (l : List S26) (i : Nat) (h : i < l.length) : rd_T26 l (i : Int) = l[i] := by simp [rd_T26, h]
theorem wr (i : Nat) (h : i ≤ 2000000) : wrap64 ((i : Int) + 1) = ((i + 1 : Nat) : Int) := by unfold wrap64; omega
/-! the blocks' own rule -/
def goodAt (xs : List S26) (log width : Int) (i : Nat) : Bool := blockB (rd_T26 xs (i : Int)).f0 (rd_T26 xs (i : Int)).f1 ((rd_T26 xs (i : Int)).f2.length : Int) log width && (decide (i = 0) || !decide ((rd_T26 xs ((i - 1 : Nat) : Int)).f0 ≥ (rd_T26 xs (i : Int)).f0))
def allFrom (xs : List S26) (log width : Int) : Nat → Nat → Bool
  | 0, _ => true
  | d + 1, i => goodAt xs log width i && allFrom xs log width d (i + 1)
theorem allFrom_succ (xs : List S26) (log width : Int) (d i : Nat) : allFrom xs log width (d + 1) i = (goodAt xs log width i && allFrom xs log width d (i + 1)) := rfl
def frameB (log width : Int) : Bool := decide (0 ≤ log ∧ log ≤ 6 ∧ 1 ≤ width ∧ width ≤ 200)
def blocksB (xs : List S26) (log width : Int) : Bool := frameB log width && allFrom xs log width xs.length 0
theorem frame_spec (log width : Int) : spec_l12Frame.f log width = some (frameB log width) := by
  unfold spec_l12Frame.f spec_l11Log.f frameB
  by_cases h1 : log ≥ 0
  · rw [if_pos h1]
    simp only [Option.bind_some]
    by_cases h2 : log ≤ 6
    · rw [if_pos (by simpa using h2)]
      by_cases h3 : width ≥ 1
      · rw [if_pos h3]; congr 1; apply decide_eq_decide.2; omega
      · rw [if_neg h3]; congr 1; symm; apply decide_eq_false; omega
    · rw [if_neg (by simpa using h2)]; congr 1; symm; apply decide_eq_false; omega
  · rw [if_neg h1]
    show some false = _
    congr 1; symm; apply decide_eq_false; omega
theorem frame_impl (log width : Int) : ((impl_isLog.f log).bind fun t => if t = true then ((impl_within.f width 1 200).bind fun u => some u) else some false) = some (frameB log width) := by
  unfold impl_isLog.f impl_within.f frameB
  by_cases h1 : log ≥ 0
  · rw [if_pos h1]
    simp only [Option.bind_some]
    by_cases h2 : log ≤ 6
    · rw [if_pos (by simpa using h2)]
      by_cases h3 : width ≥ 1
      · rw [if_pos h3]
        show some _ = some _
        congr 1; apply decide_eq_decide.2; omega
      · rw [if_neg h3]
        show some _ = some _
        congr 1; symm; apply decide_eq_false; omega
    · rw [if_neg (by simpa using h2)]; congr 1; symm; apply decide_eq_false; omega
  · rw [if_neg h1]
    show some false = _
    congr 1; symm; apply decide_eq_false; omega
theorem blocks_spec_l0 (xs : List S26) (hx : xs.length ≤ 1048576) (log width : Int) : ∀ (d k i : Nat), i ≤ xs.length → xs.length - i = d → d + 20 < k → spec_BlocksOk.l0 k xs log width (i : Int) = some (allFrom xs log width d i) := by
  intro d
  induction d with
  | zero =>
    intro k i hi hd hk
    obtain ⟨k, rfl⟩ : ∃ m, k = m + 1 := ⟨k - 1, by omega⟩
    simp only [spec_BlocksOk.l0]
    rw [if_neg (by omega)]; rfl
  | succ d ih =>
    intro k i hi hd hk
    obtain ⟨k, rfl⟩ : ∃ m, k = m + 1 := ⟨k - 1, by omega⟩
    simp only [spec_BlocksOk.l0]
    rw [if_pos (by omega), if_pos (by omega), block_spec k (by omega)]
    simp only [Option.bind_some]
    rw [wr i (by omega), ih k (i + 1) (by omega) (by omega) (by omega)]
    rw [allFrom_succ]
    unfold goodAt
    cases blockB (rd_T26 xs (i : Int)).f0 (rd_T26 xs (i : Int)).f1 ((rd_T26 xs (i : Int)).f2.length : Int) log width with
    | false => simp
    | true =>
      by_cases c : i = 0
      · subst c; simp
      · rw [if_pos rfl, if_pos (by omega), show wrap64 ((i : Int) - 1) = ((i - 1 : Nat) : Int) from by unfold wrap64; omega, if_pos (by omega), if_pos (by omega), decide_eq_false c]
        by_cases c2 : (rd_T26 xs ((i - 1 : Nat) : Int)).f0 ≥ (rd_T26 xs (i : Int)).f0
        · rw [if_pos c2, decide_eq_true c2]; rfl
        · rw [if_neg c2, decide_eq_false c2]; rfl
theorem blocks_impl_l0 (xs : List S26) (hx : xs.length ≤ 1048576) (log width : Int) : ∀ (d k i : Nat), i ≤ xs.length → xs.length - i = d → d + 20 < k → impl_areBlocks.l0 k xs log width xs (xs.length : Int) (i : Int) = some (allFrom xs log width d i && frameB log width) := by
  intro d
  induction d with
  | zero =>
    intro k i hi hd hk
    obtain ⟨k, rfl⟩ : ∃ m, k = m + 1 := ⟨k - 1, by omega⟩
    simp only [impl_areBlocks.l0]
    rw [if_neg (by omega), frame_impl]; rfl
  | succ d ih =>
    intro k i hi hd hk
    obtain ⟨k, rfl⟩ : ∃ m, k = m + 1 := ⟨k - 1, by omega⟩
    simp only [impl_areBlocks.l0]
    rw [if_pos (by omega), if_pos (by omega), if_pos (by omega), block_impl]
    simp only [Option.bind_some]
    rw [wr i (by omega), ih k (i + 1) (by omega) (by omega) (by omega)]
    rw [allFrom_succ]
    unfold goodAt
    cases blockB (rd_T26 xs (i : Int)).f0 (rd_T26 xs (i : Int)).f1 ((rd_T26 xs (i : Int)).f2.length : Int) log width with
    | false => simp
    | true =>
      by_cases c : i = 0
      · subst c; simp
      · rw [if_pos rfl, if_pos (by omega), show wrap64 ((i : Int) - 1) = ((i - 1 : Nat) : Int) from by unfold wrap64; omega, if_pos (by omega), if_pos (by omega), decide_eq_false c]
        by_cases c2 : (rd_T26 xs ((i - 1 : Nat) : Int)).f0 ≥ (rd_T26 xs (i : Int)).f0
        · rw [if_pos c2, decide_eq_true c2]; rfl
        · rw [if_neg c2, decide_eq_false c2]; rfl
theorem blocks_spec (xs : List S26) (hx : xs.length ≤ 1048576) (log width : Int) (k : Nat) (hk : xs.length + 20 < k) : spec_BlocksOk.f k xs log width = some (blocksB xs log width) := by
  unfold spec_BlocksOk.f blocksB
  have := blocks_spec_l0 xs hx log width xs.length k 0 (by omega) (by omega) hk
  rw [show ((0 : Nat) : Int) = 0 from rfl] at this
  rw [frame_spec, this]
  cases frameB log width <;> simp
theorem blocks_impl (xs : List S26) (hx : xs.length ≤ 1048576) (log width : Int) (k : Nat) (hk : xs.length + 20 < k) : impl_areBlocks.f k xs log width = some (blocksB xs log width) := by
  unfold impl_areBlocks.f blocksB
  have := blocks_impl_l0 xs hx log width xs.length k 0 (by omega) (by omega) hk
  rw [show ((0 : Nat) : Int) = 0 from rfl] at this
  rw [this, Bool.and_comm]
def datI (l : List S26) : Nat := (l.map fun x => x.f2.length).sum
theorem datI_cons (x : S26) (l : List S26) : datI (x :: l) = x.f2.length + datI l := by simp [datI]
theorem rdI_at (p : List S26) (x : S26) (l : List S26) : rd_T26 (p ++ x :: l) (p.length : Int) = x := by simp [rd_T26]
def nb (l : List S26) : List Int := l.flatMap fun x => [1, x.f0 % 256, x.f1 % 256] ++ x.f2
theorem nb_snoc (p : List S26) (x : S26) : nb (p ++ [x]) = (nb p ++ [1, x.f0 % 256, x.f1 % 256]) ++ x.f2 := by simp [nb]
theorem nb_len (W : Nat) : ∀ l : List S26, (∀ x ∈ l, x.f2.length = W) → (nb l).length = l.length * (W + 3)
  | [], _ => by simp [nb]
  | x :: l, h => by
    have e : nb (x :: l) = ([1, x.f0 % 256, x.f1 % 256] ++ x.f2) ++ nb l := by simp [nb]
    rw [e, List.length_append, nb_len W l (fun y hy => h y (List.mem_cons_of_mem _ hy)), List.length_append, h x List.mem_cons_self]
    show 3 + W + l.length * (W + 3) = (l.length + 1) * (W + 3)
    rw [Nat.succ_mul]
    omega
/-- The bytes of a node. -/
def encN (l : List S26) (W : Nat) : List Int := nb l ++ List.replicate (4 * (W + 3) - (nb l).length) 0
theorem nb_le (W : Nat) (l : List S26) (h4 : l.length ≤ 4) (h : ∀ x ∈ l, x.f2.length = W) : (nb l).length ≤ 4 * (W + 3) := by
  rw [nb_len W l h]
  exact Nat.mul_le_mul_right _ h4
theorem encN_len (W : Nat) (l : List S26) (h4 : l.length ≤ 4) (h : ∀ x ∈ l, x.f2.length = W) : (encN l W).length = 4 * (W + 3) := by
  have := nb_le W l h4 h
  unfold encN
  rw [List.length_append, List.length_replicate]
  omega
theorem pad_eq (W n : Nat) (hW : W ≤ 200) (h : n ≤ 4 * (W + 3)) : wrap64 (wrap64 (4 * wrap64 ((W : Int) + 3)) - (n : Int)) = ((4 * (W + 3) - n : Nat) : Int) := by
  have e1 : wrap64 ((W : Int) + 3) = (W : Int) + 3 := by unfold wrap64; omega
  have e2 : wrap64 (4 * ((W : Int) + 3)) = 4 * ((W : Int) + 3) := by unfold wrap64; omega
  rw [e1, e2]
  unfold wrap64
  omega
theorem nodeOf_l0 (W : Nat) (hW : W ≤ 200) : ∀ (q p : List S26) (k : Nat), (∀ x ∈ p ++ q, x.f2.length = W) → (p ++ q).length ≤ 4 → q.length < k → impl_nodeOf.l0 k (W : Int) (nb p) (p ++ q) ((p ++ q).length : Int) (p.length : Int) = some (encN (p ++ q) W)
  | [], p, k, h, h4, hk => by
    obtain ⟨k, rfl⟩ : ∃ m, k = m + 1 := ⟨k - 1, by omega⟩
    rw [List.append_nil] at h h4 ⊢
    have hle := nb_le W p h4 h
    simp only [impl_nodeOf.l0]
    rw [if_neg (by omega), pad_eq W _ hW hle, if_pos (by omega), Int.toNat_natCast, if_pos (by omega)]
    rfl
  | x :: q, p, k, h, h4, hk => by
    obtain ⟨k, rfl⟩ : ∃ m, k = m + 1 := ⟨k - 1, by omega⟩
    have hx : x.f2.length = W := h x (by simp)
    rw [List.length_cons] at hk
    have h4' : p.length + (q.length + 1) ≤ 4 := by rw [List.length_append, List.length_cons] at h4; exact h4
    have hp := nb_le W p (by omega) (fun y hy => h y (List.mem_append_left _ hy))
    have ih := nodeOf_l0 W hW q (p ++ [x]) k (fun y hy => h y (by simpa using hy)) (by rw [List.length_append, List.length_append, List.length_singleton]; omega) (by omega)
    simp only [impl_nodeOf.l0]
    rw [if_pos (by rw [List.length_append, List.length_cons]; omega), if_pos (by omega), if_pos (by rw [List.length_append, List.length_cons]; omega), rdI_at, Option.bind_some]
    dsimp only [List.length_cons, List.length_nil]
    rw [if_pos (by omega), Option.bind_some, if_pos (by rw [List.length_append, hx]; show (nb p).length + 3 + W < _; omega), show wrap64 ((p.length : Int) + 1) = ((p ++ [x]).length : Int) from by rw [List.length_append, List.length_singleton]; unfold wrap64; omega, ← nb_snoc]
    rw [show p ++ x :: q = (p ++ [x]) ++ q from by simp]
    exact ih
theorem allFrom_at (xs : List S26) (log width : Int) : ∀ (d i : Nat), allFrom xs log width d i = true → ∀ j, i ≤ j → j < i + d → goodAt xs log width j = true
  | 0, i, _, j, h1, h2 => by omega
  | d + 1, i, h, j, h1, h2 => by
    rw [allFrom_succ, Bool.and_eq_true] at h
    by_cases e : j = i
    · subst e; exact h.1
    · exact allFrom_at xs log width d (i + 1) h.2 j (by omega) (by omega)
theorem blocksB_frame (xs : List S26) (log width : Int) (h : blocksB xs log width = true) : 0 ≤ log ∧ log ≤ 6 ∧ 1 ≤ width ∧ width ≤ 200 := by
  unfold blocksB at h
  rw [Bool.and_eq_true] at h
  have := h.1
  unfold frameB at this
  exact of_decide_eq_true this
theorem blocksB_len (xs : List S26) (log width : Int) (h : blocksB xs log width = true) : ∀ x ∈ xs, x.f2.length = width.toNat := by
  intro x hx
  have hf := blocksB_frame xs log width h
  unfold blocksB at h
  rw [Bool.and_eq_true] at h
  obtain ⟨i, hi, rfl⟩ := List.getElem_of_mem hx
  have hg := allFrom_at xs log width _ _ h.2 i (by omega) (by omega)
  unfold goodAt at hg
  rw [Bool.and_eq_true, rd26 xs i hi] at hg
  have hb := hg.1
  unfold blockB at hb
  rw [Bool.and_eq_true, Bool.and_eq_true, beq_iff_eq] at hb
  have := hb.2.2
  omega
/-- What both programs answer. -/
def nodeEnc (xs : List S26) (log width : Int) : List Int := if xs.length ≤ 4 ∧ blocksB xs log width = true then encN xs width.toNat else []
theorem nodeEnc_len (xs : List S26) (log width : Int) : (nodeEnc xs log width).length ≤ 812 := by
  unfold nodeEnc
  split
  · rename_i h
    have hf := blocksB_frame xs log width h.2
    rw [encN_len _ xs h.1 (blocksB_len xs log width h.2)]
    omega
  · exact Nat.zero_le _
theorem implNodeOf_eq (xs : List S26) (hx : xs.length ≤ 1048576) (log width : Int) (k : Nat) (hk : xs.length + 20 < k) : impl_NodeOf.f k xs log width = some (nodeEnc xs log width) := by
  unfold impl_NodeOf.f nodeEnc
  by_cases c : xs.length ≤ 4
  · rw [if_neg (by omega), blocks_impl xs hx log width k hk, Option.bind_some]
    by_cases d : blocksB xs log width = true
    · have hf := blocksB_frame xs log width d
      obtain ⟨W, rfl⟩ := Int.eq_ofNat_of_zero_le (show 0 ≤ width by omega)
      have hl := blocksB_len xs log _ d
      rw [Int.toNat_natCast] at hl
      have h := nodeOf_l0 W (by omega) xs [] k (by simpa using hl) (by simpa using c) (by omega)
      rw [if_pos d, if_pos ⟨c, d⟩, Int.toNat_natCast]
      have h2 : impl_nodeOf.f k xs (W : Int) = some (encN xs W) := by
        unfold impl_nodeOf.f
        exact h
      rw [h2, Option.bind_some]
    · rw [if_neg d, if_neg (fun h => d h.2)]
  · rw [if_pos (by omega), if_neg (fun h => c h.1)]
theorem strL (l : List Int) : (strOfNums l).toList = l.map fun n => UInt8.ofNat n.toNat := by rw [ByteArray.toList_eq]; rfl
def blkAt (D : List Int) (W a : Nat) : S26 := ⟨wrap64 (rd D ((a + 1 : Nat) : Int)), wrap64 (rd D ((a + 2 : Nat) : Int)), (D.take (a + 3 + W)).drop (a + 3)⟩
def parse (D : List Int) (W : Nat) : Nat → Nat → List S26 → List S26
  | 0, _, p => p
  | d + 1, j, p => if rd D ((j * (W + 3) : Nat) : Int) = 1 then parse D W d (j + 1) (p ++ [blkAt D W (j * (W + 3))]) else p
def endR (D : List Int) (log : Int) (W : Nat) (X : List S26) : List S26 × Bool := if blocksB X log (W : Int) = true ∧ (strOfNums (encN X W)).toList = (strOfNums D).toList then (X, true) else (([] : List S26), false)
theorem blkAt_len (D : List Int) (W a : Nat) : (blkAt D W a).f2.length ≤ W := by
  show ((D.take (a + 3 + W)).drop (a + 3)).length ≤ W
  rw [List.length_drop, List.length_take]
  omega
theorem parse_ok (D : List Int) (W : Nat) (hW : W ≤ 200) : ∀ (d j : Nat) (p : List S26), p.length = j → j + d ≤ 4 → (∀ x ∈ p, x.f2.length ≤ 200) → (parse D W d j p).length ≤ 4 ∧ ∀ x ∈ parse D W d j p, x.f2.length ≤ 200
  | 0, j, p, h1, h2, h3 => ⟨by rw [parse]; omega, h3⟩
  | d + 1, j, p, h1, h2, h3 => by
    rw [parse]
    split
    · refine parse_ok D W hW d (j + 1) _ (by rw [List.length_append, List.length_singleton]; omega) (by omega) (fun x hx => ?_)
      rcases List.mem_append.1 hx with hx | hx
      · exact h3 x hx
      · rw [List.mem_singleton.1 hx]
        have := blkAt_len D W (j * (W + 3))
        omega
    · exact ⟨by omega, h3⟩
theorem datI_le : ∀ l : List S26, (∀ x ∈ l, x.f2.length ≤ 200) → datI l ≤ 200 * l.length
  | [], _ => Nat.zero_le _
  | x :: l, h => by
    rw [datI_cons, List.length_cons]
    have h1 := h x List.mem_cons_self
    have h2 := datI_le l (fun y hy => h y (List.mem_cons_of_mem _ hy))
    omega
theorem nodeOf_f (xs : List S26) (W : Nat) (hW : W ≤ 200) (h4 : xs.length ≤ 4) (hl : ∀ x ∈ xs, x.f2.length = W) (k : Nat) (hk : 4 < k) : impl_nodeOf.f k xs (W : Int) = some (encN xs W) := nodeOf_l0 W hW xs [] k (by simpa using hl) (by simpa using h4) (by omega)
theorem impl_end (D : List Int) (log : Int) (W : Nat) (X : List S26) (h4 : X.length ≤ 4) (k : Nat) (hk : 30 ≤ k) : ((impl_areBlocks.f k X log (W : Int)).bind fun t => (if t = true then ((impl_nodeOf.f k X (W : Int)).bind fun t => ((bytes_Equal.f t D).bind fun t => (if t = true then (some (X, true)) else (some (([] : List S26), false))))) else (some (([] : List S26), false)))) = some (endR D log W X) := by
  rw [blocks_impl X (by omega) log _ k (by omega), Option.bind_some]
  unfold endR
  by_cases c : blocksB X log (W : Int) = true
  · have hf := blocksB_frame X log _ c
    have hl := blocksB_len X log _ c
    rw [Int.toNat_natCast] at hl
    rw [if_pos c, nodeOf_f X W (by omega) h4 hl k (by omega), Option.bind_some]
    unfold bytes_Equal.f
    rw [Option.bind_some]
    by_cases e : (strOfNums (encN X W)).toList = (strOfNums D).toList
    · rw [if_pos (by rw [e]; exact beq_self_eq_true _), if_pos ⟨c, e⟩]
    · rw [if_neg (by simpa using e), if_neg (fun h => e h.2)]
  · rw [if_neg c, if_neg (fun h => c h.1)]
theorem w_two (a b : Nat) (h : a + b ≤ 2000000) : wrap64 ((a : Int) + (b : Int)) = ((a + b : Nat) : Int) := by unfold wrap64; omega
theorem w_lit1 (a : Nat) (h : a ≤ 1000000) : wrap64 ((a : Int) + 1) = ((a + 1 : Nat) : Int) := w_two a 1 (by omega)
theorem w_lit2 (a : Nat) (h : a ≤ 1000000) : wrap64 ((a : Int) + 2) = ((a + 2 : Nat) : Int) := w_two a 2 (by omega)
theorem w_lit3 (a : Nat) (h : a ≤ 1000000) : wrap64 ((a : Int) + 3) = ((a + 3 : Nat) : Int) := w_two a 3 (by omega)
theorem at_le (W j : Nat) (hj : j + 1 ≤ 4) : j * (W + 3) + (W + 3) ≤ 4 * (W + 3) := by
  have h := Nat.mul_le_mul_right (W + 3) hj
  rw [Nat.succ_mul] at h
  exact h
theorem implRead_step (D : List Int) (log : Int) (W : Nat) (hW : W ≤ 200) (a : Nat) (ha : a ≤ 1000) (hlen : a + (W + 3) ≤ D.length) (p : List S26) (hp : p.length ≤ 4) (k : Nat) (hk : 30 ≤ k) :
    impl_nodeRead.l0 (k + 1) D log (W : Int) p (a : Int) = if rd D (a : Int) = 1 then impl_nodeRead.l0 k D log (W : Int) (p ++ [blkAt D W a]) ((a + (W + 3) : Nat) : Int) else some (endR D log W p) := by
  have hcut : ((D.take (a + 3 + W)).drop (a + 3)).length < 140737488355328 := Nat.lt_of_le_of_lt (blkAt_len D W a) (by omega)
  simp only [impl_nodeRead.l0]
  rw [if_pos (by omega), if_pos (by omega)]
  by_cases c : rd D (a : Int) = 1
  · rw [if_pos c, if_pos c, w_lit1 a (by omega), w_lit2 a (by omega), w_lit3 a (by omega), w_two (a + 3) W (by omega), w_lit3 W (by omega), w_two a (W + 3) (by omega), if_pos (by omega), if_pos (by omega), if_pos (by omega), if_pos (by omega), if_pos (by omega), if_pos (by omega), if_pos (by omega), Int.toNat_natCast, Int.toNat_natCast]
    unfold bytes_Clone.f
    rw [if_pos hcut, Option.bind_some, if_pos (by omega)]
    rfl
  · rw [if_neg c, if_neg c, impl_end D log W p hp k hk]
theorem implRead_l0 (D : List Int) (log : Int) (W : Nat) (hW : W ≤ 200) (hD : D.length = 4 * (W + 3)) : ∀ (d j : Nat) (p : List S26) (k : Nat), j + d = 4 → p.length = j → d + 31 ≤ k → impl_nodeRead.l0 k D log (W : Int) p ((j * (W + 3) : Nat) : Int) = some (endR D log W (parse D W d j p)) := by
  intro d
  induction d with
  | zero =>
    intro j p k hj hp hk
    obtain ⟨k, rfl⟩ : ∃ m, k = m + 1 := ⟨k - 1, by omega⟩
    obtain rfl : j = 4 := by omega
    simp only [impl_nodeRead.l0]
    rw [if_neg (by omega), impl_end D log W p (by omega) k (by omega), parse]
  | succ d ih =>
    intro j p k hj hp hk
    obtain ⟨k, rfl⟩ : ∃ m, k = m + 1 := ⟨k - 1, by omega⟩
    have hm := at_le W j (by omega)
    rw [implRead_step D log W hW (j * (W + 3)) (by omega) (by omega) p (by omega) k (by omega), parse]
    by_cases c : rd D ((j * (W + 3) : Nat) : Int) = 1
    · rw [if_pos c, if_pos c, ← Nat.succ_mul]
      exact ih (j + 1) _ k (by omega) (by rw [List.length_append, List.length_singleton, hp]) (by omega)
    · rw [if_neg c, if_neg c]
/-- The state of a reader of draws: where it stands, and its seed. -/
def Ok (at_ seed b : Int) : Prop := 0 ≤ at_ ∧ at_ ≤ b ∧ 0 ≤ seed ∧ seed < 65521
def Bytes (l : List Int) : Prop := l.length ≤ 1048576 ∧ ∀ x, x ∈ l → 0 ≤ x ∧ x ≤ 255
theorem Ok.up {a s b b' : Int} (h : Ok a s b) (hb : b ≤ b') : Ok a s b' := ⟨h.1, by have := h.2.1; omega, h.2.2⟩
theorem bytes_of {l : List Int} (h1 : l.length ≤ 1048576) (h2 : ∀ x, x ∈ l → (Lit.int .u8 x).wf = true) : Bytes l := by
  refine ⟨h1, fun x hx => ?_⟩
  have := h2 x hx
  simp [Lit.wf, IntKind.min, IntKind.max, IntKind.signed, IntKind.bits] at this
  omega
theorem rd_byte {l : List Int} (h : Bytes l) (i : Int) : 0 ≤ rd l i ∧ rd l i ≤ 255 := by
  unfold rd
  rw [List.getD_eq_getElem?_getD]
  cases e : l[i.toNat]? with
  | none => simp
  | some x => exact h.2 x (List.mem_of_getElem? e)
theorem tmod_pos {a n : Int} (h0 : 0 ≤ a) (hn : 0 < n) : 0 ≤ Int.tmod a n ∧ Int.tmod a n < n := by
  rw [Int.tmod_eq_emod_of_nonneg h0]
  exact ⟨Int.emod_nonneg _ (by omega), Int.emod_lt_of_pos _ hn⟩
theorem pick_ok {l : List Int} (hl : Bytes l) {a s b : Int} (h : Ok a s b) (hb : b ≤ 1000000000000) (n : Int) :
    ∃ r a' s', spec_l01Cur_pick.f l a s n = some (r, a', s') ∧ 0 ≤ r ∧ (2 ≤ n → r < n) ∧ (n < 2 → r = 0) ∧ Ok a' s' (b + 1) := by
  obtain ⟨h0, h1, h2, h3⟩ := h
  have hlen := hl.1
  unfold spec_l01Cur_pick.f
  by_cases c1 : n < 2
  · rw [if_pos c1]
    exact ⟨0, a, s, rfl, by omega, fun _ => by omega, fun _ => rfl, h0, by omega, h2, h3⟩
  · rw [if_neg c1]
    have w1 : wrap64 (a + 1) = a + 1 := by unfold wrap64; omega
    have w2 : wrap64 (s * 1103) = s * 1103 := by unfold wrap64; omega
    have w3 : wrap64 (s * 1103 + 12345) = s * 1103 + 12345 := by unfold wrap64; omega
    rw [w1, w2, w3]
    have hs := tmod_pos (a := s * 1103 + 12345) (n := 65521) (by omega) (by omega)
    generalize Int.tmod (s * 1103 + 12345) 65521 = s1 at hs
    have hok : Ok (a + 1) s1 (b + 1) := ⟨by omega, by omega, hs.1, hs.2⟩
    by_cases c2 : a < (l.length : Int)
    · rw [if_pos c2, if_pos h0, if_neg (by omega)]
      have hr := rd_byte hl a
      rw [show wrap64 (rd l a) = rd l a from by unfold wrap64; omega]
      have hm := tmod_pos (a := rd l a) (n := n) hr.1 (by omega)
      exact ⟨_, _, _, rfl, hm.1, fun _ => hm.2, fun h => absurd h c1, by omega, by omega, h2, h3⟩
    · rw [if_neg c2]
      by_cases c3 : (l.length : Int) > 0
      · rw [if_pos c3, if_neg (by omega)]
        have hi := tmod_pos (a := a) (n := (l.length : Int)) h0 c3
        rw [if_pos hi.1, if_pos hi.2, if_neg (by omega)]
        have hr := rd_byte hl (Int.tmod a (l.length : Int))
        generalize rd l (Int.tmod a (l.length : Int)) = y at hr
        have hd : 0 ≤ Int.tdiv s1 7 ∧ Int.tdiv s1 7 ≤ 65521 := by
          rw [Int.tdiv_eq_ediv_of_nonneg hs.1]; omega
        generalize Int.tdiv s1 7 = z at hd
        rw [show wrap64 z = z from by unfold wrap64; omega, show wrap64 y = y from by unfold wrap64; omega, show wrap64 (z + y) = z + y from by unfold wrap64; omega]
        have hm := tmod_pos (a := z + y) (n := n) (by omega) (by omega)
        exact ⟨_, _, _, rfl, hm.1, fun _ => hm.2, fun h => absurd h c1, hok⟩
      · rw [if_neg c3, if_neg (by omega)]
        have e : (0 : Int) % n = 0 := Int.zero_emod n
        rw [e]
        exact ⟨_, _, _, rfl, by omega, fun _ => by omega, fun h => absurd h c1, hok⟩
theorem raw_ok {l : List Int} (hl : Bytes l) {a s b : Int} (h : Ok a s b) (hb : b ≤ 900000000000) :
    ∃ r a' s', spec_l01Cur_raw.f l a s = some (r, a', s') ∧ (-9223372036854775808 ≤ r ∧ r ≤ 9223372036854775807) ∧ Ok a' s' (b + 2) := by
  obtain ⟨r1, a1, s1, e1, k1, k2, _, o1⟩ := pick_ok hl h (by omega) 8
  unfold spec_l01Cur_raw.f
  rw [e1]
  simp only [Option.bind_some]
  by_cases c1 : r1 = 0
  · rw [if_pos c1]
    obtain ⟨r2, a2, s2, e2, k3, k4, _, o2⟩ := pick_ok hl o1 (by omega) 256
    rw [e2]
    have := k4 (by omega)
    exact ⟨_, _, _, rfl, by rw [show wrap64 (r2 - 128) = r2 - 128 from by unfold wrap64; omega]; omega, o2.up (by omega)⟩
  · rw [if_neg c1]
    by_cases c2 : r1 = 1
    · rw [if_pos c2]
      obtain ⟨r2, a2, s2, e2, k3, k4, _, o2⟩ := pick_ok hl o1 (by omega) 8
      simp only [e2, Option.bind_some]
      rw [if_pos k3, if_pos (by have := k4 (by omega); simpa using this)]
      refine ⟨_, _, _, rfl, ?_, o2.up (by omega)⟩
      have k5 := k4 (by omega)
      have h8 : r2 = 0 ∨ r2 = 1 ∨ r2 = 2 ∨ r2 = 3 ∨ r2 = 4 ∨ r2 = 5 ∨ r2 = 6 ∨ r2 = 7 := by omega
      rcases h8 with rfl | rfl | rfl | rfl | rfl | rfl | rfl | rfl <;> decide
    · rw [if_neg c2]
      obtain ⟨r2, a2, s2, e2, k3, k4, _, o2⟩ := pick_ok hl o1 (by omega) 14
      rw [e2]
      have := k4 (by omega)
      exact ⟨_, _, _, rfl, by rw [show wrap64 (r2 - 3) = r2 - 3 from by unfold wrap64; omega]; omega, o2.up (by omega)⟩
theorem open_ok {l : List Int} (hl : Bytes l) : ∃ s, spec_l01Open.f l = some (l, 0, s) ∧ Ok 0 s 0 := by
  refine ⟨_, rfl, by omega, by omega, ?_, ?_⟩ <;> omega
theorem once_ok {l : List Int} (hl : Bytes l) {a s b : Int} (h : Ok a s b) (hb : b ≤ 900000000000) (n : Int) :
    ∃ r a' s', spec_l01Cur_once.f l a s n = some (r, a', s') ∧ Ok a' s' (b + 1) := by
  obtain ⟨r, a', s', e, _, _, _, o⟩ := pick_ok hl h (by omega) n
  unfold spec_l01Cur_once.f
  rw [e]
  exact ⟨_, _, _, rfl, o⟩
theorem mn_le (a b : Int) : mn a b ≤ a := by unfold mn; split <;> omega
theorem mn_two (a b c : Int) (h1 : c ≤ a) (h2 : c ≤ b) : c ≤ mn a b := by unfold mn; split <;> omega
theorem mx_le (a b : Int) : a ≤ mx a b := by unfold mx; split <;> omega
theorem frame_ok {l : List Int} (hl : Bytes l) {a s b : Int} (h : Ok a s b) (hb : b ≤ 800000000000) :
    ∃ p q a' s', spec_l01Cur_frame.f l a s = some (p, q, a', s') ∧ Ok a' s' (b + 20) := by
  obtain ⟨r0, a0, s0, e0, o0⟩ := once_ok hl h (by omega) 9
  unfold spec_l01Cur_frame.f
  rw [e0]
  simp only [Option.bind_some]
  by_cases c : r0 = true
  · rw [if_pos c]
    obtain ⟨r1, a1, s1, e1, _, o1⟩ := raw_ok hl o0 (by omega)
    rw [e1]
    simp only [Option.bind_some]
    obtain ⟨r2, a2, s2, e2, k1, k2, _, o2⟩ := pick_ok hl o1 (by omega) 3
    rw [e2]
    simp only [Option.bind_some]
    rw [if_pos k1, if_pos (by have := k2 (by omega); simpa using this)]
    obtain ⟨r3, a3, s3, e3, _, o3⟩ := raw_ok hl o2 (by omega)
    rw [e3]
    simp only [Option.bind_some]
    obtain ⟨r4, a4, s4, e4, k3, k4, _, o4⟩ := pick_ok hl o3 (by omega) 3
    rw [e4]
    simp only [Option.bind_some]
    rw [if_pos k3, if_pos (by have := k4 (by omega); simpa using this)]
    exact ⟨_, _, _, _, rfl, o4.up (by omega)⟩
  · rw [if_neg c]
    obtain ⟨r1, a1, s1, e1, _, _, _, o1⟩ := pick_ok hl o0 (by omega) 5
    rw [e1]
    simp only [Option.bind_some]
    obtain ⟨r2, a2, s2, e2, _, _, _, o2⟩ := pick_ok hl o1 (by omega) 5
    rw [e2]
    simp only [Option.bind_some]
    exact ⟨_, _, _, _, rfl, o2.up (by omega)⟩
theorem bytes_l0 {l : List Int} (hl : Bytes l) : ∀ (d k : Nat) (x : List Int) (a s b : Int), Ok a s b → b + (d : Int) ≤ 900000000000 → x.length + d ≤ 1000 → d < k →
    ∃ w a' s', spec_l01Cur_bytes.l0 k x (d : Int) l a s = some (w, a', s') ∧ Ok a' s' (b + (d : Int)) := by
  intro d
  induction d with
  | zero =>
    intro k x a s b h hb hx hk
    obtain ⟨k, rfl⟩ : ∃ m, k = m + 1 := ⟨k - 1, by omega⟩
    simp only [spec_l01Cur_bytes.l0]
    rw [if_neg (by omega)]
    exact ⟨_, _, _, rfl, h.up (by omega)⟩
  | succ d ih =>
    intro k x a s b h hb hx hk
    obtain ⟨k, rfl⟩ : ∃ m, k = m + 1 := ⟨k - 1, by omega⟩
    simp only [spec_l01Cur_bytes.l0]
    rw [if_pos (by omega)]
    obtain ⟨r1, a1, s1, e1, _, _, _, o1⟩ := pick_ok hl h (by omega) 256
    rw [e1]
    simp only [Option.bind_some]
    rw [if_pos (by omega), show wrap64 (((d + 1 : Nat) : Int) - 1) = (d : Int) from by unfold wrap64; omega]
    obtain ⟨w, a', s', e, o⟩ := ih k (x ++ [r1 % 256]) a1 s1 (b + 1) o1 (by omega) (by simp; omega) (by omega)
    exact ⟨w, a', s', e, o.up (by omega)⟩
theorem bytes6_ok {l : List Int} (hl : Bytes l) {a s b : Int} (h : Ok a s b) (hb : b ≤ 800000000000) (k : Nat) (hk : 20 < k) :
    ∃ w a' s', spec_l01Cur_bytes.f k l a s 6 = some (w, a', s') ∧ Ok a' s' (b + 10) := by
  have hlen := hl.1
  have w1 : wrap64 ((l.length : Int) / 8) = (l.length : Int) / 8 := by unfold wrap64; omega
  have w2 : wrap64 (1 + (l.length : Int) / 8) = 1 + (l.length : Int) / 8 := by unfold wrap64; omega
  have m1 := mn_le 6 (1 + (l.length : Int) / 8)
  have m2 := mn_two 6 (1 + (l.length : Int) / 8) 1 (by omega) (by omega)
  unfold spec_l01Cur_bytes.f spec_l01Cur_size.f
  rw [w1, w2]
  generalize mn 6 (1 + (l.length : Int) / 8) = m at m1 m2
  rw [show wrap64 (m + 1) = m + 1 from by unfold wrap64; omega]
  obtain ⟨r1, a1, s1, e1, k1, k2, _, o1⟩ := pick_ok hl h (by omega) (m + 1)
  rw [e1]
  simp only [Option.bind_some]
  have k3 := k2 (by omega)
  obtain ⟨n, rfl⟩ := Int.eq_ofNat_of_zero_le k1
  obtain ⟨w, a', s', e, o⟩ := bytes_l0 hl n k [] a1 s1 (b + 1) o1 (by omega) (by simp; omega) (by omega)
  exact ⟨w, a', s', e, o.up (by omega)⟩
theorem block_l0 {l : List Int} (hl : Bytes l) : ∀ (d k : Nat) (x3 : Int) (x : List Int) (a s b u v : Int), Ok a s b → b + (d : Int) ≤ 900000000000 → x3 ≤ (x.length : Int) + d → x.length + d ≤ 1000 → d < k →
    ∃ w a' s', spec_l01Cur_block.l0 k x3 l a s u v x = some (u, v, w, a', s') ∧ Ok a' s' (b + (d : Int)) := by
  intro d
  induction d with
  | zero =>
    intro k x3 x a s b u v h hb h3 hx hk
    obtain ⟨k, rfl⟩ : ∃ m, k = m + 1 := ⟨k - 1, by omega⟩
    simp only [spec_l01Cur_block.l0]
    rw [if_neg (by omega)]
    exact ⟨_, _, _, rfl, h.up (by omega)⟩
  | succ d ih =>
    intro k x3 x a s b u v h hb h3 hx hk
    obtain ⟨k, rfl⟩ : ∃ m, k = m + 1 := ⟨k - 1, by omega⟩
    simp only [spec_l01Cur_block.l0]
    by_cases c : (x.length : Int) < x3
    · rw [if_pos c]
      obtain ⟨r1, a1, s1, e1, _, _, _, o1⟩ := pick_ok hl h (by omega) 256
      rw [e1]
      simp only [Option.bind_some]
      rw [if_pos (by omega)]
      obtain ⟨w, a', s', e, o⟩ := ih k x3 (x ++ [r1 % 256]) a1 s1 (b + 1) u v o1 (by omega) (by simp; omega) (by simp; omega) (by omega)
      exact ⟨w, a', s', e, o.up (by omega)⟩
    · rw [if_neg c]
      exact ⟨_, _, _, rfl, h.up (by omega)⟩
theorem block_ok {l : List Int} (hl : Bytes l) {a s b : Int} (h : Ok a s b) (hb : b ≤ 800000000000) (id : Int) (n : Nat) (hn : n ≤ 4) (x3 : Int) (h3 : x3 ≤ 5) (k : Nat) (hk : 20 < k) :
    ∃ v w a' s', spec_l01Cur_block.f k l a s id (n : Int) x3 = some (id, v, w, a', s') ∧ Ok a' s' (b + 10) := by
  unfold spec_l01Cur_block.f
  rw [pow_k k n (by omega) (by omega)]
  simp only [Option.bind_some]
  obtain ⟨r1, a1, s1, e1, _, _, _, o1⟩ := pick_ok hl h (by omega) ((2 ^ n : Nat) : Int)
  rw [e1]
  simp only [Option.bind_some]
  obtain ⟨w, a', s', e, o⟩ := block_l0 hl 5 k x3 [] a1 s1 (b + 1) id r1 o1 (by omega) (by simp; omega) (by simp) (by omega)
  exact ⟨_, w, a', s', e, o.up (by omega)⟩
theorem blocks_l0 {l : List Int} (hl : Bytes l) (n : Nat) (hn : n ≤ 4) (x3 : Int) (h3 : x3 ≤ 5) : ∀ (d k : Nat) (x : List S26) (id a s b : Int), Ok a s b → b + 20 * (d : Int) ≤ 800000000000 → x.length + d ≤ 1000 → d + 30 < k →
    ∃ w a' s', spec_l01Cur_blocks.l0 k (n : Int) x3 x id (d : Int) l a s = some (w, a', s') ∧ w.length = x.length + d ∧ Ok a' s' (b + 20 * (d : Int)) := by
  intro d
  induction d with
  | zero =>
    intro k x id a s b h hb hx hk
    obtain ⟨k, rfl⟩ : ∃ m, k = m + 1 := ⟨k - 1, by omega⟩
    simp only [spec_l01Cur_blocks.l0]
    rw [if_neg (by omega)]
    exact ⟨_, _, _, rfl, rfl, h.up (by omega)⟩
  | succ d ih =>
    intro k x id a s b h hb hx hk
    obtain ⟨k, rfl⟩ : ∃ m, k = m + 1 := ⟨k - 1, by omega⟩
    simp only [spec_l01Cur_blocks.l0]
    rw [if_pos (by omega)]
    obtain ⟨v, w, a1, s1, e1, o1⟩ := block_ok hl h (by omega) id n hn x3 h3 k (by omega)
    rw [e1]
    simp only [Option.bind_some]
    rw [if_pos (by omega)]
    obtain ⟨r2, a2, s2, e2, _, _, _, o2⟩ := pick_ok hl o1 (by omega) 4
    rw [e2]
    simp only [Option.bind_some]
    rw [show wrap64 (((d + 1 : Nat) : Int) - 1) = (d : Int) from by unfold wrap64; omega]
    obtain ⟨w, a', s', e, hw, o⟩ := ih k (x ++ [(⟨id, v, w⟩ : S26)]) _ a2 s2 (b + 10 + 1) o2 (by omega) (by simp; omega) (by omega)
    exact ⟨w, a', s', e, by rw [hw, List.length_append, List.length_singleton]; omega, o.up (by omega)⟩
theorem blocks5_ok {l : List Int} (hl : Bytes l) {a s b : Int} (h : Ok a s b) (hb : b ≤ 700000000000) (n : Nat) (hn : n ≤ 4) (x3 : Int) (h3 : x3 ≤ 5) (k : Nat) (hk : 60 < k) :
    ∃ w a' s', spec_l01Cur_blocks.f k l a s 5 (n : Int) x3 = some (w, a', s') ∧ w.length ≤ 5 ∧ Ok a' s' (b + 200) := by
  unfold spec_l01Cur_blocks.f
  obtain ⟨r1, a1, s1, e1, _, _, _, o1⟩ := pick_ok hl h (by omega) 3
  rw [e1]
  simp only [Option.bind_some]
  rw [show wrap64 (5 + 1) = 6 from by unfold wrap64; omega]
  obtain ⟨r2, a2, s2, e2, k1, k2, _, o2⟩ := pick_ok hl o1 (by omega) 6
  rw [e2]
  simp only [Option.bind_some]
  have k3 := k2 (by omega)
  obtain ⟨m, rfl⟩ := Int.eq_ofNat_of_zero_le k1
  obtain ⟨w, a', s', e, hw, o⟩ := blocks_l0 hl n hn x3 h3 m k [] r1 a2 s2 (b + 1 + 1) o2 (by omega) (by simp; omega) (by omega)
  exact ⟨w, a', s', e, by rw [hw, List.length_nil]; omega, o.up (by omega)⟩
theorem badBlocks_ok {l : List Int} (hl : Bytes l) {a s b : Int} (h : Ok a s b) (hb : b ≤ 700000000000) (x : List S26) (hx : x.length ≤ 1000) (k : Nat) (hk : 60 < k) :
    ∃ w a' s', spec_l01Cur_badBlocks.f k l a s x = some (w, a', s') ∧ w.length = x.length ∧ Ok a' s' (b + 40) := by
  unfold spec_l01Cur_badBlocks.f
  by_cases c0 : (x.length : Int) = 0
  · rw [if_pos c0]
    exact ⟨_, _, _, rfl, rfl, h.up (by omega)⟩
  · rw [if_neg c0]
    obtain ⟨r1, a1, s1, e1, k1, k2, k3, o1⟩ := pick_ok hl h (by omega) (x.length : Int)
    have hr1 : r1 < (x.length : Int) := by
      by_cases c : 2 ≤ (x.length : Int)
      · exact k2 c
      · have := k3 (by omega); omega
    rw [e1]
    simp only [Option.bind_some]
    obtain ⟨r2, a2, s2, e2, _, _, _, o2⟩ := pick_ok hl o1 (by omega) 12
    rw [e2]
    simp only [Option.bind_some]
    by_cases c1 : r2 = 0
    · rw [if_pos c1]
      obtain ⟨r3, a3, s3, e3, _, o3⟩ := raw_ok hl o2 (by omega)
      rw [e3]
      simp only [Option.bind_some]
      obtain ⟨r4, a4, s4, e4, k4, k5, _, o4⟩ := pick_ok hl o3 (by omega) 4
      rw [if_pos (by omega), e4]
      simp only [Option.bind_some]
      rw [if_pos k4, if_pos (by have := k5 (by omega); simpa using this), if_pos k1, if_pos hr1]
      exact ⟨_, _, _, rfl, by rw [List.length_set], o4.up (by omega)⟩
    · rw [if_neg c1]
      by_cases c2 : r2 = 1
      · rw [if_pos c2]
        obtain ⟨r3, a3, s3, e3, _, o3⟩ := raw_ok hl o2 (by omega)
        rw [e3]
        simp only [Option.bind_some]
        rw [if_pos k1, if_pos hr1]
        exact ⟨_, _, _, rfl, by rw [List.length_set], o3.up (by omega)⟩
      · rw [if_neg c2]
        by_cases c3 : r2 = 2
        · rw [if_pos c3]
          obtain ⟨w, a3, s3, e3, o3⟩ := bytes6_ok hl o2 (by omega) k (by omega)
          rw [e3]
          simp only [Option.bind_some]
          rw [if_pos k1, if_pos hr1]
          exact ⟨_, _, _, rfl, by rw [List.length_set], o3.up (by omega)⟩
        · rw [if_neg c3]
          exact ⟨_, _, _, rfl, rfl, o2.up (by omega)⟩
theorem drawNodeOf_ok {l : List Int} (hl : Bytes l) (k : Nat) (hk : 60 < k) : ∃ x log width, spec_DrawNodeOf.f k l = some (x, log, width) ∧ x.length ≤ 5 := by
  obtain ⟨s0, e0, o0⟩ := open_ok hl
  obtain ⟨p, q, a1, s1, e1, o1⟩ := frame_ok hl o0 (by omega)
  have m1 := mn_le 4 (mx 0 p)
  have m2 := mn_two 4 (mx 0 p) 0 (by omega) (mx_le 0 p)
  have m3 := mn_le 5 (mx 1 q)
  unfold spec_DrawNodeOf.f spec_l12Clip.f
  rw [e0]
  simp only [Option.bind_some]
  rw [e1]
  simp only [Option.bind_some]
  generalize mn 4 (mx 0 p) = n at m1 m2
  generalize mn 5 (mx 1 q) = x3 at m3
  obtain ⟨n, rfl⟩ := Int.eq_ofNat_of_zero_le m2
  obtain ⟨x, a2, s2, e2, hx, o2⟩ := blocks5_ok hl o1 (by omega) n (by omega) x3 m3 k hk
  rw [e2]
  simp only [Option.bind_some]
  obtain ⟨y, a3, s3, e3, hy, o3⟩ := badBlocks_ok hl o2 (by omega) x (by omega) k hk
  rw [e3]
  simp only [Option.bind_some]
  exact ⟨_, _, _, rfl, by omega⟩
theorem isL_small (a0 a1 : Int) (h0 : 0 ≤ a0) (h1 : a0 ≤ 6) (h : isL a0 a1 = true) : 0 ≤ a1 ∧ a1 ≤ 255 := by
  have h2 := of_decide_eq_true h
  have h3 : 2 ^ a0.toNat ≤ 2 ^ 6 := Nat.pow_le_pow_right (by omega) (by omega)
  have h4 : (2 : Nat) ^ 6 = 64 := rfl
  omega
theorem rd_app (p q : List Int) (i : Nat) (h : i < q.length) : rd (p ++ q) ((p.length + i : Nat) : Int) = q[i] := by
  unfold rd
  rw [Int.toNat_natCast, List.getD_eq_getElem?_getD, List.getElem?_append_right (by omega), show p.length + i - p.length = i from by omega, List.getElem?_eq_getElem h]
  rfl
theorem leaf_small (xs : List S26) (log width : Int) (h : blocksB xs log width = true) : ∀ x ∈ xs, (0 ≤ x.f0 ∧ x.f0 ≤ 255) ∧ (0 ≤ x.f1 ∧ x.f1 ≤ 255) := by
  intro x hx
  have hf := blocksB_frame xs log width h
  unfold blocksB at h
  rw [Bool.and_eq_true] at h
  obtain ⟨i, hi, rfl⟩ := List.getElem_of_mem hx
  have hg := allFrom_at xs log width _ _ h.2 i (by omega) (by omega)
  unfold goodAt at hg
  rw [Bool.and_eq_true, rd26 xs i hi] at hg
  have hb := hg.1
  unfold blockB at hb
  rw [Bool.and_eq_true, Bool.and_eq_true] at hb
  have h1 := of_decide_eq_true hb.1
  refine ⟨⟨h1.2.2.2.2.1, h1.2.2.2.2.2⟩, ?_⟩
  have h2 := hb.2.1
  exact isL_small log _ hf.1 hf.2.1 h2
theorem nb_app (p q : List S26) : nb (p ++ q) = nb p ++ nb q := by simp [nb]
theorem nb_cons (x : S26) (q : List S26) : nb (x :: q) = 1 :: (x.f0 % 256) :: (x.f1 % 256) :: (x.f2 ++ nb q) := by simp [nb]
theorem parse_enc (W : Nat) (hW : W ≤ 200) : ∀ (q p : List S26) (d : Nat), p.length + d = 4 → (p ++ q).length ≤ 4 → (∀ x ∈ p ++ q, x.f2.length = W) → (∀ x ∈ q, (0 ≤ x.f0 ∧ x.f0 ≤ 255) ∧ (0 ≤ x.f1 ∧ x.f1 ≤ 255)) → parse (encN (p ++ q) W) W d p.length p = p ++ q
  | [], p, 0, hd, h4, hl, hr => by rw [List.append_nil]; rfl
  | [], p, d + 1, hd, h4, hl, hr => by
    rw [List.append_nil] at h4 hl ⊢
    rw [parse]
    have hn := nb_len W p hl
    have hm := Nat.mul_le_mul_right (W + 3) (show p.length + 1 ≤ 4 by omega)
    rw [Nat.succ_mul] at hm
    have hz : rd (encN p W) ((p.length * (W + 3) : Nat) : Int) = 0 := by
      unfold encN
      rw [← hn]
      have h := rd_app (nb p) (List.replicate (4 * (W + 3) - (nb p).length) 0) 0 (by rw [List.length_replicate]; omega)
      exact h.trans (by simp)
    rw [hz, if_neg (by omega)]
  | x :: q, p, 0, hd, h4, hl, hr => by
    exfalso
    rw [List.length_append, List.length_cons] at h4
    omega
  | x :: q, p, d + 1, hd, h4, hl, hr => by
    have h4' : p.length + (q.length + 1) ≤ 4 := by rw [List.length_append, List.length_cons] at h4; exact h4
    have hn := nb_len W p (fun y hy => hl y (List.mem_append_left _ hy))
    have hx : x.f2.length = W := hl x (by simp)
    have hxr := hr x List.mem_cons_self
    have e : encN (p ++ x :: q) W = nb p ++ (1 :: (x.f0 % 256) :: (x.f1 % 256) :: (x.f2 ++ (nb q ++ List.replicate (4 * (W + 3) - (nb (p ++ x :: q)).length) 0))) := by
      unfold encN
      rw [nb_app, nb_cons]
      simp
    have r0 : rd (encN (p ++ x :: q) W) ((p.length * (W + 3) : Nat) : Int) = 1 := by
      rw [e, ← hn]
      exact rd_app (nb p) _ 0 (by simp)
    have r1 : rd (encN (p ++ x :: q) W) ((p.length * (W + 3) + 1 : Nat) : Int) = x.f0 % 256 := by
      rw [e, ← hn]
      exact rd_app (nb p) _ 1 (by simp)
    have r2 : rd (encN (p ++ x :: q) W) ((p.length * (W + 3) + 2 : Nat) : Int) = x.f1 % 256 := by
      rw [e, ← hn]
      exact rd_app (nb p) _ 2 (by simp)
    have r3 : ((encN (p ++ x :: q) W).take (p.length * (W + 3) + 3 + W)).drop (p.length * (W + 3) + 3) = x.f2 := by
      rw [e, ← hn, List.drop_take, show (nb p).length + 3 = (nb p).length + 3 from rfl, ← List.drop_drop, List.drop_left]
      show List.take _ (x.f2 ++ _) = x.f2
      rw [show (nb p).length + 3 + W - ((nb p).length + 3) = x.f2.length from by omega, List.take_left]
    have hb : blkAt (encN (p ++ x :: q) W) W (p.length * (W + 3)) = x := by
      unfold blkAt
      rw [r1, r2, r3]
      have a1 : wrap64 (x.f0 % 256) = x.f0 := by unfold wrap64; omega
      have a2 : wrap64 (x.f1 % 256) = x.f1 := by unfold wrap64; omega
      rw [a1, a2]
    rw [parse, r0, if_pos rfl, hb]
    have ih := parse_enc W hW q (p ++ [x]) d (by rw [List.length_append, List.length_singleton]; omega) (by simpa using h4) (fun y hy => hl y (by simpa using hy)) (fun y hy => hr y (List.mem_cons_of_mem _ hy))
    rw [List.length_append, List.length_singleton, List.append_assoc] at ih
    exact ih
theorem same_l0 (x : List S26) (hx : x.length ≤ 1000) : ∀ (d k i : Nat), i ≤ x.length → x.length - i = d → d < k → laws_sameBlocks.l0 k x x (i : Int) = some true := by
  intro d
  induction d with
  | zero =>
    intro k i hi hd hk
    obtain ⟨k, rfl⟩ : ∃ m, k = m + 1 := ⟨k - 1, by omega⟩
    simp only [laws_sameBlocks.l0]
    rw [if_neg (by omega)]
  | succ d ih =>
    intro k i hi hd hk
    obtain ⟨k, rfl⟩ : ∃ m, k = m + 1 := ⟨k - 1, by omega⟩
    simp only [laws_sameBlocks.l0]
    rw [if_pos (by omega), if_pos (by omega), if_pos (by omega), if_pos trivial, if_pos trivial, if_pos trivial, w_lit1 i (by omega)]
    exact ih k (i + 1) (by omega) (by omega) (by omega)
theorem same_eq (x : List S26) (hx : x.length ≤ 1000) (k : Nat) (hk : x.length < k) : laws_sameBlocks.f k x x = some true := by
  unfold laws_sameBlocks.f
  rw [if_pos rfl]
  exact same_l0 x hx x.length k 0 (by omega) (by omega) hk
theorem read_enc (x : List S26) (log : Int) (W : Nat) (h4 : x.length ≤ 4) (h : blocksB x log (W : Int) = true) (k : Nat) (hk : 40 ≤ k) : impl_NodeRead.f k (encN x W) log (W : Int) = some (x, true) := by
  have hf := blocksB_frame x log _ h
  have hl := blocksB_len x log _ h
  rw [Int.toNat_natCast] at hl
  have e := encN_len W x h4 hl
  have hp := parse_enc W (by omega) x [] 4 rfl (by simpa using h4) (by simpa using hl) (leaf_small x log _ h)
  rw [List.nil_append] at hp
  have e1 : wrap64 ((W : Int) + 3) = (W : Int) + 3 := w_lit3 W (by omega)
  have e2 : wrap64 (4 * ((W : Int) + 3)) = 4 * ((W : Int) + 3) := by unfold wrap64; omega
  have hL : impl_isLog.f log = some true := by
    unfold impl_isLog.f impl_within.f
    rw [if_pos hf.1, decide_eq_true hf.2.1, Option.bind_some]
  have hWi : impl_within.f (W : Int) 1 200 = some true := by
    unfold impl_within.f
    rw [if_pos hf.2.2.1, decide_eq_true hf.2.2.2]
  have h2 := implRead_l0 (encN x W) log W (by omega) e 4 0 [] k (by omega) rfl (by omega)
  rw [Nat.zero_mul] at h2
  have hE : endR (encN x W) log W (parse (encN x W) W 4 0 []) = (x, true) := by
    have hp' : parse (encN x W) W 4 0 [] = x := hp
    rw [hp']
    unfold endR
    rw [if_pos ⟨h, rfl⟩]
  rw [hE] at h2
  unfold impl_NodeRead.f impl_nodeRead.f
  rw [hL, Option.bind_some, if_pos rfl, hWi, Option.bind_some, if_pos rfl, e1, e2, if_pos (by omega)]
  rw [show impl_nodeRead.l0 k (encN x W) log (W : Int) [] 0 = _ from h2, Option.bind_some]
theorem nodeOk_eq (xs : List S26) (hx : xs.length ≤ 1000) (log width : Int) (k : Nat) (hk : xs.length + 20 < k) : spec_NodeOk.f k xs log width = some (decide (xs.length ≤ 4 ∧ blocksB xs log width = true)) := by
  unfold spec_NodeOk.f
  by_cases c : xs.length ≤ 4
  · rw [if_pos (by omega), blocks_spec xs (by omega) log width k hk, Option.bind_some]
    by_cases d : blocksB xs log width = true
    · rw [d, decide_eq_true ⟨c, rfl⟩]
    · rw [decide_eq_false (fun h => d h.2), Bool.eq_false_iff.2 d]
  · rw [if_neg (by omega), decide_eq_false (fun h => c h.1)]
theorem size_eq (W : Nat) (h1 : 1 ≤ W) (h : W ≤ 200) : impl_NodeSize.f (W : Int) = some (4 * ((W : Int) + 3)) := by
  unfold impl_NodeSize.f impl_within.f
  have e1 : wrap64 ((W : Int) + 3) = (W : Int) + 3 := w_lit3 W (by omega)
  have e2 : wrap64 (4 * ((W : Int) + 3)) = 4 * ((W : Int) + 3) := by unfold wrap64; omega
  rw [if_pos (by omega), decide_eq_true (by omega), Option.bind_some, if_pos rfl, e1, e2]
theorem FnNodeBack : laws_FnNodeBack.Pure := by
  intro l0 _ _ hw
  refine ⟨200, ?_⟩
  unfold laws_FnNodeBack.f laws_big.f
  rw [Option.bind_some]
  by_cases c : (l0.length : Int) > 1048576
  · rw [decide_eq_true c, if_pos rfl]
  · rw [decide_eq_false c, if_neg (by decide)]
    have hb := bytes_of (show l0.length ≤ 1048576 by omega) hw
    obtain ⟨x, log, width, e0, hx⟩ := drawNodeOf_ok hb 200 (by omega)
    rw [e0, Option.bind_some]
    dsimp only
    rw [implNodeOf_eq x (by omega) log width 200 (by omega), Option.bind_some, nodeOk_eq x (by omega) log width 200 (by omega), Option.bind_some]
    by_cases d : x.length ≤ 4 ∧ blocksB x log width = true
    · have hf := blocksB_frame x log width d.2
      obtain ⟨W, rfl⟩ := Int.eq_ofNat_of_zero_le (show 0 ≤ width by omega)
      have hl := blocksB_len x log _ d.2
      rw [Int.toNat_natCast] at hl
      have hlen := encN_len W x d.1 hl
      have hE : nodeEnc x log (W : Int) = encN x W := by unfold nodeEnc; rw [if_pos d, Int.toNat_natCast]
      have hB0 : blocksB [] log (W : Int) = true := by
        unfold blocksB frameB
        rw [decide_eq_true ⟨hf.1, hf.2.1, hf.2.2.1, hf.2.2.2⟩]
        rfl
      have hE0 : nodeEnc [] log (W : Int) = encN [] W := by unfold nodeEnc; rw [if_pos ⟨by simp, hB0⟩, Int.toNat_natCast]
      have hlen0 := encN_len W [] (by simp) (by simp)
      rw [decide_eq_true d, if_pos rfl, hE]
      have hbo : laws_bytesOf.f (encN x W) = some (encN x W) := by
        unfold laws_bytesOf.f
        rw [Option.bind_some, if_pos (by rw [List.length_nil]; omega), List.nil_append]
      rw [hbo, Option.bind_some, read_enc x log W d.1 d.2 200 (by omega), Option.bind_some]
      dsimp only
      rw [if_pos rfl, same_eq x (by omega) 200 (by omega), Option.bind_some, if_pos rfl, size_eq W (by omega) (by omega), Option.bind_some, if_pos (by omega), implNodeOf_eq [] (by simp) log _ 200 (by simp), Option.bind_some, hE0, hlen, hlen0]
      simp
    · have hE : nodeEnc x log width = [] := by unfold nodeEnc; rw [if_neg d]
      rw [decide_eq_false d, if_neg (by simp), hE]
      rfl

end Go.Proofs.Ytggfndobfpmoaaa.Pure

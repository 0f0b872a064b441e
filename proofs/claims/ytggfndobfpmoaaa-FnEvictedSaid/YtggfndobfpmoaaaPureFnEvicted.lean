/- For all bytes the law answers true: each block that returns lies on the path of its own leaf, no node gets more than it holds, and a block that stays or lies higher had no room further down. -/
import Derived.Test.YtggfndobfpmoaaaPFnEvictedx14
namespace Go.Proofs.Ytggfndobfpmoaaa.Pure
open Go.RowKit Go.Proofs.Ytggfndobfpmoaaa.PFnEvicted Go.Proofs.YtggfndobfpmoaaaW.PrintWords Go.Proofs.YtggfndobfpmoaaaW.PrintLast Go.Proofs.YtggfndobfpmoaaaW.PrintMore
set_option linter.unusedVariables false
set_option linter.unusedSimpArgs false

def Ev (P : Nat → Prop) : Prop := ∃ K, ∀ k, K ≤ k → P k
theorem Ev.up {P Q : Nat → Prop} (h : Ev P) (f : ∀ k, P k → Q (k + 1)) : Ev Q := by
  obtain ⟨K, h⟩ := h
  exact ⟨K + 1, fun k hk => by
    obtain ⟨m, rfl⟩ : ∃ m, k = m + 1 := ⟨k - 1, by omega⟩
    exact f m (h m (by omega))⟩
theorem Ev.and {P Q : Nat → Prop} (h : Ev P) (h' : Ev Q) : Ev fun k => P k ∧ Q k := by
  obtain ⟨K, h⟩ := h
  obtain ⟨K', h'⟩ := h'
  exact ⟨K + K', fun k hk => ⟨h k (by omega), h' k (by omega)⟩⟩
theorem Ev.imp {P Q : Nat → Prop} (h : Ev P) (f : ∀ k, P k → Q k) : Ev Q := by
  obtain ⟨K, h⟩ := h
  exact ⟨K, fun k hk => f k (h k hk)⟩
theorem Ev.from {P : Nat → Prop} (K : Nat) (h : ∀ k, K ≤ k → P k) : Ev P := ⟨K, h⟩
theorem pow_all : ∀ l : Nat, l < 7 → spec_l02Pow.f 20 (l : Int) = some ((2 ^ l : Nat) : Int) ∧ wrap64 ((shl .i64 1 (l : Int)) - 1) = ((2 ^ l : Nat) : Int) - 1 := by decide +kernel
def isL (a0 a1 : Int) : Bool := decide (0 ≤ a0 ∧ a0 ≤ 6 ∧ 0 ≤ a1 ∧ a1 < ((2 ^ a0.toNat : Nat) : Int))
theorem pow_k (k l : Nat) (hk : 20 ≤ k) (hl : l < 7) : spec_l02Pow.f k (l : Int) = some ((2 ^ l : Nat) : Int) :=
  at_rounds (g := fun k => spec_l02Pow.f k (l : Int)) (fun k => spec_l02Pow.mono (l : Int) k) hk (pow_all l hl).1
theorem leaf_spec (k : Nat) (hk : 20 ≤ k) (a0 a1 : Int) : spec_l11Leaf.f k a0 a1 = some (isL a0 a1) := by
  unfold spec_l11Leaf.f spec_l11Log.f isL
  by_cases h1 : 0 ≤ a0 ∧ a0 ≤ 6
  · obtain ⟨l, rfl⟩ := Int.eq_ofNat_of_zero_le h1.1
    have e1 := pow_k k l hk (by omega)
    have d1 : (l : Int) ≥ 0 := by omega
    have d2 : decide ((l : Int) ≤ 6) = true := decide_eq_true (by omega)
    rw [if_pos d1, d2, e1, Int.toNat_natCast]
    simp only [Option.bind_some, if_true]
    by_cases h3 : a1 ≥ 0
    · rw [if_pos h3]; congr 1; apply decide_eq_decide.2; omega
    · rw [if_neg h3]; congr 1; symm; apply decide_eq_false; omega
  · have e : decide (0 ≤ a0 ∧ a0 ≤ 6 ∧ 0 ≤ a1 ∧ a1 < ((2 ^ a0.toNat : Nat) : Int)) = false := decide_eq_false (by omega)
    rw [e]
    by_cases h2 : a0 ≥ 0
    · have h3 : decide (a0 ≤ 6) = false := decide_eq_false (by omega)
      rw [if_pos h2, h3]; rfl
    · rw [if_neg h2]; rfl
theorem leaf_impl (a0 a1 : Int) : impl_isLeaf.f a0 a1 = some (isL a0 a1) := by
  unfold impl_isLeaf.f impl_isLog.f impl_within.f isL
  by_cases h1 : 0 ≤ a0 ∧ a0 ≤ 6
  · obtain ⟨l, rfl⟩ := Int.eq_ofNat_of_zero_le h1.1
    have e2 := (pow_all l (by omega)).2
    have d1 : (l : Int) ≥ 0 := by omega
    have d2 : decide ((l : Int) ≤ 6) = true := decide_eq_true (by omega)
    rw [if_pos d1, d2, Int.toNat_natCast]
    simp only [Option.bind_some, if_true]
    rw [if_pos h1.1, e2]
    by_cases h3 : a1 ≥ 0
    · rw [if_pos h3]
      show some _ = some _
      congr 1; apply decide_eq_decide.2; omega
    · rw [if_neg h3]
      show some _ = some _
      congr 1; symm; apply decide_eq_false; omega
  · have e : decide (0 ≤ a0 ∧ a0 ≤ 6 ∧ 0 ≤ a1 ∧ a1 < ((2 ^ a0.toNat : Nat) : Int)) = false := decide_eq_false (by omega)
    rw [e]
    by_cases h2 : a0 ≥ 0
    · have h3 : decide (a0 ≤ 6) = false := decide_eq_false (by omega)
      rw [if_pos h2, h3]; rfl
    · rw [if_neg h2]; rfl
def blockB (id leaf len log width : Int) : Bool := decide (0 ≤ log ∧ log ≤ 6 ∧ 1 ≤ width ∧ width ≤ 200 ∧ 0 ≤ id ∧ id ≤ 255) && (isL log leaf && (len == width))
theorem block_spec (k : Nat) (hk : 20 ≤ k) (id leaf : Int) (data : List Int) (log width : Int) : spec_BlockOk.f k id leaf data log width = some (blockB id leaf (data.length : Int) log width) := by
  unfold spec_BlockOk.f spec_l12Frame.f spec_l11Log.f blockB
  rw [leaf_spec k hk]
  by_cases h1 : log ≥ 0
  · rw [if_pos h1]
    simp only [Option.bind_some]
    by_cases h2 : log ≤ 6
    · rw [if_pos (by simpa using h2)]
      by_cases h3 : width ≥ 1
      · rw [if_pos h3]
        simp only [Option.bind_some]
        by_cases h4 : width ≤ 200
        · rw [if_pos (by simpa using h4)]
          by_cases h5 : id ≥ 0
          · rw [if_pos h5]
            by_cases h6 : id ≤ 255
            · rw [if_pos h6, decide_eq_true (show 0 ≤ log ∧ log ≤ 6 ∧ 1 ≤ width ∧ width ≤ 200 ∧ 0 ≤ id ∧ id ≤ 255 from by omega)]
              cases isL log leaf <;> simp
            · rw [if_neg h6, decide_eq_false (show ¬ (0 ≤ log ∧ log ≤ 6 ∧ 1 ≤ width ∧ width ≤ 200 ∧ 0 ≤ id ∧ id ≤ 255) from by omega)]; rfl
          · rw [if_neg h5, decide_eq_false (show ¬ (0 ≤ log ∧ log ≤ 6 ∧ 1 ≤ width ∧ width ≤ 200 ∧ 0 ≤ id ∧ id ≤ 255) from by omega)]; rfl
        · rw [if_neg (by simpa using h4), decide_eq_false (show ¬ (0 ≤ log ∧ log ≤ 6 ∧ 1 ≤ width ∧ width ≤ 200 ∧ 0 ≤ id ∧ id ≤ 255) from by omega)]; rfl
      · rw [if_neg h3, decide_eq_false (show ¬ (0 ≤ log ∧ log ≤ 6 ∧ 1 ≤ width ∧ width ≤ 200 ∧ 0 ≤ id ∧ id ≤ 255) from by omega)]; rfl
    · rw [if_neg (by simpa using h2), decide_eq_false (show ¬ (0 ≤ log ∧ log ≤ 6 ∧ 1 ≤ width ∧ width ≤ 200 ∧ 0 ≤ id ∧ id ≤ 255) from by omega)]; rfl
  · rw [if_neg h1, decide_eq_false (show ¬ (0 ≤ log ∧ log ≤ 6 ∧ 1 ≤ width ∧ width ≤ 200 ∧ 0 ≤ id ∧ id ≤ 255) from by omega)]; rfl
theorem block_impl (id leaf : Int) (data : List Int) (log width : Int) : impl_isBlock.f id leaf data log width = some (blockB id leaf (data.length : Int) log width) := by
  unfold impl_isBlock.f blockB
  rw [leaf_impl]
  cases hL : isL log leaf with
  | false => simp
  | true =>
    simp only [isL, decide_eq_true_eq] at hL
    simp only [Option.bind_some, if_true]
    unfold impl_within.f
    by_cases h3 : width ≥ 1
    · rw [if_pos h3]
      simp only [Option.bind_some]
      by_cases h4 : width ≤ 200
      · rw [if_pos (by simpa using h4)]
        by_cases h5 : id ≥ 0
        · rw [if_pos h5]
          simp only [Option.bind_some]
          by_cases h6 : id ≤ 255
          · rw [if_pos (by simpa using h6), decide_eq_true (show 0 ≤ log ∧ log ≤ 6 ∧ 1 ≤ width ∧ width ≤ 200 ∧ 0 ≤ id ∧ id ≤ 255 from by omega)]
            simp
          · rw [if_neg (by simpa using h6), decide_eq_false (show ¬ (0 ≤ log ∧ log ≤ 6 ∧ 1 ≤ width ∧ width ≤ 200 ∧ 0 ≤ id ∧ id ≤ 255) from by omega)]; rfl
        · rw [if_neg h5, decide_eq_false (show ¬ (0 ≤ log ∧ log ≤ 6 ∧ 1 ≤ width ∧ width ≤ 200 ∧ 0 ≤ id ∧ id ≤ 255) from by omega)]; rfl
      · rw [if_neg (by simpa using h4), decide_eq_false (show ¬ (0 ≤ log ∧ log ≤ 6 ∧ 1 ≤ width ∧ width ≤ 200 ∧ 0 ≤ id ∧ id ≤ 255) from by omega)]; rfl
    · rw [if_neg h3, decide_eq_false (show ¬ (0 ≤ log ∧ log ≤ 6 ∧ 1 ≤ width ∧ width ≤ 200 ∧ 0 ≤ id ∧ id ≤ 255) from by omega)]; rfl
theorem rd26 (l : List S26) (i : Nat) (h : i < l.length) : rd_T26 l (i : Int) = l[i] := by simp [rd_T26, h]
theorem wr (i : Nat) (h : i ≤ 2000000) : wrap64 ((i : Int) + 1) = ((i + 1 : Nat) : Int) := by unfold wrap64; omega
/-! the blocks' own rule -/
def goodAt (xs : List S26) (log width : Int) (i : Nat) : Bool := blockB (rd_T26 xs (i : Int)).f0 (rd_T26 xs (i : Int)).f1 ((rd_T26 xs (i : Int)).f2.length : Int) log width && (decide (i = 0) || !decide ((rd_T26 xs ((i - 1 : Nat) : Int)).f0 ≥ (rd_T26 xs (i : Int)).f0))
def allFrom (xs : List S26) (log width : Int) : Nat → Nat → Bool
  | 0, _ => true
  | d + 1, i => goodAt xs log width i && allFrom xs log width d (i + 1)
theorem allFrom_succ (xs : List S26) (log width : Int) (d i : Nat) : allFrom xs log width (d + 1) i = (goodAt xs log width i && allFrom xs log width d (i + 1)) := rfl
def frameB (log width : Int) : Bool := decide (0 ≤ log ∧ log ≤ 6 ∧ 1 ≤ width ∧ width ≤ 200)
def blocksB (xs : List S26) (log width : Int) : Bool := frameB log width && allFrom xs log width xs.length 0
theorem frame_spec (log width : Int) : spec_l12Frame.f log width = some (frameB log width) := by
  unfold spec_l12Frame.f spec_l11Log.f frameB
  by_cases h1 : log ≥ 0
  · rw [if_pos h1]
    simp only [Option.bind_some]
    by_cases h2 : log ≤ 6
    · rw [if_pos (by simpa using h2)]
      by_cases h3 : width ≥ 1
      · rw [if_pos h3]; congr 1; apply decide_eq_decide.2; omega
      · rw [if_neg h3]; congr 1; symm; apply decide_eq_false; omega
    · rw [if_neg (by simpa using h2)]; congr 1; symm; apply decide_eq_false; omega
  · rw [if_neg h1]
    show some false = _
    congr 1; symm; apply decide_eq_false; omega
theorem frame_impl (log width : Int) : ((impl_isLog.f log).bind fun t => if t = true then ((impl_within.f width 1 200).bind fun u => some u) else some false) = some (frameB log width) := by
  unfold impl_isLog.f impl_within.f frameB
  by_cases h1 : log ≥ 0
  · rw [if_pos h1]
    simp only [Option.bind_some]
    by_cases h2 : log ≤ 6
    · rw [if_pos (by simpa using h2)]
      by_cases h3 : width ≥ 1
      · rw [if_pos h3]
        show some _ = some _
        congr 1; apply decide_eq_decide.2; omega
      · rw [if_neg h3]
        show some _ = some _
        congr 1; symm; apply decide_eq_false; omega
    · rw [if_neg (by simpa using h2)]; congr 1; symm; apply decide_eq_false; omega
  · rw [if_neg h1]
    show some false = _
    congr 1; symm; apply decide_eq_false; omega
theorem blocks_spec_l0 (xs : List S26) (hx : xs.length ≤ 1048576) (log width : Int) : ∀ (d k i : Nat), i ≤ xs.length → xs.length - i = d → d + 20 < k → spec_BlocksOk.l0 k xs log width (i : Int) = some (allFrom xs log width d i) := by
  intro d
  induction d with
  | zero =>
    intro k i hi hd hk
    obtain ⟨k, rfl⟩ : ∃ m, k = m + 1 := ⟨k - 1, by omega⟩
    simp only [spec_BlocksOk.l0]
    rw [if_neg (by omega)]; rfl
  | succ d ih =>
    intro k i hi hd hk
    obtain ⟨k, rfl⟩ : ∃ m, k = m + 1 := ⟨k - 1, by omega⟩
    simp only [spec_BlocksOk.l0]
    rw [if_pos (by omega), if_pos (by omega), block_spec k (by omega)]
    simp only [Option.bind_some]
    rw [wr i (by omega), ih k (i + 1) (by omega) (by omega) (by omega)]
    rw [allFrom_succ]
    unfold goodAt
    cases blockB (rd_T26 xs (i : Int)).f0 (rd_T26 xs (i : Int)).f1 ((rd_T26 xs (i : Int)).f2.length : Int) log width with
    | false => simp
    | true =>
      by_cases c : i = 0
      · subst c; simp
      · rw [if_pos rfl, if_pos (by omega), show wrap64 ((i : Int) - 1) = ((i - 1 : Nat) : Int) from by unfold wrap64; omega, if_pos (by omega), if_pos (by omega), decide_eq_false c]
        by_cases c2 : (rd_T26 xs ((i - 1 : Nat) : Int)).f0 ≥ (rd_T26 xs (i : Int)).f0
        · rw [if_pos c2, decide_eq_true c2]; rfl
        · rw [if_neg c2, decide_eq_false c2]; rfl
theorem blocks_impl_l0 (xs : List S26) (hx : xs.length ≤ 1048576) (log width : Int) : ∀ (d k i : Nat), i ≤ xs.length → xs.length - i = d → d + 20 < k → impl_areBlocks.l0 k xs log width xs (xs.length : Int) (i : Int) = some (allFrom xs log width d i && frameB log width) := by
  intro d
  induction d with
  | zero =>
    intro k i hi hd hk
    obtain ⟨k, rfl⟩ : ∃ m, k = m + 1 := ⟨k - 1, by omega⟩
    simp only [impl_areBlocks.l0]
    rw [if_neg (by omega), frame_impl]; rfl
  | succ d ih =>
    intro k i hi hd hk
    obtain ⟨k, rfl⟩ : ∃ m, k = m + 1 := ⟨k - 1, by omega⟩
    simp only [impl_areBlocks.l0]
    rw [if_pos (by omega), if_pos (by omega), if_pos (by omega), block_impl]
    simp only [Option.bind_some]
    rw [wr i (by omega), ih k (i + 1) (by omega) (by omega) (by omega)]
    rw [allFrom_succ]
    unfold goodAt
    cases blockB (rd_T26 xs (i : Int)).f0 (rd_T26 xs (i : Int)).f1 ((rd_T26 xs (i : Int)).f2.length : Int) log width with
    | false => simp
    | true =>
      by_cases c : i = 0
      · subst c; simp
      · rw [if_pos rfl, if_pos (by omega), show wrap64 ((i : Int) - 1) = ((i - 1 : Nat) : Int) from by unfold wrap64; omega, if_pos (by omega), if_pos (by omega), decide_eq_false c]
        by_cases c2 : (rd_T26 xs ((i - 1 : Nat) : Int)).f0 ≥ (rd_T26 xs (i : Int)).f0
        · rw [if_pos c2, decide_eq_true c2]; rfl
        · rw [if_neg c2, decide_eq_false c2]; rfl
theorem blocks_spec (xs : List S26) (hx : xs.length ≤ 1048576) (log width : Int) (k : Nat) (hk : xs.length + 20 < k) : spec_BlocksOk.f k xs log width = some (blocksB xs log width) := by
  unfold spec_BlocksOk.f blocksB
  have := blocks_spec_l0 xs hx log width xs.length k 0 (by omega) (by omega) hk
  rw [show ((0 : Nat) : Int) = 0 from rfl] at this
  rw [frame_spec, this]
  cases frameB log width <;> simp
theorem blocks_impl (xs : List S26) (hx : xs.length ≤ 1048576) (log width : Int) (k : Nat) (hk : xs.length + 20 < k) : impl_areBlocks.f k xs log width = some (blocksB xs log width) := by
  unfold impl_areBlocks.f blocksB
  have := blocks_impl_l0 xs hx log width xs.length k 0 (by omega) (by omega) hk
  rw [show ((0 : Nat) : Int) = 0 from rfl] at this
  rw [this, Bool.and_comm]
def datI (l : List S26) : Nat := (l.map fun x => x.f2.length).sum
theorem datI_cons (x : S26) (l : List S26) : datI (x :: l) = x.f2.length + datI l := by simp [datI]
theorem rdI_at (p : List S26) (x : S26) (l : List S26) : rd_T26 (p ++ x :: l) (p.length : Int) = x := by simp [rd_T26]
def ansL (id : Int) : List S26 → Int × Int × List Int × Bool
  | [] => (0, 0, ([] : List Int), false)
  | x :: l => if x.f0 = id then (x.f0, x.f1, x.f2, true) else ansL id l
def ans (xs : List S26) (id : Int) : Int × Int × List Int × Bool := if xs.length ≤ 128 then ansL id xs else (0, 0, ([] : List Int), false)
theorem one_cut (xs : List S26) (j : Nat) (h : j < xs.length) : (xs.take (j + 1)).drop j = [xs[j]] := by
  rw [List.drop_take, List.drop_eq_getElem_cons h, show j + 1 - j = 1 from by omega]; rfl
theorem data_le (xs : List S26) : ∀ (j : Nat) (h : j < xs.length), xs[j].f2.length ≤ datI xs := by
  induction xs with
  | nil => intro j h; simp at h
  | cons x l ih =>
    intro j h
    rw [datI_cons]
    cases j with
    | zero => simp
    | succ j =>
      have := ih j (by simpa using h)
      simp only [List.getElem_cons_succ]
      omega
theorem copy_l0 : ∀ (l p : List S26) (k : Nat), p.length + l.length ≤ 1048576 → datI l ≤ 1048576 → l.length < k → spec_l13Copy.l0 k (p ++ l) p (p.length : Int) = some (p ++ l)
  | [], p, k, h1, h2, hk => by
    obtain ⟨k, rfl⟩ : ∃ m, k = m + 1 := ⟨k - 1, by omega⟩
    simp only [spec_l13Copy.l0]
    rw [if_neg (by simp), List.append_nil]
  | x :: l, p, k, h1, h2, hk => by
    obtain ⟨k, rfl⟩ : ∃ m, k = m + 1 := ⟨k - 1, by omega⟩
    rw [datI_cons] at h2
    rw [List.length_cons] at h1 hk
    simp only [spec_l13Copy.l0]
    rw [if_pos (by rw [List.length_append, List.length_cons]; omega), if_pos (by omega), rdI_at, Option.bind_some, if_pos (by show 0 + _ < _; omega), if_pos (by omega)]
    rw [show wrap64 ((p.length : Int) + 1) = ((p ++ [(⟨x.f0, x.f1, [] ++ x.f2⟩ : S26)]).length : Int) from by rw [List.length_append, List.length_singleton]; unfold wrap64; omega]
    rw [show p ++ x :: l = (p ++ [(⟨x.f0, x.f1, [] ++ x.f2⟩ : S26)]) ++ l from by simp]
    exact copy_l0 l _ k (by rw [List.length_append, List.length_singleton]; omega) (by omega) (by omega)
theorem copy_eq (l : List S26) (h : l.length + datI l ≤ 1048576) (k : Nat) (hk : l.length < k) : spec_l13Copy.f k l = some l := by
  have := copy_l0 l [] k (by simp; omega) (by omega) hk
  simpa [spec_l13Copy.f] using this
def drp (id : Int) (l : List S26) : List S26 := l.filter fun x => !decide (x.f0 = id)
theorem datI_app (a b : List S26) : datI (a ++ b) = datI a + datI b := by simp [datI]
theorem drp_le (id : Int) : ∀ l : List S26, (drp id l).length ≤ l.length ∧ datI (drp id l) ≤ datI l
  | [] => ⟨Nat.le_refl _, Nat.le_refl _⟩
  | x :: l => by
    have ih := drp_le id l
    by_cases c : x.f0 = id
    · have e : drp id (x :: l) = drp id l := by simp [drp, c]
      rw [e, List.length_cons, datI_cons]
      omega
    · have e : drp id (x :: l) = x :: drp id l := by simp [drp, c]
      rw [e, List.length_cons, List.length_cons, datI_cons, datI_cons]
      omega
theorem without_l0 (id : Int) : ∀ (l p q : List S26) (k : Nat), p.length + l.length ≤ 1048576 → q.length ≤ p.length → q.length + l.length + (datI q + datI l) ≤ 1048576 → 2 * l.length + q.length + 1 < k →
    spec_l13Without.l0 k (p ++ l) id q (p.length : Int) = some (q ++ drp id l)
  | [], p, q, k, h1, hq, h2, hk => by
    obtain ⟨k, rfl⟩ : ∃ m, k = m + 1 := ⟨k - 1, by omega⟩
    rw [List.length_nil] at h2 hk
    have e0 : datI [] = 0 := rfl
    rw [e0] at h2
    simp only [spec_l13Without.l0]
    rw [if_neg (by simp), copy_eq q (by omega) k (by omega), Option.bind_some]
    simp [drp]
  | x :: l, p, q, k, h1, hq, h2, hk => by
    obtain ⟨k, rfl⟩ : ∃ m, k = m + 1 := ⟨k - 1, by omega⟩
    rw [datI_cons] at h2
    rw [List.length_cons] at h1 h2 hk
    simp only [spec_l13Without.l0]
    rw [if_pos (by rw [List.length_append, List.length_cons]; omega), if_pos (by omega), rdI_at]
    rw [show wrap64 ((p.length : Int) + 1) = ((p ++ [x]).length : Int) from by rw [List.length_append, List.length_singleton]; unfold wrap64; omega]
    rw [show p ++ x :: l = (p ++ [x]) ++ l from by simp]
    by_cases c : x.f0 = id
    · rw [if_pos c, without_l0 id l (p ++ [x]) q k (by rw [List.length_append, List.length_singleton]; omega) (by rw [List.length_append, List.length_singleton]; omega) (by omega) (by omega)]
      have e : drp id (x :: l) = drp id l := by simp [drp, c]
      rw [e]
    · rw [if_neg c, if_pos (by omega)]
      have hd : datI (q ++ [x]) = datI q + x.f2.length := by rw [datI_app, datI_cons]; rfl
      rw [without_l0 id l (p ++ [x]) (q ++ [x]) k (by rw [List.length_append, List.length_singleton]; omega) (by simp only [List.length_append, List.length_singleton]; omega) (by rw [List.length_append, List.length_singleton, hd]; omega) (by rw [List.length_append, List.length_singleton]; omega)]
      have e : drp id (x :: l) = x :: drp id l := by simp [drp, c]
      rw [e]
      simp
theorem without_eq (id : Int) (l : List S26) (h : l.length + datI l ≤ 1048576) (k : Nat) (hk : 2 * l.length + 1 < k) : spec_l13Without.f k l id = some (drp id l) := by
  have e0 : datI ([] : List S26) = 0 := rfl
  have := without_l0 id l [] [] k (by simp; omega) (Nat.le_refl _) (by rw [e0]; simp; omega) (by simpa using hk)
  simpa [spec_l13Without.f] using this
theorem specFind_l0 (xs : List S26) (hx : xs.length + datI xs ≤ 1048576) (h128 : xs.length ≤ 128) (id : Int) : ∀ (d k i : Nat), xs.length - i = d → i ≤ xs.length → d + 3 < k → spec_StashFind.l0 k xs id (i : Int) = some (ansL id (xs.drop i)) := by
  intro d
  induction d with
  | zero =>
    intro k i hd hi hk
    obtain ⟨k, rfl⟩ : ∃ m, k = m + 1 := ⟨k - 1, by omega⟩
    simp only [spec_StashFind.l0]
    rw [if_neg (by omega), List.drop_eq_nil_of_le (by omega)]; rfl
  | succ d ih =>
    intro k i hd hi hk
    obtain ⟨k, rfl⟩ : ∃ m, k = m + 1 := ⟨k - 1, by omega⟩
    have h : i < xs.length := by omega
    have e : wrap64 ((i : Int) + 1) = ((i + 1 : Nat) : Int) := by unfold wrap64; omega
    have hd := data_le xs i h
    have hdx : datI [xs[i]] = xs[i].f2.length := by rw [datI_cons]; rfl
    simp only [spec_StashFind.l0]
    rw [if_pos (by omega), if_pos (by omega), if_pos (by omega), rd26 xs i h, e, List.drop_eq_getElem_cons h, ansL]
    by_cases c : xs[i].f0 = id
    · rw [if_pos c, if_pos c, if_pos (by omega), if_pos (by omega), Int.toNat_natCast, Int.toNat_natCast, one_cut xs i h, copy_eq [xs[i]] (by rw [hdx, List.length_singleton]; omega) k (by rw [List.length_singleton]; omega), Option.bind_some, if_pos (by simp)]
      rfl
    · rw [if_neg c, if_neg c]
      exact ih k (i + 1) (by omega) (by omega) (by omega)
theorem specFind_eq (xs : List S26) (hx : xs.length + datI xs ≤ 1048576) (id : Int) (k : Nat) (hk : xs.length + 3 < k) : spec_StashFind.f k xs id = some (ans xs id) := by
  unfold spec_StashFind.f ans
  by_cases c : xs.length ≤ 128
  · rw [if_pos c]
    exact specFind_l0 xs hx c id xs.length k 0 (by omega) (by omega) hk
  · rw [if_neg c]
    obtain ⟨k, rfl⟩ : ∃ m, k = m + 1 := ⟨k - 1, by omega⟩
    simp only [spec_StashFind.l0]
    rw [if_pos (by omega), if_neg (by omega)]
/-! the greedy plan -/
theorem fold_spec (lg lf lv : Int) : ∀ (R : List S26) (s : Nat × List S26 × List S67), s.1 ≤ 4 → ∃ k tk : List S26, R.foldl (evStep id lg lf lv) s = (s.1 + tk.length, s.2.1 ++ k, s.2.2 ++ tk.map (fun x => (⟨lv, x.f0⟩ : S67))) ∧ (tk ++ k).Perm R ∧ s.1 + tk.length ≤ 4 ∧ (∀ x ∈ tk, lv ≤ meetV lg x.f1 lf) ∧ (∀ x ∈ k, lv ≤ meetV lg x.f1 lf → s.1 + tk.length = 4)
  | [], s, h => ⟨[], [], by simp, by simp, by simpa using h, by simp, by simp⟩
  | x :: R, s, h => by
    rw [List.foldl_cons]
    by_cases c : No lg lf lv s.1 x
    · rw [evStep_no (pr := id) c]
      obtain ⟨k, tk, h1, h2, h3, h4, h5⟩ := fold_spec lg lf lv R (s.1, s.2.1 ++ [x], s.2.2) h
      refine ⟨x :: k, tk, by rw [h1]; simp, List.perm_middle.trans (h2.cons x), h3, h4, fun y hy hm => ?_⟩
      rcases List.mem_cons.1 hy with rfl | hy
      · have h3' : s.1 + tk.length ≤ 4 := h3
        rcases c with c | c
        · omega
        · omega
      · exact h5 y hy hm
    · rw [evStep_yes (pr := id) c]
      have c' : ¬ (s.1 = 4 ∨ meetV lg x.f1 lf < lv) := c
      obtain ⟨k, tk, h1, h2, h3, h4, h5⟩ := fold_spec lg lf lv R (s.1 + 1, s.2.1, s.2.2 ++ [⟨lv, x.f0⟩]) (by show s.1 + 1 ≤ 4; omega)
      have h3' : s.1 + 1 + tk.length ≤ 4 := h3
      refine ⟨k, x :: tk, ?_, h2.cons x, by rw [List.length_cons]; omega, fun y hy => ?_, fun y hy hm => ?_⟩
      · refine h1.trans ?_
        have e : s.1 + 1 + tk.length = s.1 + (tk.length + 1) := by omega
        simp [e]
      · rcases List.mem_cons.1 hy with rfl | hy
        · omega
        · exact h4 y hy
      · have := h5 y hy hm
        rw [List.length_cons]
        have h6 : s.1 + 1 + tk.length = 4 := this
        omega
def cnt (Q : List S67) (l : Int) : Nat := Q.countP (fun p => decide (p.f0 = l))
theorem cnt_app (A B : List S67) (l : Int) : cnt (A ++ B) l = cnt A l + cnt B l := List.countP_append
theorem cnt_put (tk : List S26) (lv l : Int) : cnt (tk.map (fun x => (⟨lv, x.f0⟩ : S67))) l = if lv = l then tk.length else 0 := by
  unfold cnt
  rw [List.countP_map]
  by_cases c : lv = l
  · rw [if_pos c, List.countP_eq_length]
    intro x _
    simpa using c
  · rw [if_neg c, List.countP_eq_zero]
    intro x _
    simpa using c
theorem cnt_none (Q : List S67) (l : Int) (h : ∀ p ∈ Q, p.f0 ≠ l) : cnt Q l = 0 := by
  unfold cnt
  rw [List.countP_eq_zero]
  intro p hp
  simpa using h p hp
theorem ev_spec (lg lf : Int) : ∀ (n : Nat) (R : List S26) (ps : List S67), (R.map fun x => x.f0).Nodup → ∃ (Q : List S67) (K tkn : List S26), evLevels id lg lf n R ps = (ps ++ Q, K) ∧ (Q.map fun p => p.f1) = (tkn.map fun x => x.f0) ∧ (tkn ++ K).Perm R ∧
    (∀ p ∈ Q, 0 ≤ p.f0 ∧ p.f0 < (n : Int) ∧ ∃ x ∈ R, x.f0 = p.f1 ∧ p.f0 ≤ meetV lg x.f1 lf) ∧ (∀ l : Int, cnt Q l ≤ 4) ∧ (∀ x ∈ R, ∀ l : Int, 0 ≤ l → l < (n : Int) → l ≤ meetV lg x.f1 lf → (∀ p ∈ Q, p.f1 = x.f0 → p.f0 < l) → cnt Q l = 4)
  | 0, R, ps, _ => ⟨[], R, [], by simp [evLevels], rfl, by simp, by simp, by simp [cnt], fun x _ l h0 h1 => by omega⟩
  | n + 1, R, ps, hd => by
    obtain ⟨k, tk, h1, h2, h3, h4, h5⟩ := fold_spec lg lf (n : Int) R (0, [], []) (by show 0 ≤ 4; omega)
    have h3' : tk.length ≤ 4 := by have := h3; simpa using this
    have hnd : ((tk ++ k).map fun x => x.f0).Nodup := (h2.map _).nodup_iff.2 hd
    have hk : (k.map fun x => x.f0).Nodup := by
      rw [List.map_append] at hnd
      exact (List.nodup_append.1 hnd).2.1
    have e1 : evLevel id lg lf (n : Int) R = (tk.length, k, tk.map fun x => (⟨(n : Int), x.f0⟩ : S67)) := by
      unfold evLevel
      rw [h1]
      simp
    obtain ⟨Q, K, tkn, g1, g2, g3, g4, g5, g6⟩ := ev_spec lg lf n k (ps ++ tk.map fun x => (⟨(n : Int), x.f0⟩ : S67)) hk
    have hin : ∀ x ∈ R, x ∈ tk ∨ x ∈ k := fun x hx => List.mem_append.1 (h2.mem_iff.2 hx)
    refine ⟨(tk.map fun x => (⟨(n : Int), x.f0⟩ : S67)) ++ Q, K, tk ++ tkn, ?_, ?_, ?_, ?_, ?_, ?_⟩
    · unfold evLevels
      rw [e1]
      show evLevels id lg lf n k (ps ++ tk.map fun x => (⟨(n : Int), x.f0⟩ : S67)) = _
      rw [g1, List.append_assoc]
    · rw [List.map_append, List.map_append, g2, List.map_map]
      rfl
    · rw [List.append_assoc]
      exact (List.Perm.append_left tk g3).trans h2
    · intro p hp
      rcases List.mem_append.1 hp with hp | hp
      · obtain ⟨x, hx, rfl⟩ := List.mem_map.1 hp
        exact ⟨by show (0 : Int) ≤ (n : Int); omega, by show (n : Int) < ((n + 1 : Nat) : Int); omega, x, h2.mem_iff.1 (List.mem_append.2 (.inl hx)), rfl, h4 x hx⟩
      · obtain ⟨a, b, x, hx, c, d⟩ := g4 p hp
        exact ⟨a, by omega, x, h2.mem_iff.1 (List.mem_append.2 (.inr hx)), c, d⟩
    · intro l
      rw [cnt_app, cnt_put]
      by_cases c : (n : Int) = l
      · rw [if_pos c, cnt_none Q l (fun p hp => by have := (g4 p hp).2.1; omega)]
        omega
      · rw [if_neg c]
        have := g5 l
        omega
    · intro x hx l h0 hl hm hlow
      rw [cnt_app, cnt_put]
      by_cases c : (n : Int) = l
      · rw [if_pos c, cnt_none Q l (fun p hp => by have := (g4 p hp).2.1; omega)]
        rcases hin x hx with hx | hx
        · have := hlow ⟨(n : Int), x.f0⟩ (List.mem_append.2 (.inl (List.mem_map.2 ⟨x, hx, rfl⟩))) rfl
          have h9 : (n : Int) < l := this
          omega
        · have := h5 x hx (by omega)
          have h9 : 0 + tk.length = 4 := this
          omega
      · rw [if_neg c, Nat.zero_add]
        rcases hin x hx with hx | hx
        · have := hlow ⟨(n : Int), x.f0⟩ (List.mem_append.2 (.inl (List.mem_map.2 ⟨x, hx, rfl⟩))) rfl
          have h9 : (n : Int) < l := this
          omega
        · exact g6 x hx l h0 (by omega) hm (fun p hp e => hlow p (List.mem_append.2 (.inr hp)) e)
/-! the reference's plan is the same -/
theorem fold_out (lg lf lv : Int) : ∀ (R : List S26) (c : Nat) (K : List S26) (o o2 : List S67), R.foldl (evStep id lg lf lv) (c, K, o ++ o2) = ((R.foldl (evStep id lg lf lv) (c, K, o2)).1, (R.foldl (evStep id lg lf lv) (c, K, o2)).2.1, o ++ (R.foldl (evStep id lg lf lv) (c, K, o2)).2.2)
  | [], c, K, o, o2 => rfl
  | x :: R, c, K, o, o2 => by
    rw [List.foldl_cons, List.foldl_cons]
    by_cases h : No lg lf lv c x
    · rw [evStep_no (pr := id) (s := (c, K, o ++ o2)) h, evStep_no (pr := id) (s := (c, K, o2)) h]
      exact fold_out lg lf lv R c (K ++ [x]) o o2
    · rw [evStep_yes (pr := id) (s := (c, K, o ++ o2)) h, evStep_yes (pr := id) (s := (c, K, o2)) h]
      show R.foldl _ (c + 1, K, (o ++ o2) ++ _) = _
      rw [List.append_assoc]
      exact fold_out lg lf lv R (c + 1) K o _
theorem ansL_found (id : Int) : ∀ l : List S26, (∃ x ∈ l, x.f0 = id) → (ansL id l).2.2.2 = true
  | [], h => by obtain ⟨x, hx, _⟩ := h; cases hx
  | y :: l, h => by
    rw [ansL]
    by_cases c : y.f0 = id
    · rw [if_pos c]
    · rw [if_neg c]
      obtain ⟨x, hx, e⟩ := h
      rcases List.mem_cons.1 hx with rfl | hx
      · exact absurd e c
      · exact ansL_found id l ⟨x, hx, e⟩
theorem ansL_lost (id : Int) : ∀ l : List S26, (∀ x ∈ l, x.f0 ≠ id) → (ansL id l).2.2.2 = false
  | [], h => rfl
  | y :: l, h => by
    rw [ansL, if_neg (h y (by simp))]
    exact ansL_lost id l (fun x hx => h x (by simp [hx]))
theorem drp_mid (id : Int) (K R : List S26) (x : S26) (hx : x.f0 = id) (hK : ∀ y ∈ K, y.f0 ≠ id) (hR : ∀ y ∈ R, y.f0 ≠ id) : drp id (K ++ x :: R) = K ++ R := by
  unfold drp
  rw [List.filter_append, List.filter_cons, if_neg (by simp [hx])]
  congr 1
  · exact List.filter_eq_self.2 (fun y hy => by simpa using hK y hy)
  · exact List.filter_eq_self.2 (fun y hy => by simpa using hR y hy)
theorem datI_sub {A B : List S26} (h : A.Sublist B) : datI A ≤ datI B := by
  induction h with
  | slnil => exact Nat.le_refl _
  | cons x _ ih => rw [datI_cons]; omega
  | cons_cons x _ ih => rw [datI_cons, datI_cons]; omega
theorem sp_l1 (L : List S26) (h128 : L.length ≤ 128) (hdat : L.length + datI L ≤ 100000) (hnd : (L.map fun x => x.f0).Nodup) (log leaf lv : Int) (hm : ∀ x ∈ L, ∀ k, 200 ≤ k → spec_Meet.f k log x.f1 leaf = some (meetV log x.f1 leaf)) (res : List S67) :
    ∀ (suf pre R K : List S26) (c : Nat) (out : List S67), L = pre ++ suf → R.Sublist suf → K.Sublist pre → c ≤ 4 → out.length + R.length ≤ 1000 →
      (Ev fun k => spec_EvictPlan.l0 k L log leaf (R.foldl (evStep id log leaf lv) (c, K, out)).2.2 (R.foldl (evStep id log leaf lv) (c, K, out)).2.1 (wrap64 (lv - 1)) = some res) →
      Ev fun k => spec_EvictPlan.l1 k L log leaf out (K ++ R) lv (c : Int) (pre.length : Int) = some res := by
  intro suf
  induction suf with
  | nil =>
    intro pre R K c out hL hR hK hc ho hn
    obtain rfl : R = [] := List.sublist_nil.1 hR
    refine hn.up fun k hk => ?_
    simp only [spec_EvictPlan.l1]
    rw [if_neg (by rw [hL]; simp), List.append_nil]
    exact hk
  | cons x suf ih =>
    intro pre R K c out hL hR hK hc ho hn
    have hL2 : L = (pre ++ [x]) ++ suf := by rw [hL]; simp
    have hlen : (((pre ++ [x]).length : Nat) : Int) = (pre.length : Int) + 1 := by rw [List.length_append, List.length_singleton]; omega
    have hpl : pre.length < L.length := by rw [hL, List.length_append, List.length_cons]; omega
    have hrd : rd_T26 L (pre.length : Int) = x := by rw [hL]; exact rdI_at pre x suf
    have hw : wrap64 ((pre.length : Int) + 1) = ((pre ++ [x]).length : Int) := by rw [hlen]; unfold wrap64; omega
    have hsub : (K ++ R).Sublist L := by rw [hL]; exact hK.append hR
    have hs1 := hsub.length_le
    have hs2 := datI_sub hsub
    have hids : ∀ y, (y ∈ pre ∨ y ∈ suf) → y.f0 ≠ x.f0 := by
      intro y hy e
      have hn2 := hnd
      rw [hL, List.map_append, List.map_cons] at hn2
      obtain ⟨_, n2, n3⟩ := List.nodup_append.1 hn2
      rcases hy with hy | hy
      · exact n3 _ (List.mem_map.2 ⟨y, hy, rfl⟩) _ (List.mem_cons_self) e
      · exact (List.nodup_cons.1 n2).1 (List.mem_map.2 ⟨y, hy, e⟩)
    have hfind : Ev fun k => spec_StashFind.f k (K ++ R) x.f0 = some (ans (K ++ R) x.f0) := Ev.from 1000 fun k hk => specFind_eq (K ++ R) (by omega) x.f0 k (by omega)
    have hans : ans (K ++ R) x.f0 = ansL x.f0 (K ++ R) := if_pos (by omega)
    cases hR with
    | cons _ hR' =>
      have hlost : (ans (K ++ R) x.f0).2.2.2 = false := by
        rw [hans]
        refine ansL_lost _ _ fun y hy => ?_
        rcases List.mem_append.1 hy with hy | hy
        · exact hids y (.inl (hK.subset hy))
        · exact hids y (.inr (hR'.subset hy))
      have h := ih (pre ++ [x]) R K c out hL2 hR' (hK.trans (List.sublist_append_left pre [x])) hc ho hn
      refine (hfind.and h).up fun k hk => ?_
      simp only [spec_EvictPlan.l1]
      rw [if_pos (by omega), if_pos (by omega), hrd, hk.1, Option.bind_some, if_neg (by rw [hlost]; decide), hw]
      exact hk.2
    | cons_cons _ hR' =>
      rename_i R'
      rw [List.foldl_cons] at hn
      have hfound : (ans (K ++ x :: R') x.f0).2.2.2 = true := by
        rw [hans]
        exact ansL_found _ _ ⟨x, by simp, rfl⟩
      have ho' : out.length + (R'.length + 1) ≤ 1000 := ho
      by_cases hno : No log leaf lv c x
      · rw [evStep_no (pr := id) (s := (c, K, out)) hno] at hn
        have h := ih (pre ++ [x]) R' (K ++ [x]) c out hL2 hR' (hK.append (List.Sublist.refl [x])) hc (by omega) hn
        rw [show (K ++ [x]) ++ R' = K ++ x :: R' from by simp] at h
        refine ((hfind.and h).and (Ev.from (P := fun k => 200 ≤ k) 200 fun k hk => hk)).up fun k hk => ?_
        simp only [spec_EvictPlan.l1]
        rw [if_pos (by omega), if_pos (by omega), hrd, hk.1.1, Option.bind_some, if_pos hfound]
        by_cases c4 : (c : Int) < 4
        · have hlt : meetV log x.f1 leaf < lv := by
            rcases hno with h | h
            · omega
            · exact h
          rw [if_pos c4, hm x (by rw [hL]; simp) k hk.2, Option.bind_some, if_neg (by omega), hw]
          exact hk.1.2
        · rw [if_neg c4, hw]
          exact hk.1.2
      · rw [evStep_yes (pr := id) (s := (c, K, out)) hno] at hn
        have hno' : ¬ (c = 4 ∨ meetV log x.f1 leaf < lv) := hno
        have h := ih (pre ++ [x]) R' K (c + 1) (out ++ [⟨lv, x.f0⟩]) hL2 hR' (hK.trans (List.sublist_append_left pre [x])) (by omega) (by rw [List.length_append, List.length_singleton]; omega) hn
        have hwo : Ev fun k => spec_l13Without.f k (K ++ x :: R') x.f0 = some (K ++ R') := Ev.from 1000 fun k hk => by
          rw [without_eq x.f0 (K ++ x :: R') (by omega) k (by omega)]
          rw [drp_mid x.f0 K R' x rfl (fun y hy => hids y (.inl (hK.subset hy))) (fun y hy => hids y (.inr (hR'.subset hy)))]
        refine (((hfind.and h).and hwo).and (Ev.from (P := fun k => 200 ≤ k) 200 fun k hk => hk)).up fun k hk => ?_
        simp only [spec_EvictPlan.l1]
        rw [if_pos (by omega), if_pos (by omega), hrd, hk.1.1.1, Option.bind_some, if_pos hfound, if_pos (by omega), hm x (by rw [hL]; simp) k hk.2, Option.bind_some, if_pos (by omega), if_pos (by omega), hk.1.2, Option.bind_some, hw, show wrap64 ((c : Int) + 1) = ((c + 1 : Nat) : Int) from by unfold wrap64; omega]
        exact hk.1.1.2
theorem sp_l0 (L : List S26) (h128 : L.length ≤ 128) (hdat : L.length + datI L ≤ 100000) (hnd : (L.map fun x => x.f0).Nodup) (log leaf : Int) (hm : ∀ x ∈ L, ∀ k, 200 ≤ k → spec_Meet.f k log x.f1 leaf = some (meetV log x.f1 leaf)) :
    ∀ (n : Nat) (R : List S26) (out : List S67), n ≤ 7 → R.Sublist L → out.length + R.length ≤ 200 → Ev fun k => spec_EvictPlan.l0 k L log leaf out R ((n : Int) - 1) = some (evLevels id log leaf n R out).1
  | 0, R, out, _, _, _ => Ev.from 1 fun k hk => by
    obtain ⟨k, rfl⟩ : ∃ m, k = m + 1 := ⟨k - 1, by omega⟩
    simp only [spec_EvictPlan.l0]
    rw [if_neg (by omega)]
    rfl
  | n + 1, R, out, hn, hR, ho => by
    have hinv := ev_inv (α := S26) id log leaf (n : Int) R (0, [], []) (by show 0 ≤ 4; omega)
    have hsub : (evLevel id log leaf (n : Int) R).2.1.Sublist R := by
      obtain ⟨k, h1, h2⟩ := evl_sub (α := S26) id log leaf (n : Int) R (0, [], [])
      unfold evLevel
      rw [h1]
      simpa using h2
    have hnext := sp_l0 L h128 hdat hnd log leaf hm n (evLevel id log leaf (n : Int) R).2.1 (out ++ (evLevel id log leaf (n : Int) R).2.2) (by omega) (hsub.trans hR) (by
      have := hinv.2
      rw [List.length_append]
      unfold evLevel
      simp only [List.length_nil] at this
      omega)
    have hf := fold_out log leaf (n : Int) R 0 [] out []
    rw [List.append_nil] at hf
    have h := sp_l1 L h128 hdat hnd log leaf (n : Int) hm (evLevels id log leaf (n + 1) R out).1 L [] R [] 0 out (by simp) hR (List.Sublist.refl _) (by omega) (by omega) (by
      rw [hf, show wrap64 ((n : Int) - 1) = (n : Int) - 1 from by unfold wrap64; omega]
      exact hnext)
    refine h.up fun k hk => ?_
    simp only [spec_EvictPlan.l0]
    rw [show ((n + 1 : Nat) : Int) - 1 = (n : Int) from by omega, if_pos (by omega)]
    exact hk
def P (l x : Nat) : List Int := (List.range (l + 1)).map fun v => (((2 ^ l + x) / 2 ^ (l - v) : Nat) : Int)
theorem P_all : ∀ l : Nat, l < 7 → ∀ x : Nat, x < 2 ^ l → spec_PathNodes.f 20 (l : Int) (x : Int) = some (P l x) := by decide +kernel
theorem P_len (l x : Nat) : (P l x).length = l + 1 := by simp [P]
def okM (l a b : Nat) : Bool := decide (spec_Meet.f 100 (l : Int) (a : Int) (b : Int) = some (meetV (l : Int) (a : Int) (b : Int))) && (decide (0 ≤ meetV (l : Int) (a : Int) (b : Int)) && (decide (meetV (l : Int) (a : Int) (b : Int) ≤ (l : Int)) && (List.range (l + 1)).all fun v => !decide ((v : Int) ≤ meetV (l : Int) (a : Int) (b : Int)) || decide (rd (P l b) (v : Int) ∈ P l a)))
theorem okM_lo : ∀ l, l < 6 → ∀ a, a < 2 ^ l → ∀ b, b < 2 ^ l → okM l a b = true := by decide +kernel
theorem okM_hi1 : ∀ a, a < 32 → ∀ b, b < 64 → okM 6 a b = true := by decide +kernel
theorem okM_hi2 : ∀ a, a < 32 → ∀ b, b < 64 → okM 6 (32 + a) b = true := by decide +kernel
theorem okM_all (l a b : Nat) (hl : l < 7) (ha : a < 2 ^ l) (hb : b < 2 ^ l) : okM l a b = true := by
  by_cases h : l < 6
  · exact okM_lo l h a ha b hb
  · obtain rfl : l = 6 := by omega
    by_cases h2 : a < 32
    · exact okM_hi1 a h2 b hb
    · have := okM_hi2 (a - 32) (by omega) b hb
      rwa [show 32 + (a - 32) = a from by omega] at this
theorem loop_on (node : Int) (xs : List Int) (hx : xs.length < 1000) : ∀ (d k : Nat) (i : Nat), i ≤ xs.length → xs.length - i = d → d < k →
    spec_OnPath.l0 k node xs (i : Int) = some (decide (node ∈ xs.drop i)) := by
  intro d
  induction d with
  | zero =>
    intro k i h0 hd hk
    obtain ⟨k, rfl⟩ : ∃ m, k = m + 1 := ⟨k - 1, by omega⟩
    simp only [spec_OnPath.l0]
    rw [if_neg (by omega), List.drop_eq_nil_of_le (by omega)]
    simp
  | succ d ih =>
    intro k i h0 hd hk
    obtain ⟨k, rfl⟩ : ∃ m, k = m + 1 := ⟨k - 1, by omega⟩
    have hlt : i < xs.length := by omega
    simp only [spec_OnPath.l0]
    rw [if_pos (by omega), if_pos (by omega)]
    have hr : rd xs (i : Int) = xs[i] := by simp [rd, hlt]
    rw [hr, List.drop_eq_getElem_cons hlt]
    by_cases e : xs[i] = node
    · rw [if_pos e]; simp [e]
    · rw [if_neg e, show wrap64 ((i : Int) + 1) = ((i + 1 : Nat) : Int) from by unfold wrap64; omega, ih k (i + 1) (by omega) (by omega) (by omega)]
      have e' : ¬ node = xs[i] := fun h => e h.symm
      congr 1
      apply decide_eq_decide.2
      rw [List.mem_cons]
      exact ⟨fun h => .inr h, fun h => h.resolve_left e'⟩
/-- Of two leaves of a tree: how far their paths are one. -/
theorem meet_facts (log a b : Int) (ha : isL log a = true) (hb : isL log b = true) :
    (∀ k, 100 ≤ k → spec_Meet.f k log a b = some (meetV log a b)) ∧ 0 ≤ meetV log a b ∧ meetV log a b ≤ log ∧
    ∃ ns : List Int, (∀ k, 20 ≤ k → spec_PathNodes.f k log b = some ns) ∧ (ns.length : Int) = log + 1 ∧ ∀ v : Int, 0 ≤ v → v ≤ meetV log a b → ∀ k, 100 ≤ k → spec_OnPath.f k log (rd ns v) a = some true := by
  simp only [isL, decide_eq_true_eq] at ha hb
  obtain ⟨l, rfl⟩ := Int.eq_ofNat_of_zero_le ha.1
  obtain ⟨x, rfl⟩ := Int.eq_ofNat_of_zero_le ha.2.2.1
  obtain ⟨y, rfl⟩ := Int.eq_ofNat_of_zero_le hb.2.2.1
  rw [Int.toNat_natCast] at ha hb
  have h := okM_all l x y (by omega) (by omega) (by omega)
  simp only [okM, Bool.and_eq_true, decide_eq_true_eq, List.all_eq_true] at h
  obtain ⟨h1, h2, h3, h4⟩ := h
  have px := P_all l (by omega) x (by omega)
  have py := P_all l (by omega) y (by omega)
  refine ⟨fun k hk => at_rounds (g := fun k => spec_Meet.f k (l : Int) (x : Int) (y : Int)) (fun k => spec_Meet.mono _ _ _ k) hk h1, h2, h3, P l y, fun k hk => at_rounds (g := fun k => spec_PathNodes.f k (l : Int) (y : Int)) (fun k => spec_PathNodes.mono _ _ k) hk py, by rw [P_len]; omega, fun v hv0 hv k hk => ?_⟩
  obtain ⟨v, rfl⟩ := Int.eq_ofNat_of_zero_le hv0
  have h5 := h4 v (List.mem_range.2 (by omega))
  rw [decide_eq_true hv] at h5
  have h6 : rd (P l y) (v : Int) ∈ P l x := by simpa using h5
  unfold spec_OnPath.f
  rw [at_rounds (g := fun k => spec_PathNodes.f k (l : Int) (x : Int)) (fun k => spec_PathNodes.mono _ _ k) (show 20 ≤ k by omega) px, Option.bind_some]
  have h7 := loop_on (rd (P l y) (v : Int)) (P l x) (by rw [P_len]; omega) (P l x).length k 0 (by omega) (by omega) (by rw [P_len]; omega)
  rw [show ((0 : Nat) : Int) = 0 from rfl, List.drop_zero] at h7
  rw [h7, decide_eq_true h6]
/-! the law's own rows -/
def usedOf (n : Nat) (Q : List S67) : List Int := (List.range (n + 1)).map fun (l : Nat) => ((cnt Q (l : Int) : Nat) : Int)
def lvl (Q : List S67) (id : Int) : Int := Q.foldl (fun a p => if p.f1 = id then p.f0 else a) (-1)
def levOf (L : List S26) (Q : List S67) : List Int := L.map fun x => lvl Q x.f0
theorem used_len (n : Nat) (Q : List S67) : (usedOf n Q).length = n + 1 := by simp [usedOf]
theorem used_at (n : Nat) (Q : List S67) (l : Nat) (h : l ≤ n) : rd (usedOf n Q) (l : Int) = ((cnt Q (l : Int) : Nat) : Int) := by
  have : l < n + 1 := by omega
  simp [rd, usedOf, this]
theorem used_set (n : Nat) (Q : List S67) (p : S67) (l : Nat) (hl : p.f0 = (l : Int)) (h : l ≤ n) : (usedOf n Q).set l (((cnt Q (l : Int) : Nat) : Int) + 1) = usedOf n (Q ++ [p]) := by
  apply List.ext_getElem
  · rw [List.length_set, used_len, used_len]
  · intro i h1 h2
    rw [used_len] at h2
    have e : (usedOf n (Q ++ [p]))[i]'(by rw [used_len]; exact h2) = ((cnt (Q ++ [p]) (i : Int) : Nat) : Int) := by simp [usedOf]
    rw [e, List.getElem_set, cnt_app]
    have c1 : cnt [p] (i : Int) = if i = l then 1 else 0 := by
      unfold cnt
      rw [List.countP_cons, List.countP_nil]
      by_cases c : i = l
      · subst c; simp [hl]
      · have : ¬ p.f0 = (i : Int) := by rw [hl]; omega
        simp [this, c]
    rw [c1]
    by_cases c : l = i
    · subst c
      rw [if_pos rfl, if_pos rfl]; omega
    · rw [if_neg c, if_neg (fun e => c e.symm)]
      simp [usedOf]
theorem lvl_snoc (Q : List S67) (p : S67) (id : Int) : lvl (Q ++ [p]) id = if p.f1 = id then p.f0 else lvl Q id := by
  unfold lvl
  rw [List.foldl_append]
  rfl
theorem lvl_keep (id : Int) : ∀ (Q : List S67) (a : Int), (∀ p ∈ Q, p.f1 ≠ id) → Q.foldl (fun a p => if p.f1 = id then p.f0 else a) a = a
  | [], a, _ => rfl
  | p :: Q, a, h => by
    rw [List.foldl_cons, if_neg (h p (by simp))]
    exact lvl_keep id Q a (fun q hq => h q (by simp [hq]))
theorem lvl_none (Q : List S67) (id : Int) (h : ∀ p ∈ Q, p.f1 ≠ id) : lvl Q id = -1 := lvl_keep id Q (-1) h
theorem lvl_hit (id : Int) : ∀ (Q : List S67) (a : Int) (p : S67), (Q.map fun q => q.f1).Nodup → p ∈ Q → p.f1 = id → Q.foldl (fun a p => if p.f1 = id then p.f0 else a) a = p.f0
  | q :: Q, a, p, hn, hp, e => by
    rw [List.map_cons, List.nodup_cons] at hn
    rw [List.foldl_cons]
    rcases List.mem_cons.1 hp with rfl | hp
    · rw [if_pos e]
      refine lvl_keep id Q _ fun q hq e2 => hn.1 (List.mem_map.2 ⟨q, hq, e2.trans e.symm⟩)
    · exact lvl_hit id Q _ p hn.2 hp e
theorem lvl_of (Q : List S67) (p : S67) (hn : (Q.map fun q => q.f1).Nodup) (hp : p ∈ Q) : lvl Q p.f1 = p.f0 := lvl_hit p.f1 Q (-1) p hn hp rfl
/-! what the plan is known to be -/
structure Plan (L : List S26) (n : Nat) (leaf : Int) (Q : List S67) : Prop where
  nd : (Q.map fun p => p.f1).Nodup
  ok : ∀ p ∈ Q, 0 ≤ p.f0 ∧ p.f0 ≤ (n : Int) ∧ ∃ x ∈ L, x.f0 = p.f1 ∧ p.f0 ≤ meetV (n : Int) x.f1 leaf
  le : ∀ l : Int, cnt Q l ≤ 4
  full : ∀ x ∈ L, ∀ l : Int, 0 ≤ l → l ≤ (n : Int) → l ≤ meetV (n : Int) x.f1 leaf → (∀ p ∈ Q, p.f1 = x.f0 → p.f0 < l) → cnt Q l = 4
theorem rd67 (Q : List S67) (i : Nat) (h : i < Q.length) : rd_T67 Q (i : Int) = Q[i] := by simp [rd_T67, h]
section
variable {L : List S26} {n : Nat} {width leaf : Int} {Q : List S67}
theorem ev_l5 (hQ : Plan L n leaf Q) (hn : n ≤ 6) (hrest : Ev fun k => (impl_EvictRest.f k L (n : Int) width leaf).bind (fun t461 => some ((t461.length : Int) == (wrap64 ((L.length : Int) - (Q.length : Int))))) = some true) :
    ∀ (d l : Nat), n + 1 - l = d → l ≤ n + 1 → Ev fun k => laws_FnEvicted.l5 k L (n : Int) width leaf Q (usedOf n Q) (l : Int) = some true := by
  intro d
  induction d with
  | zero =>
    intro l hd hl
    refine hrest.up fun k hk => ?_
    simp only [laws_FnEvicted.l5]
    rw [if_neg (by omega)]
    exact hk
  | succ d ih =>
    intro l hd hl
    refine (ih (l + 1) (by omega) (by omega)).up fun k hk => ?_
    have := hQ.le (l : Int)
    simp only [laws_FnEvicted.l5]
    rw [if_pos (by omega), if_pos (by omega), if_pos (by rw [used_len]; omega), used_at n Q l (by omega), if_neg (by omega), show wrap64 ((l : Int) + 1) = ((l + 1 : Nat) : Int) from wr l (by omega)]
    exact hk
theorem ev_l4 (hQ : Plan L n leaf Q) (hn : n ≤ 6) (j : Nat) (hj : j < L.length) (hm : ∀ k, 200 ≤ k → spec_Meet.f k (n : Int) L[j].f1 leaf = some (meetV (n : Int) L[j].f1 leaf)) (hm1 : meetV (n : Int) L[j].f1 leaf ≤ (n : Int)) (x10 : List Int)
    (hnext : Ev fun k => laws_FnEvicted.l3 k L (n : Int) width leaf Q (usedOf n Q) x10 (wrap64 ((j : Int) + 1)) = some true) :
    ∀ (d l : Nat), n + 1 - l = d → l ≤ n + 1 → lvl Q L[j].f0 < (l : Int) → Ev fun k => laws_FnEvicted.l4 k L (n : Int) width leaf Q (usedOf n Q) x10 (j : Int) (l : Int) = some true := by
  have hlen : (j : Int) < (L.length : Int) := by omega
  intro d
  induction d with
  | zero =>
    intro l hd hl hlv
    refine (hnext.and (Ev.from (P := fun k => 200 ≤ k) 200 fun k hk => hk)).up fun k hk => ?_
    simp only [laws_FnEvicted.l4]
    rw [if_pos (by omega), if_pos hlen, rd26 L j hj, hm k hk.2, Option.bind_some, if_neg (by omega)]
    exact hk.1
  | succ d ih =>
    intro l hd hl hlv
    by_cases c : (l : Int) ≤ meetV (n : Int) L[j].f1 leaf
    · have hc : cnt Q (l : Int) = 4 := hQ.full L[j] (List.getElem_mem hj) (l : Int) (by omega) (by omega) c (fun p hp e => by
        have := lvl_of Q p hQ.nd hp
        rw [e] at this
        omega)
      refine ((ih (l + 1) (by omega) (by omega) (by omega)).and (Ev.from (P := fun k => 200 ≤ k) 200 fun k hk => hk)).up fun k hk => ?_
      simp only [laws_FnEvicted.l4]
      rw [if_pos (by omega), if_pos hlen, rd26 L j hj, hm k hk.2, Option.bind_some, if_pos c, if_pos (by omega), if_pos (by rw [used_len]; omega), used_at n Q l (by omega), hc, if_neg (by decide), show wrap64 ((l : Int) + 1) = ((l + 1 : Nat) : Int) from wr l (by omega)]
      exact hk.1
    · refine (hnext.and (Ev.from (P := fun k => 200 ≤ k) 200 fun k hk => hk)).up fun k hk => ?_
      simp only [laws_FnEvicted.l4]
      rw [if_pos (by omega), if_pos hlen, rd26 L j hj, hm k hk.2, Option.bind_some, if_neg c]
      exact hk.1
theorem lvl_range (hQ : Plan L n leaf Q) (id : Int) : -1 ≤ lvl Q id ∧ lvl Q id ≤ (n : Int) := by
  by_cases c : ∃ p ∈ Q, p.f1 = id
  · obtain ⟨p, hp, rfl⟩ := c
    rw [lvl_of Q p hQ.nd hp]
    have := hQ.ok p hp
    omega
  · rw [lvl_none Q id (fun p hp e => c ⟨p, hp, e⟩)]
    omega
theorem ev_l3 (hQ : Plan L n leaf Q) (hn : n ≤ 6) (h128 : L.length ≤ 128) (hm : ∀ x ∈ L, ∀ k, 200 ≤ k → spec_Meet.f k (n : Int) x.f1 leaf = some (meetV (n : Int) x.f1 leaf)) (hm1 : ∀ x ∈ L, meetV (n : Int) x.f1 leaf ≤ (n : Int))
    (hrest : Ev fun k => (impl_EvictRest.f k L (n : Int) width leaf).bind (fun t461 => some ((t461.length : Int) == (wrap64 ((L.length : Int) - (Q.length : Int))))) = some true) :
    ∀ (d j : Nat), L.length - j = d → j ≤ L.length → Ev fun k => laws_FnEvicted.l3 k L (n : Int) width leaf Q (usedOf n Q) (levOf L Q) (j : Int) = some true := by
  intro d
  induction d with
  | zero =>
    intro j hd hj
    refine (ev_l5 (width := width) hQ hn hrest (n + 1) 0 (by omega) (by omega)).up fun k hk => ?_
    simp only [laws_FnEvicted.l3]
    rw [if_neg (by omega)]
    exact hk
  | succ d ih =>
    intro j hd hj
    have hlt : j < L.length := by omega
    have hr := lvl_range hQ L[j].f0
    obtain ⟨m, hm2⟩ : ∃ m : Nat, lvl Q L[j].f0 + 1 = (m : Int) := ⟨(lvl Q L[j].f0 + 1).toNat, by omega⟩
    have hrd : rd (levOf L Q) (j : Int) = lvl Q L[j].f0 := by simp [rd, levOf, hlt]
    have h := ev_l4 (width := width) hQ hn j hlt (hm _ (List.getElem_mem hlt)) (hm1 _ (List.getElem_mem hlt)) (levOf L Q) (by
      rw [show wrap64 ((j : Int) + 1) = ((j + 1 : Nat) : Int) from wr j (by omega)]
      exact ih (j + 1) (by omega) (by omega)) (n + 1 - m) m rfl (by omega) (by omega)
    refine h.up fun k hk => ?_
    simp only [laws_FnEvicted.l3]
    rw [if_pos (by omega), if_pos (by omega), if_pos (by unfold levOf; rw [List.length_map]; omega), hrd, show wrap64 (lvl Q L[j].f0 + 1) = (m : Int) from by rw [hm2]; unfold wrap64; omega]
    exact hk
theorem ev_l2 (h128 : L.length ≤ 128) (hn : n ≤ 6) (i : Nat) (hi : i < Q.length) (hnd : (L.map fun x => x.f0).Nodup) (hnew : ∀ p ∈ Q.take i, p.f1 ≠ Q[i].f1) (hp : 0 ≤ Q[i].f0 ∧ Q[i].f0 ≤ (n : Int)) (used : List Int) (ns : List Int)
    (hns : ∀ k, 20 ≤ k → spec_PathNodes.f k (n : Int) leaf = some ns) (hnl : (ns.length : Int) = (n : Int) + 1) (hon : ∀ x ∈ L, x.f0 = Q[i].f1 → ∀ k, 100 ≤ k → spec_OnPath.f k (n : Int) (rd ns Q[i].f0) x.f1 = some true)
    (hnext : Ev fun k => laws_FnEvicted.l1 k L (n : Int) width leaf Q used (levOf L (Q.take (i + 1))) (wrap64 ((i : Int) + 1)) = some true) :
    ∀ (d j : Nat), L.length - j = d → j ≤ L.length → Ev fun k => laws_FnEvicted.l2 k L (n : Int) width leaf Q used (levOf (L.take j) (Q.take (i + 1)) ++ levOf (L.drop j) (Q.take i)) (i : Int) (j : Int) = some true := by
  have hsn : Q.take (i + 1) = Q.take i ++ [Q[i]] := List.take_succ_eq_append_getElem hi
  intro d
  induction d with
  | zero =>
    intro j hd hj
    have e : j = L.length := by omega
    subst e
    refine hnext.up fun k hk => ?_
    simp only [laws_FnEvicted.l2]
    rw [if_neg (by omega), List.take_length, List.drop_length]
    show laws_FnEvicted.l1 k L (n : Int) width leaf Q used (levOf L (Q.take (i + 1)) ++ []) (wrap64 ((i : Int) + 1)) = some true
    rw [List.append_nil]
    exact hk
  | succ d ih =>
    intro j hd hj
    have hlt : j < L.length := by omega
    have hA : (levOf (L.take j) (Q.take (i + 1))).length = j := by unfold levOf; rw [List.length_map, List.length_take]; omega
    have hlen : (levOf (L.take j) (Q.take (i + 1)) ++ levOf (L.drop j) (Q.take i)).length = L.length := by rw [List.length_append, hA]; unfold levOf; rw [List.length_map, List.length_drop]; omega
    have hB : levOf (L.drop j) (Q.take i) = lvl (Q.take i) L[j].f0 :: levOf (L.drop (j + 1)) (Q.take i) := by
      unfold levOf
      rw [List.drop_eq_getElem_cons hlt, List.map_cons]
    have hrd : rd (levOf (L.take j) (Q.take (i + 1)) ++ levOf (L.drop j) (Q.take i)) (j : Int) = lvl (Q.take i) L[j].f0 := by
      rw [hB]
      unfold rd
      rw [Int.toNat_natCast, List.getD_eq_getElem?_getD, List.getElem?_append_right (by omega), hA, Nat.sub_self]
      rfl
    have hN : levOf (L.take (j + 1)) (Q.take (i + 1)) = levOf (L.take j) (Q.take (i + 1)) ++ [lvl (Q.take (i + 1)) L[j].f0] := by
      unfold levOf
      rw [List.take_succ_eq_append_getElem hlt, List.map_append]
      rfl
    have hih := ih (j + 1) (by omega) (by omega)
    rw [hN, List.append_assoc] at hih
    by_cases c : L[j].f0 = Q[i].f1
    · have hl1 : lvl (Q.take i) L[j].f0 = -1 := lvl_none _ _ (fun p hp e => hnew p hp (e.trans c))
      have hl2 : lvl (Q.take (i + 1)) L[j].f0 = Q[i].f0 := by rw [hsn, lvl_snoc, if_pos c.symm]
      have hset : (levOf (L.take j) (Q.take (i + 1)) ++ levOf (L.drop j) (Q.take i)).set j Q[i].f0 = levOf (L.take j) (Q.take (i + 1)) ++ ([lvl (Q.take (i + 1)) L[j].f0] ++ levOf (L.drop (j + 1)) (Q.take i)) := by
        rw [hB, hl2, List.set_append_right _ _ (by omega), hA, Nat.sub_self]
        rfl
      refine (hih.and (Ev.from (P := fun k => 200 ≤ k) 200 fun k hk => hk)).up fun k hk => ?_
      simp only [laws_FnEvicted.l2]
      rw [if_pos (by omega), if_pos (by omega), if_pos (by omega), if_pos (by omega), rd26 L j hlt, rd67 Q i hi, if_pos c, if_pos (by rw [hlen]; omega), hrd, hl1, if_neg (by decide), hns k (by have := hk.2; omega), Option.bind_some, if_pos hp.1, if_pos (by omega), hon _ (List.getElem_mem hlt) c k (by have := hk.2; omega), Option.bind_some, if_pos rfl, Int.toNat_natCast, hset, show wrap64 ((j : Int) + 1) = ((j + 1 : Nat) : Int) from wr j (by omega)]
      exact hk.1
    · have hl2 : lvl (Q.take (i + 1)) L[j].f0 = lvl (Q.take i) L[j].f0 := by rw [hsn, lvl_snoc, if_neg (fun e => c e.symm)]
      rw [hl2] at hih
      refine hih.up fun k hk => ?_
      simp only [laws_FnEvicted.l2]
      rw [if_pos (by omega), if_pos (by omega), if_pos (by omega), if_pos (by omega), rd26 L j hlt, rd67 Q i hi, if_neg c, hB, show wrap64 ((j : Int) + 1) = ((j + 1 : Nat) : Int) from wr j (by omega)]
      exact hk
theorem ev_l1 (hQ : Plan L n leaf Q) (hn : n ≤ 6) (h128 : L.length ≤ 128) (hq128 : Q.length ≤ 128) (hnd : (L.map fun x => x.f0).Nodup) (ns : List Int) (hns : ∀ k, 20 ≤ k → spec_PathNodes.f k (n : Int) leaf = some ns) (hnl : (ns.length : Int) = (n : Int) + 1)
    (hon : ∀ x ∈ L, ∀ v : Int, 0 ≤ v → v ≤ meetV (n : Int) x.f1 leaf → ∀ k, 100 ≤ k → spec_OnPath.f k (n : Int) (rd ns v) x.f1 = some true) (hm : ∀ x ∈ L, ∀ k, 200 ≤ k → spec_Meet.f k (n : Int) x.f1 leaf = some (meetV (n : Int) x.f1 leaf)) (hm1 : ∀ x ∈ L, meetV (n : Int) x.f1 leaf ≤ (n : Int))
    (hrest : Ev fun k => (impl_EvictRest.f k L (n : Int) width leaf).bind (fun t461 => some ((t461.length : Int) == (wrap64 ((L.length : Int) - (Q.length : Int))))) = some true) :
    ∀ (d i : Nat), Q.length - i = d → i ≤ Q.length → Ev fun k => laws_FnEvicted.l1 k L (n : Int) width leaf Q (usedOf n (Q.take i)) (levOf L (Q.take i)) (i : Int) = some true := by
  intro d
  induction d with
  | zero =>
    intro i hd hi
    have e : i = Q.length := by omega
    subst e
    rw [List.take_length]
    refine (ev_l3 (width := width) hQ hn h128 hm hm1 hrest L.length 0 (by omega) (by omega)).up fun k hk => ?_
    simp only [laws_FnEvicted.l1]
    rw [if_neg (by omega)]
    exact hk
  | succ d ih =>
    intro i hd hi
    have hlt : i < Q.length := by omega
    have hsn : Q.take (i + 1) = Q.take i ++ [Q[i]] := List.take_succ_eq_append_getElem hlt
    obtain ⟨p1, p2, x0, hx0, ex0, hmx⟩ := hQ.ok Q[i] (List.getElem_mem hlt)
    obtain ⟨l, hl⟩ := Int.eq_ofNat_of_zero_le p1
    have hnew : ∀ p ∈ Q.take i, p.f1 ≠ Q[i].f1 := by
      intro p hp e
      have h1 : ((Q.take (i + 1)).map fun q => q.f1).Nodup := List.Sublist.nodup (List.Sublist.map _ (List.take_sublist _ _)) hQ.nd
      rw [hsn, List.map_append] at h1
      exact (List.nodup_append.1 h1).2.2 _ (List.mem_map.2 ⟨p, hp, rfl⟩) _ (by simp) e
    have huniq : ∀ x ∈ L, x.f0 = Q[i].f1 → x = x0 := by
      intro x hx e
      obtain ⟨a, ha, rfl⟩ := List.getElem_of_mem hx
      obtain ⟨b, hb, rfl⟩ := List.getElem_of_mem hx0
      have hab : a = b := (List.getElem?_inj (by rw [List.length_map]; exact ha) hnd).1 (by
        rw [List.getElem?_map, List.getElem?_map, List.getElem?_eq_getElem ha, List.getElem?_eq_getElem hb, Option.map_some, Option.map_some, e, ex0])
      subst hab
      rfl
    have h2 := ev_l2 (width := width) (L := L) (Q := Q) (leaf := leaf) (n := n) h128 hn i hlt hnd hnew ⟨p1, p2⟩ (usedOf n (Q.take (i + 1))) ns hns hnl (fun x hx e k hk => by
      rw [huniq x hx e]
      exact hon x0 hx0 _ p1 hmx k hk) (by
      rw [show wrap64 ((i : Int) + 1) = ((i + 1 : Nat) : Int) from wr i (by omega)]
      exact ih (i + 1) (by omega) (by omega)) L.length 0 (by omega) (by omega)
    rw [List.take_zero, List.drop_zero] at h2
    have hus : (usedOf n (Q.take i)).set l (((cnt (Q.take i) (l : Int) : Nat) : Int) + 1) = usedOf n (Q.take (i + 1)) := by
      rw [hsn]
      exact used_set n (Q.take i) Q[i] l hl (by omega)
    have hcnt : cnt (Q.take i) (l : Int) ≤ 200 := by
      have : cnt (Q.take i) (l : Int) ≤ (Q.take i).length := List.countP_le_length
      rw [List.length_take] at this
      omega
    refine h2.up fun k hk => ?_
    simp only [laws_FnEvicted.l1]
    rw [if_pos (by omega), if_pos (by omega), rd67 Q i hlt, hl, if_neg (by omega), if_neg (by omega), if_pos (by omega), if_pos (by rw [used_len]; omega), used_at n _ l (by omega), Int.toNat_natCast, show wrap64 (((cnt (Q.take i) (l : Int) : Nat) : Int) + 1) = ((cnt (Q.take i) (l : Int) : Nat) : Int) + 1 from by unfold wrap64; omega, hus]
    exact hk
theorem ev_l0 (h128 : L.length ≤ 128) (used : List Int) (log : Int) (hnext : Ev fun k => laws_FnEvicted.l1 k L log width leaf Q used (levOf L []) 0 = some true) :
    ∀ (d j : Nat), L.length - j = d → j ≤ L.length → Ev fun k => laws_FnEvicted.l0 k L log width leaf Q used (List.replicate j (-1 : Int) ++ List.replicate (L.length - j) (0 : Int)) (j : Int) = some true := by
  intro d
  induction d with
  | zero =>
    intro j hd hj
    have e : j = L.length := by omega
    subst e
    refine hnext.up fun k hk => ?_
    simp only [laws_FnEvicted.l0]
    rw [if_neg (by omega), Nat.sub_self]
    have e2 : List.replicate L.length (-1 : Int) ++ List.replicate 0 0 = levOf L [] := by
      unfold levOf lvl
      simp [List.map_const']
    rw [e2]
    exact hk
  | succ d ih =>
    intro j hd hj
    refine (ih (j + 1) (by omega) (by omega)).up fun k hk => ?_
    have hset : (List.replicate j (-1 : Int) ++ List.replicate (L.length - j) (0 : Int)).set j (-1) = List.replicate (j + 1) (-1 : Int) ++ List.replicate (L.length - (j + 1)) (0 : Int) := by
      rw [List.set_append_right _ _ (by simp), List.length_replicate, Nat.sub_self, show L.length - j = (L.length - (j + 1)) + 1 from by omega, List.replicate_succ, List.set_cons_zero, List.replicate_succ', List.append_assoc]
      rfl
    simp only [laws_FnEvicted.l0]
    rw [if_pos (by omega), if_pos (by omega), if_pos (by rw [List.length_append, List.length_replicate, List.length_replicate]; omega), Int.toNat_natCast, hset, show wrap64 ((j : Int) + 1) = ((j + 1 : Nat) : Int) from wr j (by omega)]
    exact hk
end
/-- The state of a reader of draws: where it stands, and its seed. -/
def Ok (at_ seed b : Int) : Prop := 0 ≤ at_ ∧ at_ ≤ b ∧ 0 ≤ seed ∧ seed < 65521
def Bytes (l : List Int) : Prop := l.length ≤ 1048576 ∧ ∀ x, x ∈ l → 0 ≤ x ∧ x ≤ 255
theorem Ok.up {a s b b' : Int} (h : Ok a s b) (hb : b ≤ b') : Ok a s b' := ⟨h.1, by have := h.2.1; omega, h.2.2⟩
theorem bytes_of {l : List Int} (h1 : l.length ≤ 1048576) (h2 : ∀ x, x ∈ l → (Lit.int .u8 x).wf = true) : Bytes l := by
  refine ⟨h1, fun x hx => ?_⟩
  have := h2 x hx
  simp [Lit.wf, IntKind.min, IntKind.max, IntKind.signed, IntKind.bits] at this
  omega
theorem rd_byte {l : List Int} (h : Bytes l) (i : Int) : 0 ≤ rd l i ∧ rd l i ≤ 255 := by
  unfold rd
  rw [List.getD_eq_getElem?_getD]
  cases e : l[i.toNat]? with
  | none => simp
  | some x => exact h.2 x (List.mem_of_getElem? e)
theorem tmod_pos {a n : Int} (h0 : 0 ≤ a) (hn : 0 < n) : 0 ≤ Int.tmod a n ∧ Int.tmod a n < n := by
  rw [Int.tmod_eq_emod_of_nonneg h0]
  exact ⟨Int.emod_nonneg _ (by omega), Int.emod_lt_of_pos _ hn⟩
theorem pick_ok {l : List Int} (hl : Bytes l) {a s b : Int} (h : Ok a s b) (hb : b ≤ 1000000000000) (n : Int) :
    ∃ r a' s', spec_l01Cur_pick.f l a s n = some (r, a', s') ∧ 0 ≤ r ∧ (2 ≤ n → r < n) ∧ (n < 2 → r = 0) ∧ Ok a' s' (b + 1) := by
  obtain ⟨h0, h1, h2, h3⟩ := h
  have hlen := hl.1
  unfold spec_l01Cur_pick.f
  by_cases c1 : n < 2
  · rw [if_pos c1]
    exact ⟨0, a, s, rfl, by omega, fun _ => by omega, fun _ => rfl, h0, by omega, h2, h3⟩
  · rw [if_neg c1]
    have w1 : wrap64 (a + 1) = a + 1 := by unfold wrap64; omega
    have w2 : wrap64 (s * 1103) = s * 1103 := by unfold wrap64; omega
    have w3 : wrap64 (s * 1103 + 12345) = s * 1103 + 12345 := by unfold wrap64; omega
    rw [w1, w2, w3]
    have hs := tmod_pos (a := s * 1103 + 12345) (n := 65521) (by omega) (by omega)
    generalize Int.tmod (s * 1103 + 12345) 65521 = s1 at hs
    have hok : Ok (a + 1) s1 (b + 1) := ⟨by omega, by omega, hs.1, hs.2⟩
    by_cases c2 : a < (l.length : Int)
    · rw [if_pos c2, if_pos h0, if_neg (by omega)]
      have hr := rd_byte hl a
      rw [show wrap64 (rd l a) = rd l a from by unfold wrap64; omega]
      have hm := tmod_pos (a := rd l a) (n := n) hr.1 (by omega)
      exact ⟨_, _, _, rfl, hm.1, fun _ => hm.2, fun h => absurd h c1, by omega, by omega, h2, h3⟩
    · rw [if_neg c2]
      by_cases c3 : (l.length : Int) > 0
      · rw [if_pos c3, if_neg (by omega)]
        have hi := tmod_pos (a := a) (n := (l.length : Int)) h0 c3
        rw [if_pos hi.1, if_pos hi.2, if_neg (by omega)]
        have hr := rd_byte hl (Int.tmod a (l.length : Int))
        generalize rd l (Int.tmod a (l.length : Int)) = y at hr
        have hd : 0 ≤ Int.tdiv s1 7 ∧ Int.tdiv s1 7 ≤ 65521 := by
          rw [Int.tdiv_eq_ediv_of_nonneg hs.1]; omega
        generalize Int.tdiv s1 7 = z at hd
        rw [show wrap64 z = z from by unfold wrap64; omega, show wrap64 y = y from by unfold wrap64; omega, show wrap64 (z + y) = z + y from by unfold wrap64; omega]
        have hm := tmod_pos (a := z + y) (n := n) (by omega) (by omega)
        exact ⟨_, _, _, rfl, hm.1, fun _ => hm.2, fun h => absurd h c1, hok⟩
      · rw [if_neg c3, if_neg (by omega)]
        have e : (0 : Int) % n = 0 := Int.zero_emod n
        rw [e]
        exact ⟨_, _, _, rfl, by omega, fun _ => by omega, fun h => absurd h c1, hok⟩
theorem raw_ok {l : List Int} (hl : Bytes l) {a s b : Int} (h : Ok a s b) (hb : b ≤ 900000000000) :
    ∃ r a' s', spec_l01Cur_raw.f l a s = some (r, a', s') ∧ (-9223372036854775808 ≤ r ∧ r ≤ 9223372036854775807) ∧ Ok a' s' (b + 2) := by
  obtain ⟨r1, a1, s1, e1, k1, k2, _, o1⟩ := pick_ok hl h (by omega) 8
  unfold spec_l01Cur_raw.f
  rw [e1]
  simp only [Option.bind_some]
  by_cases c1 : r1 = 0
  · rw [if_pos c1]
    obtain ⟨r2, a2, s2, e2, k3, k4, _, o2⟩ := pick_ok hl o1 (by omega) 256
    rw [e2]
    have := k4 (by omega)
    exact ⟨_, _, _, rfl, by rw [show wrap64 (r2 - 128) = r2 - 128 from by unfold wrap64; omega]; omega, o2.up (by omega)⟩
  · rw [if_neg c1]
    by_cases c2 : r1 = 1
    · rw [if_pos c2]
      obtain ⟨r2, a2, s2, e2, k3, k4, _, o2⟩ := pick_ok hl o1 (by omega) 8
      simp only [e2, Option.bind_some]
      rw [if_pos k3, if_pos (by have := k4 (by omega); simpa using this)]
      refine ⟨_, _, _, rfl, ?_, o2.up (by omega)⟩
      have k5 := k4 (by omega)
      have h8 : r2 = 0 ∨ r2 = 1 ∨ r2 = 2 ∨ r2 = 3 ∨ r2 = 4 ∨ r2 = 5 ∨ r2 = 6 ∨ r2 = 7 := by omega
      rcases h8 with rfl | rfl | rfl | rfl | rfl | rfl | rfl | rfl <;> decide
    · rw [if_neg c2]
      obtain ⟨r2, a2, s2, e2, k3, k4, _, o2⟩ := pick_ok hl o1 (by omega) 14
      rw [e2]
      have := k4 (by omega)
      exact ⟨_, _, _, rfl, by rw [show wrap64 (r2 - 3) = r2 - 3 from by unfold wrap64; omega]; omega, o2.up (by omega)⟩
theorem open_ok {l : List Int} (hl : Bytes l) : ∃ s, spec_l01Open.f l = some (l, 0, s) ∧ Ok 0 s 0 := by
  refine ⟨_, rfl, by omega, by omega, ?_, ?_⟩ <;> omega
theorem once_ok {l : List Int} (hl : Bytes l) {a s b : Int} (h : Ok a s b) (hb : b ≤ 900000000000) (n : Int) :
    ∃ r a' s', spec_l01Cur_once.f l a s n = some (r, a', s') ∧ Ok a' s' (b + 1) := by
  obtain ⟨r, a', s', e, _, _, _, o⟩ := pick_ok hl h (by omega) n
  unfold spec_l01Cur_once.f
  rw [e]
  exact ⟨_, _, _, rfl, o⟩
theorem mn_le (a b : Int) : mn a b ≤ a := by unfold mn; split <;> omega
theorem mn_two (a b c : Int) (h1 : c ≤ a) (h2 : c ≤ b) : c ≤ mn a b := by unfold mn; split <;> omega
theorem mx_le (a b : Int) : a ≤ mx a b := by unfold mx; split <;> omega
theorem frame_ok {l : List Int} (hl : Bytes l) {a s b : Int} (h : Ok a s b) (hb : b ≤ 800000000000) :
    ∃ p q a' s', spec_l01Cur_frame.f l a s = some (p, q, a', s') ∧ Ok a' s' (b + 20) := by
  obtain ⟨r0, a0, s0, e0, o0⟩ := once_ok hl h (by omega) 9
  unfold spec_l01Cur_frame.f
  rw [e0]
  simp only [Option.bind_some]
  by_cases c : r0 = true
  · rw [if_pos c]
    obtain ⟨r1, a1, s1, e1, _, o1⟩ := raw_ok hl o0 (by omega)
    rw [e1]
    simp only [Option.bind_some]
    obtain ⟨r2, a2, s2, e2, k1, k2, _, o2⟩ := pick_ok hl o1 (by omega) 3
    rw [e2]
    simp only [Option.bind_some]
    rw [if_pos k1, if_pos (by have := k2 (by omega); simpa using this)]
    obtain ⟨r3, a3, s3, e3, _, o3⟩ := raw_ok hl o2 (by omega)
    rw [e3]
    simp only [Option.bind_some]
    obtain ⟨r4, a4, s4, e4, k3, k4, _, o4⟩ := pick_ok hl o3 (by omega) 3
    rw [e4]
    simp only [Option.bind_some]
    rw [if_pos k3, if_pos (by have := k4 (by omega); simpa using this)]
    exact ⟨_, _, _, _, rfl, o4.up (by omega)⟩
  · rw [if_neg c]
    obtain ⟨r1, a1, s1, e1, _, _, _, o1⟩ := pick_ok hl o0 (by omega) 5
    rw [e1]
    simp only [Option.bind_some]
    obtain ⟨r2, a2, s2, e2, _, _, _, o2⟩ := pick_ok hl o1 (by omega) 5
    rw [e2]
    simp only [Option.bind_some]
    exact ⟨_, _, _, _, rfl, o2.up (by omega)⟩
theorem bytes_l0 {l : List Int} (hl : Bytes l) : ∀ (d k : Nat) (x : List Int) (a s b : Int), Ok a s b → b + (d : Int) ≤ 900000000000 → x.length + d ≤ 1000 → d < k →
    ∃ w a' s', spec_l01Cur_bytes.l0 k x (d : Int) l a s = some (w, a', s') ∧ Ok a' s' (b + (d : Int)) := by
  intro d
  induction d with
  | zero =>
    intro k x a s b h hb hx hk
    obtain ⟨k, rfl⟩ : ∃ m, k = m + 1 := ⟨k - 1, by omega⟩
    simp only [spec_l01Cur_bytes.l0]
    rw [if_neg (by omega)]
    exact ⟨_, _, _, rfl, h.up (by omega)⟩
  | succ d ih =>
    intro k x a s b h hb hx hk
    obtain ⟨k, rfl⟩ : ∃ m, k = m + 1 := ⟨k - 1, by omega⟩
    simp only [spec_l01Cur_bytes.l0]
    rw [if_pos (by omega)]
    obtain ⟨r1, a1, s1, e1, _, _, _, o1⟩ := pick_ok hl h (by omega) 256
    rw [e1]
    simp only [Option.bind_some]
    rw [if_pos (by omega), show wrap64 (((d + 1 : Nat) : Int) - 1) = (d : Int) from by unfold wrap64; omega]
    obtain ⟨w, a', s', e, o⟩ := ih k (x ++ [r1 % 256]) a1 s1 (b + 1) o1 (by omega) (by simp; omega) (by omega)
    exact ⟨w, a', s', e, o.up (by omega)⟩
theorem bytes6_ok {l : List Int} (hl : Bytes l) {a s b : Int} (h : Ok a s b) (hb : b ≤ 800000000000) (k : Nat) (hk : 20 < k) :
    ∃ w a' s', spec_l01Cur_bytes.f k l a s 6 = some (w, a', s') ∧ Ok a' s' (b + 10) := by
  have hlen := hl.1
  have w1 : wrap64 ((l.length : Int) / 8) = (l.length : Int) / 8 := by unfold wrap64; omega
  have w2 : wrap64 (1 + (l.length : Int) / 8) = 1 + (l.length : Int) / 8 := by unfold wrap64; omega
  have m1 := mn_le 6 (1 + (l.length : Int) / 8)
  have m2 := mn_two 6 (1 + (l.length : Int) / 8) 1 (by omega) (by omega)
  unfold spec_l01Cur_bytes.f spec_l01Cur_size.f
  rw [w1, w2]
  generalize mn 6 (1 + (l.length : Int) / 8) = m at m1 m2
  rw [show wrap64 (m + 1) = m + 1 from by unfold wrap64; omega]
  obtain ⟨r1, a1, s1, e1, k1, k2, _, o1⟩ := pick_ok hl h (by omega) (m + 1)
  rw [e1]
  simp only [Option.bind_some]
  have k3 := k2 (by omega)
  obtain ⟨n, rfl⟩ := Int.eq_ofNat_of_zero_le k1
  obtain ⟨w, a', s', e, o⟩ := bytes_l0 hl n k [] a1 s1 (b + 1) o1 (by omega) (by simp; omega) (by omega)
  exact ⟨w, a', s', e, o.up (by omega)⟩
theorem block_l0 {l : List Int} (hl : Bytes l) : ∀ (d k : Nat) (x3 : Int) (x : List Int) (a s b u v : Int), Ok a s b → b + (d : Int) ≤ 900000000000 → x3 ≤ (x.length : Int) + d → x.length + d ≤ 1000 → d < k →
    ∃ w a' s', spec_l01Cur_block.l0 k x3 l a s u v x = some (u, v, w, a', s') ∧ Ok a' s' (b + (d : Int)) := by
  intro d
  induction d with
  | zero =>
    intro k x3 x a s b u v h hb h3 hx hk
    obtain ⟨k, rfl⟩ : ∃ m, k = m + 1 := ⟨k - 1, by omega⟩
    simp only [spec_l01Cur_block.l0]
    rw [if_neg (by omega)]
    exact ⟨_, _, _, rfl, h.up (by omega)⟩
  | succ d ih =>
    intro k x3 x a s b u v h hb h3 hx hk
    obtain ⟨k, rfl⟩ : ∃ m, k = m + 1 := ⟨k - 1, by omega⟩
    simp only [spec_l01Cur_block.l0]
    by_cases c : (x.length : Int) < x3
    · rw [if_pos c]
      obtain ⟨r1, a1, s1, e1, _, _, _, o1⟩ := pick_ok hl h (by omega) 256
      rw [e1]
      simp only [Option.bind_some]
      rw [if_pos (by omega)]
      obtain ⟨w, a', s', e, o⟩ := ih k x3 (x ++ [r1 % 256]) a1 s1 (b + 1) u v o1 (by omega) (by simp; omega) (by simp; omega) (by omega)
      exact ⟨w, a', s', e, o.up (by omega)⟩
    · rw [if_neg c]
      exact ⟨_, _, _, rfl, h.up (by omega)⟩
theorem block_ok {l : List Int} (hl : Bytes l) {a s b : Int} (h : Ok a s b) (hb : b ≤ 800000000000) (id : Int) (n : Nat) (hn : n ≤ 4) (x3 : Int) (h3 : x3 ≤ 5) (k : Nat) (hk : 20 < k) :
    ∃ v w a' s', spec_l01Cur_block.f k l a s id (n : Int) x3 = some (id, v, w, a', s') ∧ Ok a' s' (b + 10) := by
  unfold spec_l01Cur_block.f
  rw [pow_k k n (by omega) (by omega)]
  simp only [Option.bind_some]
  obtain ⟨r1, a1, s1, e1, _, _, _, o1⟩ := pick_ok hl h (by omega) ((2 ^ n : Nat) : Int)
  rw [e1]
  simp only [Option.bind_some]
  obtain ⟨w, a', s', e, o⟩ := block_l0 hl 5 k x3 [] a1 s1 (b + 1) id r1 o1 (by omega) (by simp; omega) (by simp) (by omega)
  exact ⟨_, w, a', s', e, o.up (by omega)⟩
theorem blocks_l0 {l : List Int} (hl : Bytes l) (n : Nat) (hn : n ≤ 4) (x3 : Int) (h3 : x3 ≤ 5) : ∀ (d k : Nat) (x : List S26) (id a s b : Int), Ok a s b → b + 20 * (d : Int) ≤ 800000000000 → x.length + d ≤ 1000 → d + 30 < k →
    ∃ w a' s', spec_l01Cur_blocks.l0 k (n : Int) x3 x id (d : Int) l a s = some (w, a', s') ∧ w.length = x.length + d ∧ Ok a' s' (b + 20 * (d : Int)) := by
  intro d
  induction d with
  | zero =>
    intro k x id a s b h hb hx hk
    obtain ⟨k, rfl⟩ : ∃ m, k = m + 1 := ⟨k - 1, by omega⟩
    simp only [spec_l01Cur_blocks.l0]
    rw [if_neg (by omega)]
    exact ⟨_, _, _, rfl, rfl, h.up (by omega)⟩
  | succ d ih =>
    intro k x id a s b h hb hx hk
    obtain ⟨k, rfl⟩ : ∃ m, k = m + 1 := ⟨k - 1, by omega⟩
    simp only [spec_l01Cur_blocks.l0]
    rw [if_pos (by omega)]
    obtain ⟨v, w, a1, s1, e1, o1⟩ := block_ok hl h (by omega) id n hn x3 h3 k (by omega)
    rw [e1]
    simp only [Option.bind_some]
    rw [if_pos (by omega)]
    obtain ⟨r2, a2, s2, e2, _, _, _, o2⟩ := pick_ok hl o1 (by omega) 4
    rw [e2]
    simp only [Option.bind_some]
    rw [show wrap64 (((d + 1 : Nat) : Int) - 1) = (d : Int) from by unfold wrap64; omega]
    obtain ⟨w, a', s', e, hw, o⟩ := ih k (x ++ [(⟨id, v, w⟩ : S26)]) _ a2 s2 (b + 10 + 1) o2 (by omega) (by simp; omega) (by omega)
    exact ⟨w, a', s', e, by rw [hw, List.length_append, List.length_singleton]; omega, o.up (by omega)⟩
theorem badBlocks_ok {l : List Int} (hl : Bytes l) {a s b : Int} (h : Ok a s b) (hb : b ≤ 700000000000) (x : List S26) (hx : x.length ≤ 1000) (k : Nat) (hk : 60 < k) :
    ∃ w a' s', spec_l01Cur_badBlocks.f k l a s x = some (w, a', s') ∧ w.length = x.length ∧ Ok a' s' (b + 40) := by
  unfold spec_l01Cur_badBlocks.f
  by_cases c0 : (x.length : Int) = 0
  · rw [if_pos c0]
    exact ⟨_, _, _, rfl, rfl, h.up (by omega)⟩
  · rw [if_neg c0]
    obtain ⟨r1, a1, s1, e1, k1, k2, k3, o1⟩ := pick_ok hl h (by omega) (x.length : Int)
    have hr1 : r1 < (x.length : Int) := by
      by_cases c : 2 ≤ (x.length : Int)
      · exact k2 c
      · have := k3 (by omega); omega
    rw [e1]
    simp only [Option.bind_some]
    obtain ⟨r2, a2, s2, e2, _, _, _, o2⟩ := pick_ok hl o1 (by omega) 12
    rw [e2]
    simp only [Option.bind_some]
    by_cases c1 : r2 = 0
    · rw [if_pos c1]
      obtain ⟨r3, a3, s3, e3, _, o3⟩ := raw_ok hl o2 (by omega)
      rw [e3]
      simp only [Option.bind_some]
      obtain ⟨r4, a4, s4, e4, k4, k5, _, o4⟩ := pick_ok hl o3 (by omega) 4
      rw [if_pos (by omega), e4]
      simp only [Option.bind_some]
      rw [if_pos k4, if_pos (by have := k5 (by omega); simpa using this), if_pos k1, if_pos hr1]
      exact ⟨_, _, _, rfl, by rw [List.length_set], o4.up (by omega)⟩
    · rw [if_neg c1]
      by_cases c2 : r2 = 1
      · rw [if_pos c2]
        obtain ⟨r3, a3, s3, e3, _, o3⟩ := raw_ok hl o2 (by omega)
        rw [e3]
        simp only [Option.bind_some]
        rw [if_pos k1, if_pos hr1]
        exact ⟨_, _, _, rfl, by rw [List.length_set], o3.up (by omega)⟩
      · rw [if_neg c2]
        by_cases c3 : r2 = 2
        · rw [if_pos c3]
          obtain ⟨w, a3, s3, e3, o3⟩ := bytes6_ok hl o2 (by omega) k (by omega)
          rw [e3]
          simp only [Option.bind_some]
          rw [if_pos k1, if_pos hr1]
          exact ⟨_, _, _, rfl, by rw [List.length_set], o3.up (by omega)⟩
        · rw [if_neg c3]
          exact ⟨_, _, _, rfl, rfl, o2.up (by omega)⟩
theorem wr_m (M : Nat) (h : M ≤ 30) : wrap64 ((M : Int) + 1) = (M : Int) + 1 := by unfold wrap64; omega
theorem blocksM_ok {l : List Int} (hl : Bytes l) {a s b : Int} (h : Ok a s b) (hb : b ≤ 700000000000) (M : Nat) (hM : M ≤ 30) (n : Nat) (hn : n ≤ 4) (x3 : Int) (h3 : x3 ≤ 5) (k : Nat) (hk : 100 < k) :
    ∃ w a' s', spec_l01Cur_blocks.f k l a s (M : Int) (n : Int) x3 = some (w, a', s') ∧ w.length ≤ 30 ∧ Ok a' s' (b + 700) := by
  unfold spec_l01Cur_blocks.f
  rw [wr_m M hM]
  obtain ⟨r1, a1, s1, e1, _, _, _, o1⟩ := pick_ok hl h (by omega) 3
  rw [e1]
  simp only [Option.bind_some]
  obtain ⟨r2, a2, s2, e2, k1, k2, k3, o2⟩ := pick_ok hl o1 (by omega) ((M : Int) + 1)
  rw [e2]
  simp only [Option.bind_some]
  have k4 : r2 ≤ 30 := by
    by_cases c : 2 ≤ (M : Int) + 1
    · have := k2 c; omega
    · have := k3 (by omega); omega
  obtain ⟨m, hm⟩ := Int.eq_ofNat_of_zero_le k1
  have hm30 : m ≤ 30 := by omega
  have hbl := blocks_l0 hl n hn x3 h3 m k [] r1 a2 s2 (b + 1 + 1) o2 (by omega) (by rw [List.length_nil]; omega) (by omega)
  rw [← hm] at hbl
  obtain ⟨w, a', s', e, hw, o⟩ := hbl
  refine ⟨w, a', s', e, ?_, o.up (by omega)⟩
  rw [hw, List.length_nil]
  omega
theorem stash_l0 {l : List Int} (hl : Bytes l) (log width : Int) : ∀ (d k : Nat) (x : List S26) (id a s b : Int), Ok a s b → b + 2 * (d : Int) ≤ 700000000000 → 0 ≤ id → id + (d : Int) = 130 → (x.length : Int) = id → d < k →
    ∃ w a' s', spec_l01Cur_stash.l0 k log width x id l a s = some (w, log, width, a', s') ∧ w.length ≤ 200 ∧ Ok a' s' (b + 2 * (d : Int) + 2) := by
  intro d
  induction d with
  | zero =>
    intro k x id a s b h hb h0 hd hx hk
    obtain ⟨k, rfl⟩ : ∃ m, k = m + 1 := ⟨k - 1, by omega⟩
    obtain ⟨r1, a1, s1, e1, k1, k2, _, o1⟩ := pick_ok hl h (by omega) 2
    have k3 := k2 (by omega)
    simp only [spec_l01Cur_stash.l0]
    rw [e1, Option.bind_some]
    dsimp only
    rw [if_neg (by unfold wrap64; omega)]
    exact ⟨_, _, _, rfl, by omega, o1.up (by omega)⟩
  | succ d ih =>
    intro k x id a s b h hb h0 hd hx hk
    obtain ⟨k, rfl⟩ : ∃ m, k = m + 1 := ⟨k - 1, by omega⟩
    obtain ⟨r1, a1, s1, e1, k1, k2, _, o1⟩ := pick_ok hl h (by omega) 2
    have k3 := k2 (by omega)
    simp only [spec_l01Cur_stash.l0]
    rw [e1, Option.bind_some]
    dsimp only
    by_cases c : id < wrap64 (128 + r1)
    · have m1 := mn_le 5 (mx 1 width)
      have m2 := mn_two 5 (mx 1 width) 1 (by omega) (mx_le 1 width)
      rw [if_pos c, if_pos (by omega), if_pos (by omega), if_pos (by omega), show wrap64 (id + 1) = id + 1 from by unfold wrap64; omega]
      obtain ⟨w, a', s', e, hw, o⟩ := ih k (x ++ [(⟨id, 0, List.replicate (mn 5 (mx 1 width) : Int).toNat 0⟩ : S26)]) (id + 1) a1 s1 (b + 1) o1 (by omega) (by omega) (by omega) (by rw [List.length_append, List.length_singleton]; omega) (by omega)
      exact ⟨w, a', s', e, hw, o.up (by omega)⟩
    · rw [if_neg c]
      exact ⟨_, _, _, rfl, by omega, o1.up (by omega)⟩
theorem stash_ok {l : List Int} (hl : Bytes l) {a s b : Int} (h : Ok a s b) (hb : b ≤ 500000000000) (k : Nat) (hk : 200 < k) :
    ∃ w log width a' s', spec_l01Cur_stash.f k l a s = some (w, log, width, a', s') ∧ w.length ≤ 200 ∧ Ok a' s' (b + 2000) := by
  obtain ⟨p, q, a1, s1, e1, o1⟩ := frame_ok hl h (by omega)
  have m1 := mn_le 4 (mx 0 p)
  have m2 := mn_two 4 (mx 0 p) 0 (by omega) (mx_le 0 p)
  have m3 := mn_le 5 (mx 1 q)
  unfold spec_l01Cur_stash.f spec_l12Clip.f
  rw [e1]
  simp only [Option.bind_some]
  obtain ⟨r2, a2, s2, e2, k1, k2, _, o2⟩ := pick_ok hl o1 (by omega) 3
  have k3 := k2 (by omega)
  rw [e2]
  simp only [Option.bind_some]
  rw [if_pos k1, if_pos (by simpa using k3)]
  obtain ⟨n, hn⟩ := Int.eq_ofNat_of_zero_le m2
  obtain ⟨M, hM, hM2⟩ : ∃ M : Nat, rd [4, 14, 30] r2 = (M : Int) ∧ M ≤ 30 := by
    have h3 : r2 = 0 ∨ r2 = 1 ∨ r2 = 2 := by omega
    rcases h3 with rfl | rfl | rfl
    · exact ⟨4, rfl, by omega⟩
    · exact ⟨14, rfl, by omega⟩
    · exact ⟨30, rfl, by omega⟩
  rw [hn, hM]
  obtain ⟨w, a3, s3, e3, hw, o3⟩ := blocksM_ok hl o2 (by omega) M hM2 n (by omega) (mn 5 (mx 1 q)) m3 k (by omega)
  rw [e3]
  simp only [Option.bind_some]
  obtain ⟨r4, a4, s4, e4, o4⟩ := once_ok hl o3 (by omega) 5
  rw [e4]
  simp only [Option.bind_some]
  cases r4 with
  | true =>
    rw [if_pos rfl]
    obtain ⟨w2, a5, s5, e5, hw2, o5⟩ := badBlocks_ok hl o4 (by omega) w (by omega) k (by omega)
    rw [e5]
    simp only [Option.bind_some]
    obtain ⟨r6, a6, s6, e6, o6⟩ := once_ok hl o5 (by omega) 20
    rw [e6]
    simp only [Option.bind_some]
    cases r6 with
    | true =>
      rw [if_pos rfl]
      obtain ⟨w3, a7, s7, e7, hw3, o7⟩ := stash_l0 hl p q 130 k [] 0 a6 s6 _ o6 (by omega) (by omega) (by omega) (by simp) (by omega)
      exact ⟨w3, p, q, a7, s7, e7, hw3, o7.up (by omega)⟩
    | false =>
      rw [if_neg (by decide)]
      exact ⟨_, _, _, _, _, rfl, by omega, o6.up (by omega)⟩
  | false =>
    rw [if_neg (by decide)]
    obtain ⟨r6, a6, s6, e6, o6⟩ := once_ok hl o4 (by omega) 20
    rw [e6]
    simp only [Option.bind_some]
    cases r6 with
    | true =>
      rw [if_pos rfl]
      obtain ⟨w3, a7, s7, e7, hw3, o7⟩ := stash_l0 hl p q 130 k [] 0 a6 s6 _ o6 (by omega) (by omega) (by omega) (by simp) (by omega)
      exact ⟨w3, p, q, a7, s7, e7, hw3, o7.up (by omega)⟩
    | false =>
      rw [if_neg (by decide)]
      exact ⟨_, _, _, _, _, rfl, by omega, o6.up (by omega)⟩
theorem leafd_ok {l : List Int} (hl : Bytes l) {a s b : Int} (h : Ok a s b) (hb : b ≤ 800000000000) (lg : Int) (k : Nat) (hk : 20 ≤ k) :
    ∃ r a' s', spec_l01Cur_leaf.f k l a s lg = some (r, a', s') := by
  unfold spec_l01Cur_leaf.f spec_l11Log.f
  by_cases h1 : 0 ≤ lg ∧ lg ≤ 6
  · rw [if_pos (show lg ≥ 0 from h1.1), decide_eq_true h1.2]
    simp only [Option.bind_some, if_true]
    obtain ⟨r, a', s', e, o⟩ := once_ok hl h (by omega) 9
    rw [e]
    simp only [Option.bind_some]
    cases r with
    | true =>
      rw [if_pos rfl]
      obtain ⟨r2, a2, s2, e2, _, o2⟩ := raw_ok hl o (by omega)
      rw [e2]
      exact ⟨_, _, _, rfl⟩
    | false =>
      obtain ⟨n, rfl⟩ := Int.eq_ofNat_of_zero_le h1.1
      rw [if_neg (by decide), pow_k k n hk (by omega)]
      simp only [Option.bind_some]
      obtain ⟨q, a2, s2, e2, _, _, _, o2⟩ := pick_ok hl o (by omega) ((2 ^ n : Nat) : Int)
      rw [e2]
      exact ⟨_, _, _, rfl⟩
  · have e : (if lg ≥ 0 then (some (decide (lg ≤ 6))) else (some false)) = some false := by
      by_cases h2 : lg ≥ 0
      · rw [if_pos h2, decide_eq_false (by omega)]
      · rw [if_neg h2]
    rw [e]
    simp only [Option.bind_some, Bool.false_eq_true, if_false]
    obtain ⟨r2, a2, s2, e2, _, o2⟩ := raw_ok hl h (by omega)
    rw [e2]
    exact ⟨_, _, _, rfl⟩
theorem drawEvict_ok {l : List Int} (hl : Bytes l) : ∃ L log width leaf, spec_DrawEvictPlan.f 300 l = some (L, log, width, leaf) ∧ L.length ≤ 200 := by
  obtain ⟨s0, e0, o0⟩ := open_ok hl
  obtain ⟨w, log, width, a1, s1, e1, hw, o1⟩ := stash_ok hl o0 (by omega) 300 (by omega)
  obtain ⟨r, a2, s2, e2⟩ := leafd_ok hl o1 (by omega) log 300 (by omega)
  refine ⟨w, log, width, r, ?_, hw⟩
  unfold spec_DrawEvictPlan.f
  rw [e0, Option.bind_some]
  dsimp only
  rw [e1, Option.bind_some]
  dsimp only
  rw [e2, Option.bind_some]
theorem good_of (xs : List S26) (log width : Int) : ∀ (d i : Nat), allFrom xs log width d i = true → ∀ j, i ≤ j → j < i + d → goodAt xs log width j = true
  | 0, i, _, j, h1, h2 => by omega
  | d + 1, i, h, j, h1, h2 => by
    rw [allFrom_succ, Bool.and_eq_true] at h
    by_cases e : j = i
    · subst e; exact h.1
    · exact good_of xs log width d (i + 1) h.2 j (by omega) (by omega)
theorem stash_facts (L : List S26) (log width : Int) (h : blocksB L log width = true) : (0 ≤ log ∧ log ≤ 6) ∧ (∀ x ∈ L, isL log x.f1 = true ∧ x.f2.length ≤ 200) ∧ (L.map fun x => x.f0).Nodup := by
  unfold blocksB frameB at h
  rw [Bool.and_eq_true, decide_eq_true_eq] at h
  obtain ⟨⟨f1, f2, f3, f4⟩, hg⟩ := h
  have good := good_of L log width L.length 0 hg
  have hstep : ∀ i, i + 1 < L.length → (rd_T26 L (i : Int)).f0 < (rd_T26 L ((i + 1 : Nat) : Int)).f0 := by
    intro i hi
    have := good (i + 1) (by omega) (by omega)
    unfold goodAt at this
    rw [Bool.and_eq_true, Bool.or_eq_true] at this
    have h2 := this.2
    rw [Nat.add_sub_cancel] at h2
    rcases h2 with h2 | h2
    · have := of_decide_eq_true h2; omega
    · simp only [Bool.not_eq_true', decide_eq_false_iff_not] at h2
      omega
  have hlt : ∀ d i, i + d + 1 < L.length → (rd_T26 L (i : Int)).f0 < (rd_T26 L ((i + d + 1 : Nat) : Int)).f0 := by
    intro d
    induction d with
    | zero => intro i hi; exact hstep i hi
    | succ d ih =>
      intro i hi
      have h1 := ih i (by omega)
      have h2 := hstep (i + d + 1) (by omega)
      rw [show i + (d + 1) + 1 = i + d + 1 + 1 from by omega]
      omega
  refine ⟨⟨f1, f2⟩, ?_, ?_⟩
  · intro x hx
    obtain ⟨i, hi, rfl⟩ := List.getElem_of_mem hx
    have := good i (by omega) (by omega)
    unfold goodAt blockB at this
    rw [rd26 L i hi, Bool.and_eq_true, Bool.and_eq_true, Bool.and_eq_true, beq_iff_eq] at this
    exact ⟨this.1.2.1, by have := this.1.2.2; omega⟩
  · rw [List.Nodup, List.pairwise_map, List.pairwise_iff_getElem]
    intro i j hi hj hij
    have := hlt (j - i - 1) i (by omega)
    rw [show i + (j - i - 1) + 1 = j from by omega, rd26 L i hi, rd26 L j hj] at this
    omega
theorem datI_le (L : List S26) (h : ∀ x ∈ L, x.f2.length ≤ 200) : datI L ≤ 200 * L.length := by
  induction L with
  | nil => exact Nat.le_refl _
  | cons x L ih =>
    rw [datI_cons, List.length_cons]
    have h1 := h x (by simp)
    have h2 := ih (fun y hy => h y (by simp [hy]))
    omega
theorem spec_stash (L : List S26) (log width : Int) (hl : L.length ≤ 200) : Ev fun k => spec_StashOk.f k L log width = some (decide (L.length ≤ 128) && blocksB L log width) := Ev.from 1000 fun k hk => by
  unfold spec_StashOk.f
  by_cases c : (L.length : Int) ≤ 128
  · rw [if_pos c, blocks_spec L (by omega) log width k (by omega), Option.bind_some, decide_eq_true (show L.length ≤ 128 by omega)]; rfl
  · rw [if_neg c, decide_eq_false (show ¬ L.length ≤ 128 by omega)]; rfl
theorem impl_stash (L : List S26) (log width : Int) (hl : L.length ≤ 200) : Ev fun k => impl_isStash.f k L log width = some (decide (L.length ≤ 128) && blocksB L log width) := Ev.from 1000 fun k hk => by
  unfold impl_isStash.f
  by_cases c : (L.length : Int) ≤ 128
  · rw [if_pos c, blocks_impl L (by omega) log width k (by omega), Option.bind_some, decide_eq_true (show L.length ≤ 128 by omega)]; rfl
  · rw [if_neg c, decide_eq_false (show ¬ L.length ≤ 128 by omega)]; rfl
/-- Where stash or leaf is refused, both plans are empty. -/
theorem plan_no (L : List S26) (log width leaf : Int) (hl : L.length ≤ 200) (h : ¬ ((decide (L.length ≤ 128) && blocksB L log width) = true ∧ isL log leaf = true)) :
    Ev fun k => spec_EvictPlan.f k L log width leaf = some [] ∧ impl_EvictPlan.f k L log width leaf = some [] := by
  refine (((spec_stash L log width hl).and (impl_stash L log width hl)).and (Ev.from (P := fun k => 20 ≤ k) 20 fun k hk => hk)).imp fun k hk => ?_
  unfold spec_EvictPlan.f impl_EvictPlan.f
  rw [hk.1.1, hk.1.2, Option.bind_some, Option.bind_some]
  by_cases c : (decide (L.length ≤ 128) && blocksB L log width) = true
  · have hlf : isL log leaf = false := by
      cases e : isL log leaf with
      | false => rfl
      | true => exact absurd ⟨c, e⟩ h
    rw [if_pos c, if_pos c, leaf_spec k hk.2, leaf_impl, hlf]
    exact ⟨rfl, rfl⟩
  · rw [if_neg c, if_neg c]
    exact ⟨rfl, rfl⟩
theorem plan_yes (L : List S26) (n : Nat) (width leaf : Int) (h128 : L.length ≤ 128) (hb : blocksB L (n : Int) width = true) (hlf : isL (n : Int) leaf = true) (hn : n ≤ 6) (hdat : L.length + datI L ≤ 100000) (hnd : (L.map fun x => x.f0).Nodup)
    (hm : ∀ x ∈ L, ∀ k, 200 ≤ k → spec_Meet.f k (n : Int) x.f1 leaf = some (meetV (n : Int) x.f1 leaf)) :
    Ev fun k => (spec_EvictPlan.f k L (n : Int) width leaf = some (evLevels id (n : Int) leaf (n + 1) L []).1 ∧ impl_EvictPlan.f k L (n : Int) width leaf = some (evLevels id (n : Int) leaf (n + 1) L []).1) ∧ impl_EvictRest.f k L (n : Int) width leaf = some (evLevels id (n : Int) leaf (n + 1) L []).2 := by
  have hst : (decide (L.length ≤ 128) && blocksB L (n : Int) width) = true := by rw [decide_eq_true h128, hb]; rfl
  have hl0 := sp_l0 L h128 hdat hnd (n : Int) leaf hm (n + 1) L [] (by omega) (List.Sublist.refl _) (by simp; omega)
  rw [show ((n + 1 : Nat) : Int) - 1 = (n : Int) from by omega] at hl0
  refine ((((spec_stash L (n : Int) width (by omega)).and (impl_stash L (n : Int) width (by omega))).and hl0).and (Ev.from (P := fun k => 200 ≤ k) 200 fun k hk => hk)).imp fun k hk => ?_
  have hk2 := hk.2
  have hev : impl_evict.f L (n : Int) leaf = some (evLevels id (n : Int) leaf (n + 1) L []) := by
    unfold impl_evict.f
    rw [if_pos ⟨by omega, by omega, by omega⟩, show ((n : Int) + 1).toNat = n + 1 from by omega]
  have hcl : impl_cloneBlocks.f L = some L := by
    unfold impl_cloneBlocks.f
    rw [if_pos ⟨by omega, fun x hx => by
      obtain ⟨j, hj, rfl⟩ := List.getElem_of_mem hx
      have := data_le L j hj
      omega⟩]
  unfold spec_EvictPlan.f impl_EvictPlan.f impl_EvictRest.f
  rw [hk.1.1.1, hk.1.1.2, Option.bind_some, Option.bind_some, Option.bind_some, if_pos hst, if_pos hst, if_pos hst, leaf_spec k (by omega), leaf_impl, hlf, Option.bind_some, Option.bind_some, Option.bind_some, if_pos rfl, if_pos rfl, if_pos rfl, copy_eq L (by omega) k (by omega), Option.bind_some, hk.1.2, hcl, Option.bind_some, hev, Option.bind_some, Option.bind_some]
  exact ⟨⟨rfl, rfl⟩, rfl⟩
theorem FnEvicted : laws_FnEvicted.Pure := by
  intro l0 hlen hsz hwf
  by_cases c : (l0.length : Int) > 1048576
  · refine ⟨0, ?_⟩
    unfold laws_FnEvicted.f laws_big.f
    rw [Option.bind_some, decide_eq_true c, if_pos rfl]
  · have hl : Bytes l0 := bytes_of (by omega) hwf
    obtain ⟨L, log, width, leaf, hdr, hL⟩ := drawEvict_ok hl
    have hdraw : Ev fun k => spec_DrawEvictPlan.f k l0 = some (L, log, width, leaf) := ⟨300, fun k hk => at_rounds (g := fun k => spec_DrawEvictPlan.f k l0) (fun k => spec_DrawEvictPlan.mono _ k) hk hdr⟩
    have hst := spec_stash L log width hL
    by_cases v : (decide (L.length ≤ 128) && blocksB L log width) = true ∧ isL log leaf = true
    · obtain ⟨v1, v2⟩ := v
      rw [Bool.and_eq_true, decide_eq_true_eq] at v1
      obtain ⟨h128, hb⟩ := v1
      obtain ⟨⟨g0, g6⟩, hfx, hnd⟩ := stash_facts L log width hb
      obtain ⟨n, rfl⟩ := Int.eq_ofNat_of_zero_le g0
      have hn : n ≤ 6 := by omega
      have hdat := datI_le L (fun x hx => (hfx x hx).2)
      obtain ⟨hmm, hm0, _, ns, hns, hnl, _⟩ := meet_facts (n : Int) leaf leaf v2 v2
      have hmx : ∀ x ∈ L, (∀ k, 100 ≤ k → spec_Meet.f k (n : Int) x.f1 leaf = some (meetV (n : Int) x.f1 leaf)) ∧ meetV (n : Int) x.f1 leaf ≤ (n : Int) ∧ ∀ w : Int, 0 ≤ w → w ≤ meetV (n : Int) x.f1 leaf → ∀ k, 100 ≤ k → spec_OnPath.f k (n : Int) (rd ns w) x.f1 = some true := by
        intro x hx
        obtain ⟨a1, _, a3, ns', b1, _, b3⟩ := meet_facts (n : Int) x.f1 leaf (hfx x hx).1 v2
        have e : ns' = ns := Option.some.inj ((b1 20 (Nat.le_refl _)).symm.trans (hns 20 (Nat.le_refl _)))
        subst e
        exact ⟨a1, a3, b3⟩
      have hm : ∀ x ∈ L, ∀ k, 200 ≤ k → spec_Meet.f k (n : Int) x.f1 leaf = some (meetV (n : Int) x.f1 leaf) := fun x hx k hk => (hmx x hx).1 k (by omega)
      have hp := plan_yes L n width leaf h128 hb v2 hn (by omega) hnd hm
      obtain ⟨Q, K, tkn, e1, e2, e3, e4, e5, e6⟩ := ev_spec (n : Int) leaf (n + 1) L [] hnd
      rw [e1] at hp
      rw [List.nil_append] at hp
      have hlq : Q.length = tkn.length := by have := congrArg List.length e2; rw [List.length_map, List.length_map] at this; exact this
      have hlk : tkn.length + K.length = L.length := by have := e3.length_eq; rw [List.length_append] at this; exact this
      have hQ : Plan L n leaf Q := ⟨by
        have h1 : ((tkn ++ K).map fun x => x.f0).Nodup := (e3.map _).nodup_iff.2 hnd
        rw [List.map_append] at h1
        rw [e2]
        exact (List.nodup_append.1 h1).1, fun p hp2 => by
        obtain ⟨a, b, d⟩ := e4 p hp2
        exact ⟨a, by omega, d⟩, e5, fun x hx l h0 h1 => e6 x hx l h0 (by omega)⟩
      have hrest : Ev fun k => (impl_EvictRest.f k L (n : Int) width leaf).bind (fun t461 => some ((t461.length : Int) == (wrap64 ((L.length : Int) - (Q.length : Int))))) = some true := hp.imp fun k hk => by
        rw [hk.2, Option.bind_some]
        have e : wrap64 ((L.length : Int) - (Q.length : Int)) = (K.length : Int) := by unfold wrap64; omega
        rw [e]
        simp
      have h1 := ev_l1 (width := width) hQ hn h128 (by omega) hnd ns hns hnl (fun x hx => (hmx x hx).2.2) hm (fun x hx => (hmx x hx).2.1) hrest Q.length 0 (by omega) (by omega)
      rw [List.take_zero] at h1
      have h0 := ev_l0 (width := width) (leaf := leaf) (Q := Q) h128 (usedOf n []) (n : Int) h1 L.length 0 (by omega) (by omega)
      rw [List.replicate_zero, List.nil_append, Nat.sub_zero] at h0
      have hus : List.replicate (n + 1) (0 : Int) = usedOf n [] := by
        unfold usedOf cnt
        simp [List.map_const']
      obtain ⟨K0, h⟩ := ((((hdraw.and hst).and hp).and h0).and (Ev.from (P := fun k => 200 ≤ k) 200 fun k hk => hk))
      obtain ⟨⟨⟨⟨k1, k2⟩, k3⟩, k4⟩, k5⟩ := h K0 (Nat.le_refl _)
      refine ⟨K0, ?_⟩
      unfold laws_FnEvicted.f laws_big.f
      rw [Option.bind_some, decide_eq_false c, if_neg (by decide), k1, Option.bind_some]
      dsimp only
      rw [k3.1.1, Option.bind_some, k3.1.2, Option.bind_some, if_pos rfl, k2, Option.bind_some, decide_eq_true h128, hb, if_pos (show (true && true) = true from rfl), hmm K0 (by omega), Option.bind_some, if_neg (by omega)]
      rw [show wrap64 ((n : Int) + 1) = ((n + 1 : Nat) : Int) from wr n (by omega), Int.toNat_natCast, Int.toNat_natCast, if_pos (by omega), if_pos (by omega), if_pos (by omega), if_pos (by omega), hus]
      exact k4
    · have hp := plan_no L log width leaf hL v
      obtain ⟨K0, h⟩ := (((hdraw.and hst).and hp).and (Ev.from (P := fun k => 200 ≤ k) 200 fun k hk => hk))
      obtain ⟨⟨⟨k1, k2⟩, k3⟩, k5⟩ := h K0 (Nat.le_refl _)
      refine ⟨K0, ?_⟩
      unfold laws_FnEvicted.f laws_big.f
      rw [Option.bind_some, decide_eq_false c, if_neg (by decide), k1, Option.bind_some]
      dsimp only
      rw [k3.1, Option.bind_some, k3.2, Option.bind_some, if_pos rfl, k2, Option.bind_some]
      by_cases c1 : (decide (L.length ≤ 128) && blocksB L log width) = true
      · have hlf : isL log leaf = false := by
          cases e : isL log leaf with
          | false => rfl
          | true => exact absurd ⟨c1, e⟩ v
        have hmeet : spec_Meet.f K0 log leaf leaf = some (-1) := by
          unfold spec_Meet.f
          rw [leaf_spec K0 (by omega), hlf, Option.bind_some]
          rfl
        rw [if_pos c1, hmeet, Option.bind_some, if_pos (by decide)]
        rfl
      · rw [if_neg c1]
        rfl

end Go.Proofs.Ytggfndobfpmoaaa.Pure

/- For every node, log and width the program's NodeOf tells the bytes that the specification's NodeOf tells, and marks in the bytes or the node leave one another unchanged. Conditions: none. -/
import Derived.Test.YtggfndobfpmoaaaOpenFnExactNodeOf
namespace Go.Proofs.Ytggfndobfpmoaaa.Pure
open Go.RowKit Go.Proofs.Ytggfndobfpmoaaa.OpenFnExactNodeOf Go.Proofs.Ytggfndobfpmoaaa.RowOpen Go.Proofs.Ytggfndobfpmoaaa.PFnExactNodeOf Go.Proofs.YtggfndobfpmoaaaW.PrintWords Go.Proofs.YtggfndobfpmoaaaW.PrintLast Go.Proofs.YtggfndobfpmoaaaW.PrintMore
set_option linter.unusedVariables false
set_option linter.unusedSimpArgs false

theorem pow_all : ∀ l : Nat, l < 7 → spec_l02Pow.f 20 (l : Int) = some ((2 ^ l : Nat) : Int) ∧ wrap64 ((shl .i64 1 (l : Int)) - 1) = ((2 ^ l : Nat) : Int) - 1 := by decide +kernel
def isL (a0 a1 : Int) : Bool := decide (0 ≤ a0 ∧ a0 ≤ 6 ∧ 0 ≤ a1 ∧ a1 < ((2 ^ a0.toNat : Nat) : Int))
theorem pow_k (k l : Nat) (hk : 20 ≤ k) (hl : l < 7) : spec_l02Pow.f k (l : Int) = some ((2 ^ l : Nat) : Int) :=
  at_rounds (g := fun k => spec_l02Pow.f k (l : Int)) (fun k => spec_l02Pow.mono (l : Int) k) hk (pow_all l hl).1
theorem leaf_spec (k : Nat) (hk : 20 ≤ k) (a0 a1 : Int) : spec_l11Leaf.f k a0 a1 = some (isL a0 a1) := by
  unfold spec_l11Leaf.f spec_l11Log.f isL
  by_cases h1 : 0 ≤ a0 ∧ a0 ≤ 6
  · obtain ⟨l, rfl⟩ := Int.eq_ofNat_of_zero_le h1.1
    have e1 := pow_k k l hk (by omega)
    have d1 : (l : Int) ≥ 0 := by omega
    have d2 : decide ((l : Int) ≤ 6) = true := decide_eq_true (by omega)
    rw [if_pos d1, d2, e1, Int.toNat_natCast]
    simp only [Option.bind_some, if_true]
    by_cases h3 : a1 ≥ 0
    · rw [if_pos h3]; congr 1; apply decide_eq_decide.2; omega
    · rw [if_neg h3]; congr 1; symm; apply decide_eq_false; omega
  · have e : decide (0 ≤ a0 ∧ a0 ≤ 6 ∧ 0 ≤ a1 ∧ a1 < ((2 ^ a0.toNat : Nat) : Int)) = false := decide_eq_false (by omega)
    rw [e]
    by_cases h2 : a0 ≥ 0
    · have h3 : decide (a0 ≤ 6) = false := decide_eq_false (by omega)
      rw [if_pos h2, h3]; rfl
    · rw [if_neg h2]; rfl
theorem leaf_impl (a0 a1 : Int) : impl_isLeaf.f a0 a1 = some (isL a0 a1) := by
  unfold impl_isLeaf.f impl_isLog.f impl_within.f isL
  by_cases h1 : 0 ≤ a0 ∧ a0 ≤ 6
  · obtain ⟨l, rfl⟩ := Int.eq_ofNat_of_zero_le h1.1
    have e2 := (pow_all l (by omega)).2
    have d1 : (l : Int) ≥ 0 := by omega
    have d2 : decide ((l : Int) ≤ 6) = true := decide_eq_true (by omega)
    rw [if_pos d1, d2, Int.toNat_natCast]
    simp only [Option.bind_some, if_true]
    rw [if_pos h1.1, e2]
    by_cases h3 : a1 ≥ 0
    · rw [if_pos h3]
      show some _ = some _
      congr 1; apply decide_eq_decide.2; omega
    · rw [if_neg h3]
      show some _ = some _
      congr 1; symm; apply decide_eq_false; omega
  · have e : decide (0 ≤ a0 ∧ a0 ≤ 6 ∧ 0 ≤ a1 ∧ a1 < ((2 ^ a0.toNat : Nat) : Int)) = false := decide_eq_false (by omega)
    rw [e]
    by_cases h2 : a0 ≥ 0
    · have h3 : decide (a0 ≤ 6) = false := decide_eq_false (by omega)
      rw [if_pos h2, h3]; rfl
    · rw [if_neg h2]; rfl
theorem take_set_ByteS (x l : List Int) (i : Nat) (hi : i < l.length) (hx : x.length = l.length) (h : x.take i = l.take i) : (x.set i (rd l (i : Int))).take (i + 1) = l.take (i + 1) := by
  have hr : rd l (i : Int) = l[i] := by simp [rd, hi]
  rw [hr, List.take_add_one, List.take_add_one, List.take_set_of_le (Nat.le_refl _), h]
  simp [hi, hx]
theorem toByteS_l0 (l : List Int) (hl : l.length ≤ 1048576) : ∀ (d k i : Nat) (x : List Int), x.length = l.length → i ≤ l.length → l.length - i = d → d < k → x.take i = l.take i → laws_toByteS.l0 k l x (i : Int) = some l := by
  intro d
  induction d with
  | zero =>
    intro k i x hx hi hd hk h
    obtain ⟨k, rfl⟩ : ∃ m, k = m + 1 := ⟨k - 1, by omega⟩
    simp only [laws_toByteS.l0]
    rw [if_neg (by omega)]
    rw [List.take_of_length_le (by omega), List.take_of_length_le (by omega)] at h
    rw [h]
  | succ d ih =>
    intro k i x hx hi hd hk h
    obtain ⟨k, rfl⟩ : ∃ m, k = m + 1 := ⟨k - 1, by omega⟩
    simp only [laws_toByteS.l0]
    rw [if_pos (by omega), if_pos (by omega), if_pos (by omega), show wrap64 ((i : Int) + 1) = ((i + 1 : Nat) : Int) from by unfold wrap64; omega, Int.toNat_natCast]
    exact ih k (i + 1) _ (by simp [hx]) (by omega) (by omega) (by omega) (take_set_ByteS x l i (by omega) hx h)
theorem toByteS_eq (l : List Int) (hl : l.length ≤ 1048576) (k : Nat) (hk : l.length < k) : laws_toByteS.f k l = some l := by
  unfold laws_toByteS.f
  rw [if_pos (by omega), if_pos (by omega)]
  exact toByteS_l0 l hl l.length k 0 _ (by simp) (by omega) (by omega) hk rfl
theorem eqByteS_l0 (a : List Int) (ha : a.length ≤ 1048576) : ∀ (d k i : Nat), i ≤ a.length → a.length - i = d → d < k → laws_eqByteS.l0 k a a (i : Int) = some true := by
  intro d
  induction d with
  | zero =>
    intro k i hi hd hk
    obtain ⟨k, rfl⟩ : ∃ m, k = m + 1 := ⟨k - 1, by omega⟩
    simp only [laws_eqByteS.l0]
    rw [if_neg (by omega)]
  | succ d ih =>
    intro k i hi hd hk
    obtain ⟨k, rfl⟩ : ∃ m, k = m + 1 := ⟨k - 1, by omega⟩
    simp only [laws_eqByteS.l0]
    rw [if_pos (by omega), if_pos (by omega), if_pos (by omega), if_pos trivial, show wrap64 ((i : Int) + 1) = ((i + 1 : Nat) : Int) from by unfold wrap64; omega]
    exact ih k (i + 1) (by omega) (by omega) (by omega)
theorem eqByteS_eq (a : List Int) (ha : a.length ≤ 1048576) (k : Nat) (hk : a.length < k) : laws_eqByteS.f k a a = some true := by
  unfold laws_eqByteS.f
  rw [if_pos rfl]
  exact eqByteS_l0 a ha a.length k 0 (by omega) (by omega) hk
def blockB (id leaf len log width : Int) : Bool := decide (0 ≤ log ∧ log ≤ 6 ∧ 1 ≤ width ∧ width ≤ 200 ∧ 0 ≤ id ∧ id ≤ 255) && (isL log leaf && (len == width))
theorem block_spec (k : Nat) (hk : 20 ≤ k) (id leaf : Int) (data : List Int) (log width : Int) : spec_BlockOk.f k id leaf data log width = some (blockB id leaf (data.length : Int) log width) := by
  unfold spec_BlockOk.f spec_l12Frame.f spec_l11Log.f blockB
  rw [leaf_spec k hk]
  by_cases h1 : log ≥ 0
  · rw [if_pos h1]
    simp only [Option.bind_some]
    by_cases h2 : log ≤ 6
    · rw [if_pos (by simpa using h2)]
      by_cases h3 : width ≥ 1
      · rw [if_pos h3]
        simp only [Option.bind_some]
        by_cases h4 : width ≤ 200
        · rw [if_pos (by simpa using h4)]
          by_cases h5 : id ≥ 0
          · rw [if_pos h5]
            by_cases h6 : id ≤ 255
            · rw [if_pos h6, decide_eq_true (show 0 ≤ log ∧ log ≤ 6 ∧ 1 ≤ width ∧ width ≤ 200 ∧ 0 ≤ id ∧ id ≤ 255 from by omega)]
              cases isL log leaf <;> simp
            · rw [if_neg h6, decide_eq_false (show ¬ (0 ≤ log ∧ log ≤ 6 ∧ 1 ≤ width ∧ width ≤ 200 ∧ 0 ≤ id ∧ id ≤ 255) from by omega)]; rfl
          · rw [if_neg h5, decide_eq_false (show ¬ (0 ≤ log ∧ log ≤ 6 ∧ 1 ≤ width ∧ width ≤ 200 ∧ 0 ≤ id ∧ id ≤ 255) from by omega)]; rfl
        · rw [if_neg (by simpa using h4), decide_eq_false (show ¬ (0 ≤ log ∧ log ≤ 6 ∧ 1 ≤ width ∧ width ≤ 200 ∧ 0 ≤ id ∧ id ≤ 255) from by omega)]; rfl
      · rw [if_neg h3, decide_eq_false (show ¬ (0 ≤ log ∧ log ≤ 6 ∧ 1 ≤ width ∧ width ≤ 200 ∧ 0 ≤ id ∧ id ≤ 255) from by omega)]; rfl
    · rw [if_neg (by simpa using h2), decide_eq_false (show ¬ (0 ≤ log ∧ log ≤ 6 ∧ 1 ≤ width ∧ width ≤ 200 ∧ 0 ≤ id ∧ id ≤ 255) from by omega)]; rfl
  · rw [if_neg h1, decide_eq_false (show ¬ (0 ≤ log ∧ log ≤ 6 ∧ 1 ≤ width ∧ width ≤ 200 ∧ 0 ≤ id ∧ id ≤ 255) from by omega)]; rfl
theorem block_impl (id leaf : Int) (data : List Int) (log width : Int) : impl_isBlock.f id leaf data log width = some (blockB id leaf (data.length : Int) log width) := by
  unfold impl_isBlock.f blockB
  rw [leaf_impl]
  cases hL : isL log leaf with
  | false => simp
  | true =>
    simp only [isL, decide_eq_true_eq] at hL
    simp only [Option.bind_some, if_true]
    unfold impl_within.f
    by_cases h3 : width ≥ 1
    · rw [if_pos h3]
      simp only [Option.bind_some]
      by_cases h4 : width ≤ 200
      · rw [if_pos (by simpa using h4)]
        by_cases h5 : id ≥ 0
        · rw [if_pos h5]
          simp only [Option.bind_some]
          by_cases h6 : id ≤ 255
          · rw [if_pos (by simpa using h6), decide_eq_true (show 0 ≤ log ∧ log ≤ 6 ∧ 1 ≤ width ∧ width ≤ 200 ∧ 0 ≤ id ∧ id ≤ 255 from by omega)]
            simp
          · rw [if_neg (by simpa using h6), decide_eq_false (show ¬ (0 ≤ log ∧ log ≤ 6 ∧ 1 ≤ width ∧ width ≤ 200 ∧ 0 ≤ id ∧ id ≤ 255) from by omega)]; rfl
        · rw [if_neg h5, decide_eq_false (show ¬ (0 ≤ log ∧ log ≤ 6 ∧ 1 ≤ width ∧ width ≤ 200 ∧ 0 ≤ id ∧ id ≤ 255) from by omega)]; rfl
      · rw [if_neg (by simpa using h4), decide_eq_false (show ¬ (0 ≤ log ∧ log ≤ 6 ∧ 1 ≤ width ∧ width ≤ 200 ∧ 0 ≤ id ∧ id ≤ 255) from by omega)]; rfl
    · rw [if_neg h3, decide_eq_false (show ¬ (0 ≤ log ∧ log ≤ 6 ∧ 1 ≤ width ∧ width ≤ 200 ∧ 0 ≤ id ∧ id ≤ 255) from by omega)]; rfl
def cv (x : S72) : S26 := ⟨x.f0, x.f1, x.f2⟩
def dat (l : List S72) : Nat := (l.map fun x => x.f2.length).sum
theorem dat_cons (x : S72) (l : List S72) : dat (x :: l) = x.f2.length + dat l := by simp [dat]
theorem dat_mem : ∀ (l : List S72) (i : Nat) (h : i < l.length), (l[i]).f2.length ≤ dat l
  | x :: l, 0, _ => by rw [dat_cons]; simp
  | x :: l, i + 1, h => by
    rw [dat_cons]
    have := dat_mem l i (by simpa using h)
    simp only [List.getElem_cons_succ]
    omega
theorem rd72 (l : List S72) (i : Nat) (h : i < l.length) : rd_T72 l (i : Int) = l[i] := by simp [rd_T72, h]
theorem rd26 (l : List S26) (i : Nat) (h : i < l.length) : rd_T26 l (i : Int) = l[i] := by simp [rd_T26, h]
theorem wr (i : Nat) (h : i ≤ 2000000) : wrap64 ((i : Int) + 1) = ((i + 1 : Nat) : Int) := by unfold wrap64; omega
theorem szBlock_eq (x : S72) (left : Int) (h0 : 0 ≤ left) (h1 : left ≤ 1048576) (hx : x.f2.length ≤ maxLen) : laws_szBlock.f x.f0 x.f1 x.f2 left = some (if left < (x.f2.length : Int) then -1 else left - (x.f2.length : Int)) := by
  unfold maxLen at hx
  unfold laws_szBlock.f laws_szByteS.f
  rw [show wrap64 (left - (x.f2.length : Int)) = left - (x.f2.length : Int) from by unfold wrap64; omega]
  by_cases c : left < (x.f2.length : Int)
  · rw [if_pos c, if_pos (by omega)]; rfl
  · rw [if_neg c, if_neg (by omega)]
    simp only [Option.bind_some]
    rw [if_neg (by omega)]
theorem szBlockS_l0 (l : List S72) (hl : ∀ y, y ∈ l → y.f2.length ≤ maxLen) (hlen : l.length ≤ 1048576) : ∀ (d k i : Nat) (left : Int), i ≤ l.length → l.length - i = d → d < k → 0 ≤ left → left ≤ 1048576 →
    laws_szBlockS.l0 k l left (i : Int) = some (if left < (dat (l.drop i) : Int) then -1 else left - (dat (l.drop i) : Int)) := by
  intro d
  induction d with
  | zero =>
    intro k i left hi hd hk h0 h1
    obtain ⟨k, rfl⟩ : ∃ m, k = m + 1 := ⟨k - 1, by omega⟩
    simp only [laws_szBlockS.l0]
    rw [if_neg (by omega), List.drop_eq_nil_of_le (by omega)]
    have e : dat [] = 0 := rfl
    rw [e, if_neg (by omega)]
    simp
  | succ d ih =>
    intro k i left hi hd hk h0 h1
    obtain ⟨k, rfl⟩ : ∃ m, k = m + 1 := ⟨k - 1, by omega⟩
    have hlt : i < l.length := by omega
    simp only [laws_szBlockS.l0]
    rw [if_pos (by omega), if_pos (by omega), rd72 l i hlt, szBlock_eq _ left h0 h1 (hl _ (List.getElem_mem hlt)), List.drop_eq_getElem_cons hlt, dat_cons]
    simp only [Option.bind_some]
    by_cases c : left < ((l[i]).f2.length : Int)
    · rw [if_pos c, if_pos (by omega), if_pos (by omega)]
    · rw [if_neg c, if_neg (by omega), wr i (by omega), ih k (i + 1) _ (by omega) (by omega) (by omega) (by omega) (by omega)]
      congr 1
      by_cases c2 : left - ((l[i]).f2.length : Int) < (dat (l.drop (i + 1)) : Int)
      · rw [if_pos c2, if_pos (by omega)]
      · rw [if_neg c2, if_neg (by omega)]; omega
theorem szBlockS_eq (l : List S72) (hl : l.length ≤ maxLen ∧ ∀ y, y ∈ l → ok72 y) (k : Nat) (hk : l.length < k) :
    laws_szBlockS.f k l 1048576 = some (if 1048576 < l.length + dat l then -1 else 1048576 - ((l.length + dat l : Nat) : Int)) := by
  have h1 := hl.1
  unfold maxLen at h1
  unfold laws_szBlockS.f
  rw [show wrap64 (1048576 - (l.length : Int)) = 1048576 - (l.length : Int) from by unfold wrap64; omega]
  by_cases c : 1048576 < l.length
  · rw [if_pos (by omega), if_pos (by omega)]
  · rw [if_neg (by omega)]
    have := szBlockS_l0 l (fun y hy => (hl.2 y hy).2.2.1) (by omega) l.length k 0 (1048576 - (l.length : Int)) (by omega) (by omega) hk (by omega) (by omega)
    rw [List.drop_zero] at this
    rw [show ((0 : Nat) : Int) = 0 from rfl] at this
    rw [this]
    congr 1
    by_cases c2 : 1048576 < l.length + dat l
    · rw [if_pos c2, if_pos (by omega)]
    · rw [if_neg c2, if_neg (by omega)]; omega
theorem toBlock_eq (x : S72) (hx : x.f2.length ≤ 1048576) (k : Nat) (hk : x.f2.length < k) : laws_toBlock.f k x.f0 x.f1 x.f2 = some (x.f0, x.f1, x.f2) := by
  unfold laws_toBlock.f
  rw [toByteS_eq _ hx _ hk]; rfl
theorem eqBlock_eq (x : S26) (hx : x.f2.length ≤ 1048576) (k : Nat) (hk : x.f2.length < k) : laws_eqBlock.f k x.f0 x.f1 x.f2 x.f0 x.f1 x.f2 = some true := by
  unfold laws_eqBlock.f
  rw [if_pos rfl, if_pos rfl, eqByteS_eq _ hx _ hk]; rfl
theorem take_setB (x : List S26) (l : List S72) (i : Nat) (hi : i < l.length) (hx : x.length = l.length) (h : x.take i = (l.map cv).take i) : (x.set i (cv l[i])).take (i + 1) = (l.map cv).take (i + 1) := by
  rw [List.take_add_one, List.take_add_one, List.take_set_of_le (Nat.le_refl _), h]
  simp [hi, hx]
theorem toBlockS_l0 (l : List S72) (hl : l.length + dat l ≤ 1048576) : ∀ (d k i : Nat) (x : List S26), x.length = l.length → i ≤ l.length → l.length - i = d → d + dat l < k → x.take i = (l.map cv).take i →
    laws_toBlockS.l0 k l x (i : Int) = some (l.map cv) := by
  intro d
  induction d with
  | zero =>
    intro k i x hx hi hd hk h
    obtain ⟨k, rfl⟩ : ∃ m, k = m + 1 := ⟨k - 1, by omega⟩
    simp only [laws_toBlockS.l0]
    rw [if_neg (by omega)]
    rw [List.take_of_length_le (by omega), List.take_of_length_le (by simp; omega)] at h
    rw [h]
  | succ d ih =>
    intro k i x hx hi hd hk h
    obtain ⟨k, rfl⟩ : ∃ m, k = m + 1 := ⟨k - 1, by omega⟩
    have hlt : i < l.length := by omega
    have hm := dat_mem l i hlt
    simp only [laws_toBlockS.l0]
    rw [if_pos (by omega), if_pos (by omega), rd72 l i hlt, toBlock_eq _ (by omega) _ (by omega)]
    simp only [Option.bind_some]
    rw [if_pos (by omega), wr i (by omega), Int.toNat_natCast]
    exact ih k (i + 1) _ (by simp [hx]) (by omega) (by omega) (by omega) (take_setB x l i hlt hx h)
theorem toBlockS_eq (l : List S72) (hl : l.length + dat l ≤ 1048576) (k : Nat) (hk : l.length + dat l < k) : laws_toBlockS.f k l = some (l.map cv) := by
  unfold laws_toBlockS.f
  rw [if_pos (by omega), if_pos (by omega)]
  exact toBlockS_l0 l hl l.length k 0 _ (by simp) (by omega) (by omega) hk rfl
theorem eqBlockS_l0 (l : List S72) (hl : l.length + dat l ≤ 1048576) : ∀ (d k i : Nat), i ≤ l.length → l.length - i = d → d + dat l < k → laws_eqBlockS.l0 k (l.map cv) (l.map cv) (i : Int) = some true := by
  intro d
  induction d with
  | zero =>
    intro k i hi hd hk
    obtain ⟨k, rfl⟩ : ∃ m, k = m + 1 := ⟨k - 1, by omega⟩
    simp only [laws_eqBlockS.l0]
    rw [if_neg (by rw [List.length_map]; omega)]
  | succ d ih =>
    intro k i hi hd hk
    obtain ⟨k, rfl⟩ : ∃ m, k = m + 1 := ⟨k - 1, by omega⟩
    have hlt : i < l.length := by omega
    have hm := dat_mem l i hlt
    have hlt' : i < (l.map cv).length := by simpa using hlt
    simp only [laws_eqBlockS.l0]
    have e : (l.map cv)[i] = cv l[i] := by simp
    rw [if_pos (by omega), if_pos (by omega), if_pos (by omega), rd26 _ i hlt', e, eqBlock_eq (cv l[i]) (by show (l[i]).f2.length ≤ _; omega) _ (by show (l[i]).f2.length < _; omega)]
    simp only [Option.bind_some, if_true]
    rw [wr i (by omega)]
    exact ih k (i + 1) (by omega) (by omega) (by omega)
theorem eqBlockS_eq (l : List S72) (hl : l.length + dat l ≤ 1048576) (k : Nat) (hk : l.length + dat l < k) : laws_eqBlockS.f k (l.map cv) (l.map cv) = some true := by
  unfold laws_eqBlockS.f
  rw [if_pos rfl]
  exact eqBlockS_l0 l hl l.length k 0 (by omega) (by omega) hk

/-! the blocks' own rule -/
def goodAt (xs : List S26) (log width : Int) (i : Nat) : Bool := blockB (rd_T26 xs (i : Int)).f0 (rd_T26 xs (i : Int)).f1 ((rd_T26 xs (i : Int)).f2.length : Int) log width && (decide (i = 0) || !decide ((rd_T26 xs ((i - 1 : Nat) : Int)).f0 ≥ (rd_T26 xs (i : Int)).f0))
def allFrom (xs : List S26) (log width : Int) : Nat → Nat → Bool
  | 0, _ => true
  | d + 1, i => goodAt xs log width i && allFrom xs log width d (i + 1)
theorem allFrom_succ (xs : List S26) (log width : Int) (d i : Nat) : allFrom xs log width (d + 1) i = (goodAt xs log width i && allFrom xs log width d (i + 1)) := rfl
def frameB (log width : Int) : Bool := decide (0 ≤ log ∧ log ≤ 6 ∧ 1 ≤ width ∧ width ≤ 200)
def blocksB (xs : List S26) (log width : Int) : Bool := frameB log width && allFrom xs log width xs.length 0
theorem frame_spec (log width : Int) : spec_l12Frame.f log width = some (frameB log width) := by
  unfold spec_l12Frame.f spec_l11Log.f frameB
  by_cases h1 : log ≥ 0
  · rw [if_pos h1]
    simp only [Option.bind_some]
    by_cases h2 : log ≤ 6
    · rw [if_pos (by simpa using h2)]
      by_cases h3 : width ≥ 1
      · rw [if_pos h3]; congr 1; apply decide_eq_decide.2; omega
      · rw [if_neg h3]; congr 1; symm; apply decide_eq_false; omega
    · rw [if_neg (by simpa using h2)]; congr 1; symm; apply decide_eq_false; omega
  · rw [if_neg h1]
    show some false = _
    congr 1; symm; apply decide_eq_false; omega
theorem frame_impl (log width : Int) : ((impl_isLog.f log).bind fun t => if t = true then ((impl_within.f width 1 200).bind fun u => some u) else some false) = some (frameB log width) := by
  unfold impl_isLog.f impl_within.f frameB
  by_cases h1 : log ≥ 0
  · rw [if_pos h1]
    simp only [Option.bind_some]
    by_cases h2 : log ≤ 6
    · rw [if_pos (by simpa using h2)]
      by_cases h3 : width ≥ 1
      · rw [if_pos h3]
        show some _ = some _
        congr 1; apply decide_eq_decide.2; omega
      · rw [if_neg h3]
        show some _ = some _
        congr 1; symm; apply decide_eq_false; omega
    · rw [if_neg (by simpa using h2)]; congr 1; symm; apply decide_eq_false; omega
  · rw [if_neg h1]
    show some false = _
    congr 1; symm; apply decide_eq_false; omega
theorem blocks_spec_l0 (xs : List S26) (hx : xs.length ≤ 1048576) (log width : Int) : ∀ (d k i : Nat), i ≤ xs.length → xs.length - i = d → d + 20 < k → spec_BlocksOk.l0 k xs log width (i : Int) = some (allFrom xs log width d i) := by
  intro d
  induction d with
  | zero =>
    intro k i hi hd hk
    obtain ⟨k, rfl⟩ : ∃ m, k = m + 1 := ⟨k - 1, by omega⟩
    simp only [spec_BlocksOk.l0]
    rw [if_neg (by omega)]; rfl
  | succ d ih =>
    intro k i hi hd hk
    obtain ⟨k, rfl⟩ : ∃ m, k = m + 1 := ⟨k - 1, by omega⟩
    simp only [spec_BlocksOk.l0]
    rw [if_pos (by omega), if_pos (by omega), block_spec k (by omega)]
    simp only [Option.bind_some]
    rw [wr i (by omega), ih k (i + 1) (by omega) (by omega) (by omega)]
    rw [allFrom_succ]
    unfold goodAt
    cases blockB (rd_T26 xs (i : Int)).f0 (rd_T26 xs (i : Int)).f1 ((rd_T26 xs (i : Int)).f2.length : Int) log width with
    | false => simp
    | true =>
      by_cases c : i = 0
      · subst c; simp
      · rw [if_pos rfl, if_pos (by omega), show wrap64 ((i : Int) - 1) = ((i - 1 : Nat) : Int) from by unfold wrap64; omega, if_pos (by omega), if_pos (by omega), decide_eq_false c]
        by_cases c2 : (rd_T26 xs ((i - 1 : Nat) : Int)).f0 ≥ (rd_T26 xs (i : Int)).f0
        · rw [if_pos c2, decide_eq_true c2]; rfl
        · rw [if_neg c2, decide_eq_false c2]; rfl
theorem blocks_impl_l0 (xs : List S26) (hx : xs.length ≤ 1048576) (log width : Int) : ∀ (d k i : Nat), i ≤ xs.length → xs.length - i = d → d + 20 < k → impl_areBlocks.l0 k xs log width xs (xs.length : Int) (i : Int) = some (allFrom xs log width d i && frameB log width) := by
  intro d
  induction d with
  | zero =>
    intro k i hi hd hk
    obtain ⟨k, rfl⟩ : ∃ m, k = m + 1 := ⟨k - 1, by omega⟩
    simp only [impl_areBlocks.l0]
    rw [if_neg (by omega), frame_impl]; rfl
  | succ d ih =>
    intro k i hi hd hk
    obtain ⟨k, rfl⟩ : ∃ m, k = m + 1 := ⟨k - 1, by omega⟩
    simp only [impl_areBlocks.l0]
    rw [if_pos (by omega), if_pos (by omega), if_pos (by omega), block_impl]
    simp only [Option.bind_some]
    rw [wr i (by omega), ih k (i + 1) (by omega) (by omega) (by omega)]
    rw [allFrom_succ]
    unfold goodAt
    cases blockB (rd_T26 xs (i : Int)).f0 (rd_T26 xs (i : Int)).f1 ((rd_T26 xs (i : Int)).f2.length : Int) log width with
    | false => simp
    | true =>
      by_cases c : i = 0
      · subst c; simp
      · rw [if_pos rfl, if_pos (by omega), show wrap64 ((i : Int) - 1) = ((i - 1 : Nat) : Int) from by unfold wrap64; omega, if_pos (by omega), if_pos (by omega), decide_eq_false c]
        by_cases c2 : (rd_T26 xs ((i - 1 : Nat) : Int)).f0 ≥ (rd_T26 xs (i : Int)).f0
        · rw [if_pos c2, decide_eq_true c2]; rfl
        · rw [if_neg c2, decide_eq_false c2]; rfl
theorem blocks_spec (xs : List S26) (hx : xs.length ≤ 1048576) (log width : Int) (k : Nat) (hk : xs.length + 20 < k) : spec_BlocksOk.f k xs log width = some (blocksB xs log width) := by
  unfold spec_BlocksOk.f blocksB
  have := blocks_spec_l0 xs hx log width xs.length k 0 (by omega) (by omega) hk
  rw [show ((0 : Nat) : Int) = 0 from rfl] at this
  rw [frame_spec, this]
  cases frameB log width <;> simp
theorem blocks_impl (xs : List S26) (hx : xs.length ≤ 1048576) (log width : Int) (k : Nat) (hk : xs.length + 20 < k) : impl_areBlocks.f k xs log width = some (blocksB xs log width) := by
  unfold impl_areBlocks.f blocksB
  have := blocks_impl_l0 xs hx log width xs.length k 0 (by omega) (by omega) hk
  rw [show ((0 : Nat) : Int) = 0 from rfl] at this
  rw [this, Bool.and_comm]
def mkB (a : Int) (n : Nat) : List Int := (List.range n).map fun (i : Nat) => (a + (i : Int)) % 256
theorem mkB_length (a : Int) (n : Nat) : (mkB a n).length = n := by simp [mkB]
theorem mkB_step (a : Int) (x : List Int) (n i : Nat) (hi : i < n) (hx : x.length = n) (h : x.take i = (mkB a n).take i) : (x.set i ((a + (i : Int)) % 256)).take (i + 1) = (mkB a n).take (i + 1) := by
  rw [List.take_add_one, List.take_add_one, List.take_set_of_le (Nat.le_refl _), h]
  simp [hi, hx, mkB]
theorem markB_l0 (a : Int) (n : Nat) (hn : n ≤ 1048576) (ha0 : 0 ≤ a) (ha : a ≤ 4194304) : ∀ (d k i : Nat) (x : List Int), x.length = n → i ≤ n → n - i = d → d < k → x.take i = (mkB a n).take i →
    laws_markByteS.l0 k x (a + (i : Int)) (i : Int) = some (a + (n : Int), mkB a n) := by
  intro d
  induction d with
  | zero =>
    intro k i x hx hi hd hk h
    obtain ⟨k, rfl⟩ : ∃ m, k = m + 1 := ⟨k - 1, by omega⟩
    simp only [laws_markByteS.l0]
    rw [if_neg (by omega)]
    rw [List.take_of_length_le (by omega), List.take_of_length_le (by rw [mkB_length]; omega)] at h
    rw [h, show i = n by omega]
  | succ d ih =>
    intro k i x hx hi hd hk h
    obtain ⟨k, rfl⟩ : ∃ m, k = m + 1 := ⟨k - 1, by omega⟩
    simp only [laws_markByteS.l0]
    rw [if_pos (by omega), if_pos (by omega), show wrap64 (a + (i : Int) + 1) = a + ((i + 1 : Nat) : Int) from by unfold wrap64; omega, show wrap64 ((i : Int) + 1) = ((i + 1 : Nat) : Int) from by unfold wrap64; omega, Int.toNat_natCast]
    exact ih k (i + 1) _ (by simp [hx]) (by omega) (by omega) (by omega) (mkB_step a x n i (by omega) hx h)
theorem markB_eq (a : Int) (l : List Int) (hl : l.length ≤ 1048576) (ha0 : 0 ≤ a) (ha : a ≤ 4194304) (k : Nat) (hk : l.length < k) : laws_markByteS.f k l a = some (a + (l.length : Int), mkB a l.length) := by
  unfold laws_markByteS.f
  have := markB_l0 a l.length hl ha0 ha l.length k 0 l rfl (by omega) (by omega) hk rfl
  simpa using this
theorem heldB_l0 (n : Nat) (hn : n ≤ 1048576) : ∀ (d k i : Nat), i ≤ n → n - i = d → d < k → laws_heldByteS.l0 k (mkB 1 n) (1 + (i : Int)) (i : Int) = some (1 + (n : Int)) := by
  intro d
  induction d with
  | zero =>
    intro k i hi hd hk
    obtain ⟨k, rfl⟩ : ∃ m, k = m + 1 := ⟨k - 1, by omega⟩
    simp only [laws_heldByteS.l0]
    rw [if_neg (by rw [mkB_length]; omega), show i = n by omega]
  | succ d ih =>
    intro k i hi hd hk
    obtain ⟨k, rfl⟩ : ∃ m, k = m + 1 := ⟨k - 1, by omega⟩
    simp only [laws_heldByteS.l0]
    have e : rd (mkB 1 n) (i : Int) = (1 + (i : Int)) % 256 := by
      have : i < n := by omega
      simp [rd, mkB, this]
    rw [if_pos (by rw [mkB_length]; omega), if_pos (by omega), if_pos e, show wrap64 (1 + (i : Int) + 1) = 1 + ((i + 1 : Nat) : Int) from by unfold wrap64; omega, show wrap64 ((i : Int) + 1) = ((i + 1 : Nat) : Int) from by unfold wrap64; omega]
    exact ih k (i + 1) (by omega) (by omega) (by omega)
theorem heldB_eq (n : Nat) (hn : n ≤ 1048576) (k : Nat) (hk : n < k) : laws_heldByteS.f k (mkB 1 n) 1 = some (1 + (n : Int)) := by
  unfold laws_heldByteS.f
  have := heldB_l0 n hn n k 0 (by omega) (by omega) hk
  simpa using this
def datI (l : List S26) : Nat := (l.map fun x => x.f2.length).sum
theorem datI_cons (x : S26) (l : List S26) : datI (x :: l) = x.f2.length + datI l := by simp [datI]
theorem datI_map (l : List S72) : datI (l.map cv) = dat l := by
  induction l with
  | nil => rfl
  | cons x l ih => rw [List.map_cons, datI_cons, dat_cons, ih]; rfl
theorem rdI_at (p : List S26) (x : S26) (l : List S26) : rd_T26 (p ++ x :: l) (p.length : Int) = x := by simp [rd_T26]
theorem set_at (p : List S26) (x y : S26) (l : List S26) : (p ++ x :: l).set p.length y = (p ++ [y]) ++ l := by simp
def mkBs : Int → List S26 → List S26
  | _, [] => []
  | a, x :: l => ⟨a, a + 1, mkB (a + 2) x.f2.length⟩ :: mkBs (a + 2 + (x.f2.length : Int)) l
theorem markBs_l0 : ∀ (l p : List S26) (a : Int) (k : Nat), p.length + l.length ≤ 1048576 → datI l ≤ 1048576 → 0 ≤ a → a + 2 * (l.length : Int) + (datI l : Int) ≤ 4194304 → l.length + datI l < k →
    laws_markBlockS.l0 k (p ++ l) a (p.length : Int) = some (a + 2 * (l.length : Int) + (datI l : Int), p ++ mkBs a l)
  | [], p, a, k, h1, h2, h3, h4, hk => by
    obtain ⟨k, rfl⟩ : ∃ m, k = m + 1 := ⟨k - 1, by omega⟩
    simp only [laws_markBlockS.l0]
    rw [if_neg (by simp), List.append_nil, mkBs, List.append_nil]
    simp [datI]
  | x :: l, p, a, k, h1, h2, h3, h4, hk => by
    obtain ⟨k, rfl⟩ : ∃ m, k = m + 1 := ⟨k - 1, by omega⟩
    rw [datI_cons] at h2 h4 hk
    rw [List.length_cons] at h1 h4 hk
    simp only [laws_markBlockS.l0]
    rw [if_pos (by rw [List.length_append, List.length_cons]; omega), if_pos (by omega), rdI_at, show wrap64 (a + 1) = a + 1 from by unfold wrap64; omega, show wrap64 (a + 1 + 1) = a + 2 from by unfold wrap64; omega, markB_eq (a + 2) x.f2 (by omega) (by omega) (by omega) k (by omega), Option.bind_some]
    dsimp only
    rw [Int.toNat_natCast, set_at, show wrap64 ((p.length : Int) + 1) = ((p ++ [(⟨a, a + 1, mkB (a + 2) x.f2.length⟩ : S26)]).length : Int) from by rw [List.length_append, List.length_singleton]; unfold wrap64; omega]
    rw [markBs_l0 l _ (a + 2 + (x.f2.length : Int)) k (by rw [List.length_append, List.length_singleton]; omega) (by omega) (by omega) (by omega) (by omega)]
    rw [mkBs, datI_cons, List.length_cons, List.append_assoc]
    refine congrArg some (Prod.ext ?_ rfl)
    show _ = _
    push_cast
    omega
theorem markBs_eq (l : List S26) (hl : l.length + datI l ≤ 1048576) (k : Nat) (hk : l.length + datI l < k) : laws_markBlockS.f k l 1 = some (1 + 2 * (l.length : Int) + (datI l : Int), mkBs 1 l) := by
  have h := markBs_l0 l [] 1 k (by simp; omega) (by omega) (by omega) (by omega) hk
  simpa [laws_markBlockS.f] using h
def nb (l : List S26) : List Int := l.flatMap fun x => [1, x.f0 % 256, x.f1 % 256] ++ x.f2
theorem nb_snoc (p : List S26) (x : S26) : nb (p ++ [x]) = (nb p ++ [1, x.f0 % 256, x.f1 % 256]) ++ x.f2 := by simp [nb]
theorem nb_len (W : Nat) : ∀ l : List S26, (∀ x ∈ l, x.f2.length = W) → (nb l).length = l.length * (W + 3)
  | [], _ => by simp [nb]
  | x :: l, h => by
    have e : nb (x :: l) = ([1, x.f0 % 256, x.f1 % 256] ++ x.f2) ++ nb l := by simp [nb]
    rw [e, List.length_append, nb_len W l (fun y hy => h y (List.mem_cons_of_mem _ hy)), List.length_append, h x List.mem_cons_self]
    show 3 + W + l.length * (W + 3) = (l.length + 1) * (W + 3)
    rw [Nat.succ_mul]
    omega
/-- The bytes of a node. -/
def encN (l : List S26) (W : Nat) : List Int := nb l ++ List.replicate (4 * (W + 3) - (nb l).length) 0
theorem nb_le (W : Nat) (l : List S26) (h4 : l.length ≤ 4) (h : ∀ x ∈ l, x.f2.length = W) : (nb l).length ≤ 4 * (W + 3) := by
  rw [nb_len W l h]
  exact Nat.mul_le_mul_right _ h4
theorem encN_len (W : Nat) (l : List S26) (h4 : l.length ≤ 4) (h : ∀ x ∈ l, x.f2.length = W) : (encN l W).length = 4 * (W + 3) := by
  have := nb_le W l h4 h
  unfold encN
  rw [List.length_append, List.length_replicate]
  omega
theorem pad_eq (W n : Nat) (hW : W ≤ 200) (h : n ≤ 4 * (W + 3)) : wrap64 (wrap64 (4 * wrap64 ((W : Int) + 3)) - (n : Int)) = ((4 * (W + 3) - n : Nat) : Int) := by
  have e1 : wrap64 ((W : Int) + 3) = (W : Int) + 3 := by unfold wrap64; omega
  have e2 : wrap64 (4 * ((W : Int) + 3)) = 4 * ((W : Int) + 3) := by unfold wrap64; omega
  rw [e1, e2]
  unfold wrap64
  omega
theorem nodeOf_l0 (W : Nat) (hW : W ≤ 200) : ∀ (q p : List S26) (k : Nat), (∀ x ∈ p ++ q, x.f2.length = W) → (p ++ q).length ≤ 4 → q.length < k → impl_nodeOf.l0 k (W : Int) (nb p) (p ++ q) ((p ++ q).length : Int) (p.length : Int) = some (encN (p ++ q) W)
  | [], p, k, h, h4, hk => by
    obtain ⟨k, rfl⟩ : ∃ m, k = m + 1 := ⟨k - 1, by omega⟩
    rw [List.append_nil] at h h4 ⊢
    have hle := nb_le W p h4 h
    simp only [impl_nodeOf.l0]
    rw [if_neg (by omega), pad_eq W _ hW hle, if_pos (by omega), Int.toNat_natCast, if_pos (by omega)]
    rfl
  | x :: q, p, k, h, h4, hk => by
    obtain ⟨k, rfl⟩ : ∃ m, k = m + 1 := ⟨k - 1, by omega⟩
    have hx : x.f2.length = W := h x (by simp)
    rw [List.length_cons] at hk
    have h4' : p.length + (q.length + 1) ≤ 4 := by rw [List.length_append, List.length_cons] at h4; exact h4
    have hp := nb_le W p (by omega) (fun y hy => h y (List.mem_append_left _ hy))
    have ih := nodeOf_l0 W hW q (p ++ [x]) k (fun y hy => h y (by simpa using hy)) (by rw [List.length_append, List.length_append, List.length_singleton]; omega) (by omega)
    simp only [impl_nodeOf.l0]
    rw [if_pos (by rw [List.length_append, List.length_cons]; omega), if_pos (by omega), if_pos (by rw [List.length_append, List.length_cons]; omega), rdI_at, Option.bind_some]
    dsimp only [List.length_cons, List.length_nil]
    rw [if_pos (by omega), Option.bind_some, if_pos (by rw [List.length_append, hx]; show (nb p).length + 3 + W < _; omega), show wrap64 ((p.length : Int) + 1) = ((p ++ [x]).length : Int) from by rw [List.length_append, List.length_singleton]; unfold wrap64; omega, ← nb_snoc]
    rw [show p ++ x :: q = (p ++ [x]) ++ q from by simp]
    exact ih
theorem specNodeOf_l0 (W : Nat) (hW1 : 1 ≤ W) (hW : W ≤ 200) : ∀ (q p : List S26) (k : Nat), (∀ x ∈ p ++ q, x.f2.length = W) → (p ++ q).length ≤ 4 → q.length < k → spec_NodeOf.l0 k (W : Int) (nb p) (p.length : Int) (p ++ q) = some (encN (p ++ q) W)
  | [], p, k, h, h4, hk => by
    obtain ⟨k, rfl⟩ : ∃ m, k = m + 1 := ⟨k - 1, by omega⟩
    rw [List.append_nil] at h h4 ⊢
    have hle := nb_le W p h4 h
    simp only [spec_NodeOf.l0]
    unfold spec_NodeSize.f
    rw [if_neg (by omega), if_neg (by omega), if_neg (by omega), Option.bind_some, pad_eq W _ hW hle, if_pos (by omega), Int.toNat_natCast, if_pos (by omega)]
    rfl
  | x :: q, p, k, h, h4, hk => by
    obtain ⟨k, rfl⟩ : ∃ m, k = m + 1 := ⟨k - 1, by omega⟩
    have hx : x.f2.length = W := h x (by simp)
    rw [List.length_cons] at hk
    have h4' : p.length + (q.length + 1) ≤ 4 := by rw [List.length_append, List.length_cons] at h4; exact h4
    have hp := nb_le W p (by omega) (fun y hy => h y (List.mem_append_left _ hy))
    have ih := specNodeOf_l0 W hW1 hW q (p ++ [x]) k (fun y hy => h y (by simpa using hy)) (by rw [List.length_append, List.length_append, List.length_singleton]; omega) (by omega)
    simp only [spec_NodeOf.l0]
    rw [if_pos (by rw [List.length_append, List.length_cons]; omega), if_pos (by omega), rdI_at, Option.bind_some]
    dsimp only [List.length_cons, List.length_nil]
    rw [if_pos (by omega), Option.bind_some, if_pos (by rw [List.length_append, hx]; show (nb p).length + 3 + W < _; omega), show wrap64 ((p.length : Int) + 1) = ((p ++ [x]).length : Int) from by rw [List.length_append, List.length_singleton]; unfold wrap64; omega, ← nb_snoc]
    rw [show p ++ x :: q = (p ++ [x]) ++ q from by simp]
    exact ih
theorem allFrom_at (xs : List S26) (log width : Int) : ∀ (d i : Nat), allFrom xs log width d i = true → ∀ j, i ≤ j → j < i + d → goodAt xs log width j = true
  | 0, i, _, j, h1, h2 => by omega
  | d + 1, i, h, j, h1, h2 => by
    rw [allFrom_succ, Bool.and_eq_true] at h
    by_cases e : j = i
    · subst e; exact h.1
    · exact allFrom_at xs log width d (i + 1) h.2 j (by omega) (by omega)
theorem blocksB_frame (xs : List S26) (log width : Int) (h : blocksB xs log width = true) : 0 ≤ log ∧ log ≤ 6 ∧ 1 ≤ width ∧ width ≤ 200 := by
  unfold blocksB at h
  rw [Bool.and_eq_true] at h
  have := h.1
  unfold frameB at this
  exact of_decide_eq_true this
theorem blocksB_len (xs : List S26) (log width : Int) (h : blocksB xs log width = true) : ∀ x ∈ xs, x.f2.length = width.toNat := by
  intro x hx
  have hf := blocksB_frame xs log width h
  unfold blocksB at h
  rw [Bool.and_eq_true] at h
  obtain ⟨i, hi, rfl⟩ := List.getElem_of_mem hx
  have hg := allFrom_at xs log width _ _ h.2 i (by omega) (by omega)
  unfold goodAt at hg
  rw [Bool.and_eq_true, rd26 xs i hi] at hg
  have hb := hg.1
  unfold blockB at hb
  rw [Bool.and_eq_true, Bool.and_eq_true, beq_iff_eq] at hb
  have := hb.2.2
  omega
/-- What both programs answer. -/
def nodeEnc (xs : List S26) (log width : Int) : List Int := if xs.length ≤ 4 ∧ blocksB xs log width = true then encN xs width.toNat else []
theorem nodeEnc_len (xs : List S26) (log width : Int) : (nodeEnc xs log width).length ≤ 812 := by
  unfold nodeEnc
  split
  · rename_i h
    have hf := blocksB_frame xs log width h.2
    rw [encN_len _ xs h.1 (blocksB_len xs log width h.2)]
    omega
  · exact Nat.zero_le _
theorem implNodeOf_eq (xs : List S26) (hx : xs.length ≤ 1048576) (log width : Int) (k : Nat) (hk : xs.length + 20 < k) : impl_NodeOf.f k xs log width = some (nodeEnc xs log width) := by
  unfold impl_NodeOf.f nodeEnc
  by_cases c : xs.length ≤ 4
  · rw [if_neg (by omega), blocks_impl xs hx log width k hk, Option.bind_some]
    by_cases d : blocksB xs log width = true
    · have hf := blocksB_frame xs log width d
      obtain ⟨W, rfl⟩ := Int.eq_ofNat_of_zero_le (show 0 ≤ width by omega)
      have hl := blocksB_len xs log _ d
      rw [Int.toNat_natCast] at hl
      have h := nodeOf_l0 W (by omega) xs [] k (by simpa using hl) (by simpa using c) (by omega)
      rw [if_pos d, if_pos ⟨c, d⟩, Int.toNat_natCast]
      have h2 : impl_nodeOf.f k xs (W : Int) = some (encN xs W) := by
        unfold impl_nodeOf.f
        exact h
      rw [h2, Option.bind_some]
    · rw [if_neg d, if_neg (fun h => d h.2)]
  · rw [if_pos (by omega), if_neg (fun h => c h.1)]
theorem specNodeOf_eq (xs : List S26) (hx : xs.length ≤ 1048576) (log width : Int) (k : Nat) (hk : xs.length + 20 < k) : spec_NodeOf.f k xs log width = some (nodeEnc xs log width) := by
  unfold spec_NodeOf.f spec_NodeOk.f nodeEnc
  by_cases c : xs.length ≤ 4
  · rw [if_pos (by omega), blocks_spec xs hx log width k hk, Option.bind_some, Option.bind_some]
    by_cases d : blocksB xs log width = true
    · have hf := blocksB_frame xs log width d
      obtain ⟨W, rfl⟩ := Int.eq_ofNat_of_zero_le (show 0 ≤ width by omega)
      have hl := blocksB_len xs log _ d
      rw [Int.toNat_natCast] at hl
      have h := specNodeOf_l0 W (by omega) (by omega) xs [] k (by simpa using hl) (by simpa using c) (by omega)
      rw [if_pos d, if_pos ⟨c, d⟩, Int.toNat_natCast]
      exact h
    · rw [if_neg d, if_neg (fun h => d h.2)]
  · rw [if_neg (by omega), Option.bind_some, if_neg (by simp), if_neg (fun h => c h.1)]
theorem FnExactNodeOf (x0 : S48) (w0 : ok48 x0) (a1 : Int) (w1 : (Lit.int .i64 a1).wf = true) (a2 : Int) (w2 : (Lit.int .i64 a2).wf = true) : ∃ k, laws_FnExactNodeOf.f k x0.f0 a1 a2 = some true := by
  obtain ⟨l0⟩ := x0
  have w0' : l0.length ≤ maxLen ∧ ∀ y, y ∈ l0 → ok72 y := w0
  refine ⟨l0.length + dat l0 + 1000 + 1, ?_⟩
  show laws_FnExactNodeOf.f (l0.length + dat l0 + 1000 + 1) l0 a1 a2 = some true
  unfold laws_FnExactNodeOf.f laws_szNode.f
  rw [szBlockS_eq l0 w0' _ (by omega), Option.bind_some]
  by_cases c : 1048576 < l0.length + dat l0
  · rw [if_pos c, if_pos (show (-1 : Int) < 0 by omega), Option.bind_some, if_pos (by omega)]
  · rw [if_neg c, if_neg (by omega), Option.bind_some, if_neg (by omega)]
    have hto : ∀ k, l0.length + dat l0 < k → laws_toNode.f k l0 = some (l0.map cv) := fun k hk => by
      unfold laws_toNode.f
      rw [toBlockS_eq l0 (by omega) _ hk, Option.bind_some]
    have hm : (l0.map cv).length = l0.length := List.length_map _
    have hE := nodeEnc_len (l0.map cv) a1 a2
    have hmk : laws_markNode.f (l0.length + dat l0 + 1000 + 1) (l0.map cv) 1 = some (1 + 2 * ((l0.map cv).length : Int) + (datI (l0.map cv) : Int), mkBs 1 (l0.map cv)) := markBs_eq (l0.map cv) (by rw [datI_map, hm]; omega) _ (by rw [datI_map, hm]; omega)
    rw [hto _ (by omega), Option.bind_some, specNodeOf_eq _ (by omega) _ _ _ (by omega), Option.bind_some, Option.bind_some, implNodeOf_eq _ (by omega) _ _ _ (by omega), Option.bind_some, eqByteS_eq _ (by omega) _ (by omega), Option.bind_some, if_pos rfl, Option.bind_some]
    unfold laws_eqNode.f
    rw [eqBlockS_eq l0 (by omega) _ (by omega), Option.bind_some, if_pos rfl, Option.bind_some, if_pos rfl, hmk, Option.bind_some]
    dsimp only
    rw [if_neg (by omega), Option.bind_some]
    rw [laws_FnExactNodeOf.j0, if_neg (by simp), markB_eq 1 _ (by omega) (by omega) (by omega) _ (by omega), Option.bind_some]
    dsimp only
    rw [heldB_eq _ (by omega) _ (by omega), Option.bind_some, if_neg (by omega), if_pos rfl, hto _ (by omega), Option.bind_some, implNodeOf_eq _ (by omega) _ _ _ (by omega), Option.bind_some, eqByteS_eq _ (by omega) _ (by omega), Option.bind_some, if_pos rfl, Option.bind_some, if_neg (by omega), if_pos rfl]

end Go.Proofs.Ytggfndobfpmoaaa.Pure

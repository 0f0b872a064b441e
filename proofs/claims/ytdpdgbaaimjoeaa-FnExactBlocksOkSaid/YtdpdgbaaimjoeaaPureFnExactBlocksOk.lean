/- The program's BlocksOk returns what the reference's returns and leaves its argument as it was, for every list of blocks and all ints. Conditions: none. -/
import Derived.Test.YtdpdgbaaimjoeaaOpenFnExactBlocksOk
namespace Go.Proofs.Ytdpdgbaaimjoeaa.Pure
open Go.RowKit Go.Proofs.Ytdpdgbaaimjoeaa.OpenFnExactBlocksOk Go.Proofs.Ytdpdgbaaimjoeaa.RowOpen Go.Proofs.Ytdpdgbaaimjoeaa.PFnExactBlocksOk Go.Proofs.YtdpdgbaaimjoeaaW.PrintWords Go.Proofs.YtdpdgbaaimjoeaaW.PrintLast Go.Proofs.YtdpdgbaaimjoeaaW.PrintMore
set_option linter.unusedVariables false
set_option linter.unusedSimpArgs false

theorem pow_all : ∀ l : Nat, l < 7 → spec_l02Pow.f 20 (l : Int) = some ((2 ^ l : Nat) : Int) ∧ wrap64 ((shl .i64 1 (l : Int)) - 1) = ((2 ^ l : Nat) : Int) - 1 := by decide +kernel
def isL (a0 a1 : Int) : Bool := decide (0 ≤ a0 ∧ a0 ≤ 6 ∧ 0 ≤ a1 ∧ a1 < ((2 ^ a0.toNat : Nat) : Int))
theorem pow_k (k l : Nat) (hk : 20 ≤ k) (hl : l < 7) : spec_l02Pow.f k (l : Int) = some ((2 ^ l : Nat) : Int) :=
  at_rounds (g := fun k => spec_l02Pow.f k (l : Int)) (fun k => spec_l02Pow.mono (l : Int) k) hk (pow_all l hl).1
theorem leaf_spec (k : Nat) (hk : 20 ≤ k) (a0 a1 : Int) : spec_l11Leaf.f k a0 a1 = some (isL a0 a1) := by
  unfold spec_l11Leaf.f spec_l11Log.f isL
  by_cases h1 : 0 ≤ a0 ∧ a0 ≤ 6
  · obtain ⟨l, rfl⟩ := Int.eq_ofNat_of_zero_le h1.1
    have e1 := pow_k k l hk (by omega)
    have d1 : (l : Int) ≥ 0 := by omega
    have d2 : decide ((l : Int) ≤ 6) = true := decide_eq_true (by omega)
    rw [if_pos d1, d2, e1, Int.toNat_natCast]
    simp only [Option.bind_some, if_true]
    by_cases h3 : a1 ≥ 0
    · rw [if_pos h3]; congr 1; apply decide_eq_decide.2; omega
    · rw [if_neg h3]; congr 1; symm; apply decide_eq_false; omega
  · have e : decide (0 ≤ a0 ∧ a0 ≤ 6 ∧ 0 ≤ a1 ∧ a1 < ((2 ^ a0.toNat : Nat) : Int)) = false := decide_eq_false (by omega)
    rw [e]
    by_cases h2 : a0 ≥ 0
    · have h3 : decide (a0 ≤ 6) = false := decide_eq_false (by omega)
      rw [if_pos h2, h3]; rfl
    · rw [if_neg h2]; rfl
theorem leaf_impl (a0 a1 : Int) : impl_isLeaf.f a0 a1 = some (isL a0 a1) := by
  unfold impl_isLeaf.f impl_isLog.f impl_within.f isL
  by_cases h1 : 0 ≤ a0 ∧ a0 ≤ 6
  · obtain ⟨l, rfl⟩ := Int.eq_ofNat_of_zero_le h1.1
    have e2 := (pow_all l (by omega)).2
    have d1 : (l : Int) ≥ 0 := by omega
    have d2 : decide ((l : Int) ≤ 6) = true := decide_eq_true (by omega)
    rw [if_pos d1, d2, Int.toNat_natCast]
    simp only [Option.bind_some, if_true]
    rw [if_pos h1.1, e2]
    by_cases h3 : a1 ≥ 0
    · rw [if_pos h3]
      show some _ = some _
      congr 1; apply decide_eq_decide.2; omega
    · rw [if_neg h3]
      show some _ = some _
      congr 1; symm; apply decide_eq_false; omega
  · have e : decide (0 ≤ a0 ∧ a0 ≤ 6 ∧ 0 ≤ a1 ∧ a1 < ((2 ^ a0.toNat : Nat) : Int)) = false := decide_eq_false (by omega)
    rw [e]
    by_cases h2 : a0 ≥ 0
    · have h3 : decide (a0 ≤ 6) = false := decide_eq_false (by omega)
      rw [if_pos h2, h3]; rfl
    · rw [if_neg h2]; rfl
theorem take_set_ByteS (x l : List Int) (i : Nat) (hi : i < l.length) (hx : x.length = l.length) (h : x.take i = l.take i) : (x.set i (rd l (i : Int))).take (i + 1) = l.take (i + 1) := by
  have hr : rd l (i : Int) = l[i] := by simp [rd, hi]
  rw [hr, List.take_add_one, List.take_add_one, List.take_set_of_le (Nat.le_refl _), h]
  simp [hi, hx]
theorem toByteS_l0 (l : List Int) (hl : l.length ≤ 1048576) : ∀ (d k i : Nat) (x : List Int), x.length = l.length → i ≤ l.length → l.length - i = d → d < k → x.take i = l.take i → laws_toByteS.l0 k l x (i : Int) = some l := by
  intro d
  induction d with
  | zero =>
    intro k i x hx hi hd hk h
    obtain ⟨k, rfl⟩ : ∃ m, k = m + 1 := ⟨k - 1, by omega⟩
    simp only [laws_toByteS.l0]
    rw [if_neg (by omega)]
    rw [List.take_of_length_le (by omega), List.take_of_length_le (by omega)] at h
    rw [h]
  | succ d ih =>
    intro k i x hx hi hd hk h
    obtain ⟨k, rfl⟩ : ∃ m, k = m + 1 := ⟨k - 1, by omega⟩
    simp only [laws_toByteS.l0]
    rw [if_pos (by omega), if_pos (by omega), if_pos (by omega), show wrap64 ((i : Int) + 1) = ((i + 1 : Nat) : Int) from by unfold wrap64; omega, Int.toNat_natCast]
    exact ih k (i + 1) _ (by simp [hx]) (by omega) (by omega) (by omega) (take_set_ByteS x l i (by omega) hx h)
theorem toByteS_eq (l : List Int) (hl : l.length ≤ 1048576) (k : Nat) (hk : l.length < k) : laws_toByteS.f k l = some l := by
  unfold laws_toByteS.f
  rw [if_pos (by omega), if_pos (by omega)]
  exact toByteS_l0 l hl l.length k 0 _ (by simp) (by omega) (by omega) hk rfl
theorem eqByteS_l0 (a : List Int) (ha : a.length ≤ 1048576) : ∀ (d k i : Nat), i ≤ a.length → a.length - i = d → d < k → laws_eqByteS.l0 k a a (i : Int) = some true := by
  intro d
  induction d with
  | zero =>
    intro k i hi hd hk
    obtain ⟨k, rfl⟩ : ∃ m, k = m + 1 := ⟨k - 1, by omega⟩
    simp only [laws_eqByteS.l0]
    rw [if_neg (by omega)]
  | succ d ih =>
    intro k i hi hd hk
    obtain ⟨k, rfl⟩ : ∃ m, k = m + 1 := ⟨k - 1, by omega⟩
    simp only [laws_eqByteS.l0]
    rw [if_pos (by omega), if_pos (by omega), if_pos (by omega), if_pos trivial, show wrap64 ((i : Int) + 1) = ((i + 1 : Nat) : Int) from by unfold wrap64; omega]
    exact ih k (i + 1) (by omega) (by omega) (by omega)
theorem eqByteS_eq (a : List Int) (ha : a.length ≤ 1048576) (k : Nat) (hk : a.length < k) : laws_eqByteS.f k a a = some true := by
  unfold laws_eqByteS.f
  rw [if_pos rfl]
  exact eqByteS_l0 a ha a.length k 0 (by omega) (by omega) hk
def blockB (id leaf len log width : Int) : Bool := decide (0 ≤ log ∧ log ≤ 6 ∧ 1 ≤ width ∧ width ≤ 200 ∧ 0 ≤ id ∧ id ≤ 255) && (isL log leaf && (len == width))
theorem block_spec (k : Nat) (hk : 20 ≤ k) (id leaf : Int) (data : List Int) (log width : Int) : spec_BlockOk.f k id leaf data log width = some (blockB id leaf (data.length : Int) log width) := by
  unfold spec_BlockOk.f spec_l12Frame.f spec_l11Log.f blockB
  rw [leaf_spec k hk]
  by_cases h1 : log ≥ 0
  · rw [if_pos h1]
    simp only [Option.bind_some]
    by_cases h2 : log ≤ 6
    · rw [if_pos (by simpa using h2)]
      by_cases h3 : width ≥ 1
      · rw [if_pos h3]
        simp only [Option.bind_some]
        by_cases h4 : width ≤ 200
        · rw [if_pos (by simpa using h4)]
          by_cases h5 : id ≥ 0
          · rw [if_pos h5]
            by_cases h6 : id ≤ 255
            · rw [if_pos h6, decide_eq_true (show 0 ≤ log ∧ log ≤ 6 ∧ 1 ≤ width ∧ width ≤ 200 ∧ 0 ≤ id ∧ id ≤ 255 from by omega)]
              cases isL log leaf <;> simp
            · rw [if_neg h6, decide_eq_false (show ¬ (0 ≤ log ∧ log ≤ 6 ∧ 1 ≤ width ∧ width ≤ 200 ∧ 0 ≤ id ∧ id ≤ 255) from by omega)]; rfl
          · rw [if_neg h5, decide_eq_false (show ¬ (0 ≤ log ∧ log ≤ 6 ∧ 1 ≤ width ∧ width ≤ 200 ∧ 0 ≤ id ∧ id ≤ 255) from by omega)]; rfl
        · rw [if_neg (by simpa using h4), decide_eq_false (show ¬ (0 ≤ log ∧ log ≤ 6 ∧ 1 ≤ width ∧ width ≤ 200 ∧ 0 ≤ id ∧ id ≤ 255) from by omega)]; rfl
      · rw [if_neg h3, decide_eq_false (show ¬ (0 ≤ log ∧ log ≤ 6 ∧ 1 ≤ width ∧ width ≤ 200 ∧ 0 ≤ id ∧ id ≤ 255) from by omega)]; rfl
    · rw [if_neg (by simpa using h2), decide_eq_false (show ¬ (0 ≤ log ∧ log ≤ 6 ∧ 1 ≤ width ∧ width ≤ 200 ∧ 0 ≤ id ∧ id ≤ 255) from by omega)]; rfl
  · rw [if_neg h1, decide_eq_false (show ¬ (0 ≤ log ∧ log ≤ 6 ∧ 1 ≤ width ∧ width ≤ 200 ∧ 0 ≤ id ∧ id ≤ 255) from by omega)]; rfl
theorem block_impl (id leaf : Int) (data : List Int) (log width : Int) : impl_isBlock.f id leaf data log width = some (blockB id leaf (data.length : Int) log width) := by
  unfold impl_isBlock.f blockB
  rw [leaf_impl]
  cases hL : isL log leaf with
  | false => simp
  | true =>
    simp only [isL, decide_eq_true_eq] at hL
    simp only [Option.bind_some, if_true]
    unfold impl_within.f
    by_cases h3 : width ≥ 1
    · rw [if_pos h3]
      simp only [Option.bind_some]
      by_cases h4 : width ≤ 200
      · rw [if_pos (by simpa using h4)]
        by_cases h5 : id ≥ 0
        · rw [if_pos h5]
          simp only [Option.bind_some]
          by_cases h6 : id ≤ 255
          · rw [if_pos (by simpa using h6), decide_eq_true (show 0 ≤ log ∧ log ≤ 6 ∧ 1 ≤ width ∧ width ≤ 200 ∧ 0 ≤ id ∧ id ≤ 255 from by omega)]
            simp
          · rw [if_neg (by simpa using h6), decide_eq_false (show ¬ (0 ≤ log ∧ log ≤ 6 ∧ 1 ≤ width ∧ width ≤ 200 ∧ 0 ≤ id ∧ id ≤ 255) from by omega)]; rfl
        · rw [if_neg h5, decide_eq_false (show ¬ (0 ≤ log ∧ log ≤ 6 ∧ 1 ≤ width ∧ width ≤ 200 ∧ 0 ≤ id ∧ id ≤ 255) from by omega)]; rfl
      · rw [if_neg (by simpa using h4), decide_eq_false (show ¬ (0 ≤ log ∧ log ≤ 6 ∧ 1 ≤ width ∧ width ≤ 200 ∧ 0 ≤ id ∧ id ≤ 255) from by omega)]; rfl
    · rw [if_neg h3, decide_eq_false (show ¬ (0 ≤ log ∧ log ≤ 6 ∧ 1 ≤ width ∧ width ≤ 200 ∧ 0 ≤ id ∧ id ≤ 255) from by omega)]; rfl
def cv (x : S24) : S27 := ⟨x.f0, x.f1, x.f2⟩
def dat (l : List S24) : Nat := (l.map fun x => x.f2.length).sum
theorem dat_cons (x : S24) (l : List S24) : dat (x :: l) = x.f2.length + dat l := by simp [dat]
theorem dat_mem : ∀ (l : List S24) (i : Nat) (h : i < l.length), (l[i]).f2.length ≤ dat l
  | x :: l, 0, _ => by rw [dat_cons]; simp
  | x :: l, i + 1, h => by
    rw [dat_cons]
    have := dat_mem l i (by simpa using h)
    simp only [List.getElem_cons_succ]
    omega
theorem rd24 (l : List S24) (i : Nat) (h : i < l.length) : rd_T24 l (i : Int) = l[i] := by simp [rd_T24, h]
theorem rd27 (l : List S27) (i : Nat) (h : i < l.length) : rd_T27 l (i : Int) = l[i] := by simp [rd_T27, h]
theorem wr (i : Nat) (h : i ≤ 2000000) : wrap64 ((i : Int) + 1) = ((i + 1 : Nat) : Int) := by unfold wrap64; omega
theorem szBlock_eq (x : S24) (left : Int) (h0 : 0 ≤ left) (h1 : left ≤ 1048576) (hx : x.f2.length ≤ maxLen) : laws_szBlock.f x.f0 x.f1 x.f2 left = some (if left < (x.f2.length : Int) then -1 else left - (x.f2.length : Int)) := by
  unfold maxLen at hx
  unfold laws_szBlock.f laws_szByteS.f
  rw [show wrap64 (left - (x.f2.length : Int)) = left - (x.f2.length : Int) from by unfold wrap64; omega]
  by_cases c : left < (x.f2.length : Int)
  · rw [if_pos c, if_pos (by omega)]; rfl
  · rw [if_neg c, if_neg (by omega)]
    simp only [Option.bind_some]
    rw [if_neg (by omega)]
theorem szBlockS_l0 (l : List S24) (hl : ∀ y, y ∈ l → y.f2.length ≤ maxLen) (hlen : l.length ≤ 1048576) : ∀ (d k i : Nat) (left : Int), i ≤ l.length → l.length - i = d → d < k → 0 ≤ left → left ≤ 1048576 →
    laws_szBlockS.l0 k l left (i : Int) = some (if left < (dat (l.drop i) : Int) then -1 else left - (dat (l.drop i) : Int)) := by
  intro d
  induction d with
  | zero =>
    intro k i left hi hd hk h0 h1
    obtain ⟨k, rfl⟩ : ∃ m, k = m + 1 := ⟨k - 1, by omega⟩
    simp only [laws_szBlockS.l0]
    rw [if_neg (by omega), List.drop_eq_nil_of_le (by omega)]
    have e : dat [] = 0 := rfl
    rw [e, if_neg (by omega)]
    simp
  | succ d ih =>
    intro k i left hi hd hk h0 h1
    obtain ⟨k, rfl⟩ : ∃ m, k = m + 1 := ⟨k - 1, by omega⟩
    have hlt : i < l.length := by omega
    simp only [laws_szBlockS.l0]
    rw [if_pos (by omega), if_pos (by omega), rd24 l i hlt, szBlock_eq _ left h0 h1 (hl _ (List.getElem_mem hlt)), List.drop_eq_getElem_cons hlt, dat_cons]
    simp only [Option.bind_some]
    by_cases c : left < ((l[i]).f2.length : Int)
    · rw [if_pos c, if_pos (by omega), if_pos (by omega)]
    · rw [if_neg c, if_neg (by omega), wr i (by omega), ih k (i + 1) _ (by omega) (by omega) (by omega) (by omega) (by omega)]
      congr 1
      by_cases c2 : left - ((l[i]).f2.length : Int) < (dat (l.drop (i + 1)) : Int)
      · rw [if_pos c2, if_pos (by omega)]
      · rw [if_neg c2, if_neg (by omega)]; omega
theorem szBlockS_eq (l : List S24) (hl : l.length ≤ maxLen ∧ ∀ y, y ∈ l → ok24 y) (k : Nat) (hk : l.length < k) :
    laws_szBlockS.f k l 1048576 = some (if 1048576 < l.length + dat l then -1 else 1048576 - ((l.length + dat l : Nat) : Int)) := by
  have h1 := hl.1
  unfold maxLen at h1
  unfold laws_szBlockS.f
  rw [show wrap64 (1048576 - (l.length : Int)) = 1048576 - (l.length : Int) from by unfold wrap64; omega]
  by_cases c : 1048576 < l.length
  · rw [if_pos (by omega), if_pos (by omega)]
  · rw [if_neg (by omega)]
    have := szBlockS_l0 l (fun y hy => (hl.2 y hy).2.2.1) (by omega) l.length k 0 (1048576 - (l.length : Int)) (by omega) (by omega) hk (by omega) (by omega)
    rw [List.drop_zero] at this
    rw [show ((0 : Nat) : Int) = 0 from rfl] at this
    rw [this]
    congr 1
    by_cases c2 : 1048576 < l.length + dat l
    · rw [if_pos c2, if_pos (by omega)]
    · rw [if_neg c2, if_neg (by omega)]; omega
theorem toBlock_eq (x : S24) (hx : x.f2.length ≤ 1048576) (k : Nat) (hk : x.f2.length < k) : laws_toBlock.f k x.f0 x.f1 x.f2 = some (x.f0, x.f1, x.f2) := by
  unfold laws_toBlock.f
  rw [toByteS_eq _ hx _ hk]; rfl
theorem eqBlock_eq (x : S27) (hx : x.f2.length ≤ 1048576) (k : Nat) (hk : x.f2.length < k) : laws_eqBlock.f k x.f0 x.f1 x.f2 x.f0 x.f1 x.f2 = some true := by
  unfold laws_eqBlock.f
  rw [if_pos rfl, if_pos rfl, eqByteS_eq _ hx _ hk]; rfl
theorem take_setB (x : List S27) (l : List S24) (i : Nat) (hi : i < l.length) (hx : x.length = l.length) (h : x.take i = (l.map cv).take i) : (x.set i (cv l[i])).take (i + 1) = (l.map cv).take (i + 1) := by
  rw [List.take_add_one, List.take_add_one, List.take_set_of_le (Nat.le_refl _), h]
  simp [hi, hx]
theorem toBlockS_l0 (l : List S24) (hl : l.length + dat l ≤ 1048576) : ∀ (d k i : Nat) (x : List S27), x.length = l.length → i ≤ l.length → l.length - i = d → d + dat l < k → x.take i = (l.map cv).take i →
    laws_toBlockS.l0 k l x (i : Int) = some (l.map cv) := by
  intro d
  induction d with
  | zero =>
    intro k i x hx hi hd hk h
    obtain ⟨k, rfl⟩ : ∃ m, k = m + 1 := ⟨k - 1, by omega⟩
    simp only [laws_toBlockS.l0]
    rw [if_neg (by omega)]
    rw [List.take_of_length_le (by omega), List.take_of_length_le (by simp; omega)] at h
    rw [h]
  | succ d ih =>
    intro k i x hx hi hd hk h
    obtain ⟨k, rfl⟩ : ∃ m, k = m + 1 := ⟨k - 1, by omega⟩
    have hlt : i < l.length := by omega
    have hm := dat_mem l i hlt
    simp only [laws_toBlockS.l0]
    rw [if_pos (by omega), if_pos (by omega), rd24 l i hlt, toBlock_eq _ (by omega) _ (by omega)]
    simp only [Option.bind_some]
    rw [if_pos (by omega), wr i (by omega), Int.toNat_natCast]
    exact ih k (i + 1) _ (by simp [hx]) (by omega) (by omega) (by omega) (take_setB x l i hlt hx h)
theorem toBlockS_eq (l : List S24) (hl : l.length + dat l ≤ 1048576) (k : Nat) (hk : l.length + dat l < k) : laws_toBlockS.f k l = some (l.map cv) := by
  unfold laws_toBlockS.f
  rw [if_pos (by omega), if_pos (by omega)]
  exact toBlockS_l0 l hl l.length k 0 _ (by simp) (by omega) (by omega) hk rfl
theorem eqBlockS_l0 (l : List S24) (hl : l.length + dat l ≤ 1048576) : ∀ (d k i : Nat), i ≤ l.length → l.length - i = d → d + dat l < k → laws_eqBlockS.l0 k (l.map cv) (l.map cv) (i : Int) = some true := by
  intro d
  induction d with
  | zero =>
    intro k i hi hd hk
    obtain ⟨k, rfl⟩ : ∃ m, k = m + 1 := ⟨k - 1, by omega⟩
    simp only [laws_eqBlockS.l0]
    rw [if_neg (by rw [List.length_map]; omega)]
  | succ d ih =>
    intro k i hi hd hk
    obtain ⟨k, rfl⟩ : ∃ m, k = m + 1 := ⟨k - 1, by omega⟩
    have hlt : i < l.length := by omega
    have hm := dat_mem l i hlt
    have hlt' : i < (l.map cv).length := by simpa using hlt
    simp only [laws_eqBlockS.l0]
    have e : (l.map cv)[i] = cv l[i] := by simp
    rw [if_pos (by omega), if_pos (by omega), if_pos (by omega), rd27 _ i hlt', e, eqBlock_eq (cv l[i]) (by show (l[i]).f2.length ≤ _; omega) _ (by show (l[i]).f2.length < _; omega)]
    simp only [Option.bind_some, if_true]
    rw [wr i (by omega)]
    exact ih k (i + 1) (by omega) (by omega) (by omega)
theorem eqBlockS_eq (l : List S24) (hl : l.length + dat l ≤ 1048576) (k : Nat) (hk : l.length + dat l < k) : laws_eqBlockS.f k (l.map cv) (l.map cv) = some true := by
  unfold laws_eqBlockS.f
  rw [if_pos rfl]
  exact eqBlockS_l0 l hl l.length k 0 (by omega) (by omega) hk

/-! the blocks' own rule -/
def goodAt (xs : List S27) (log width : Int) (i : Nat) : Bool := blockB (rd_T27 xs (i : Int)).f0 (rd_T27 xs (i : Int)).f1 ((rd_T27 xs (i : Int)).f2.length : Int) log width && (decide (i = 0) || !decide ((rd_T27 xs ((i - 1 : Nat) : Int)).f0 ≥ (rd_T27 xs (i : Int)).f0))
def allFrom (xs : List S27) (log width : Int) : Nat → Nat → Bool
  | 0, _ => true
  | d + 1, i => goodAt xs log width i && allFrom xs log width d (i + 1)
theorem allFrom_succ (xs : List S27) (log width : Int) (d i : Nat) : allFrom xs log width (d + 1) i = (goodAt xs log width i && allFrom xs log width d (i + 1)) := rfl
def frameB (log width : Int) : Bool := decide (0 ≤ log ∧ log ≤ 6 ∧ 1 ≤ width ∧ width ≤ 200)
def blocksB (xs : List S27) (log width : Int) : Bool := frameB log width && allFrom xs log width xs.length 0
theorem frame_spec (log width : Int) : spec_l12Frame.f log width = some (frameB log width) := by
  unfold spec_l12Frame.f spec_l11Log.f frameB
  by_cases h1 : log ≥ 0
  · rw [if_pos h1]
    simp only [Option.bind_some]
    by_cases h2 : log ≤ 6
    · rw [if_pos (by simpa using h2)]
      by_cases h3 : width ≥ 1
      · rw [if_pos h3]; congr 1; apply decide_eq_decide.2; omega
      · rw [if_neg h3]; congr 1; symm; apply decide_eq_false; omega
    · rw [if_neg (by simpa using h2)]; congr 1; symm; apply decide_eq_false; omega
  · rw [if_neg h1]
    show some false = _
    congr 1; symm; apply decide_eq_false; omega
theorem frame_impl (log width : Int) : ((impl_isLog.f log).bind fun t => if t = true then ((impl_within.f width 1 200).bind fun u => some u) else some false) = some (frameB log width) := by
  unfold impl_isLog.f impl_within.f frameB
  by_cases h1 : log ≥ 0
  · rw [if_pos h1]
    simp only [Option.bind_some]
    by_cases h2 : log ≤ 6
    · rw [if_pos (by simpa using h2)]
      by_cases h3 : width ≥ 1
      · rw [if_pos h3]
        show some _ = some _
        congr 1; apply decide_eq_decide.2; omega
      · rw [if_neg h3]
        show some _ = some _
        congr 1; symm; apply decide_eq_false; omega
    · rw [if_neg (by simpa using h2)]; congr 1; symm; apply decide_eq_false; omega
  · rw [if_neg h1]
    show some false = _
    congr 1; symm; apply decide_eq_false; omega
theorem blocks_spec_l0 (xs : List S27) (hx : xs.length ≤ 1048576) (log width : Int) : ∀ (d k i : Nat), i ≤ xs.length → xs.length - i = d → d + 20 < k → spec_BlocksOk.l0 k xs log width (i : Int) = some (allFrom xs log width d i) := by
  intro d
  induction d with
  | zero =>
    intro k i hi hd hk
    obtain ⟨k, rfl⟩ : ∃ m, k = m + 1 := ⟨k - 1, by omega⟩
    simp only [spec_BlocksOk.l0]
    rw [if_neg (by omega)]; rfl
  | succ d ih =>
    intro k i hi hd hk
    obtain ⟨k, rfl⟩ : ∃ m, k = m + 1 := ⟨k - 1, by omega⟩
    simp only [spec_BlocksOk.l0]
    rw [if_pos (by omega), if_pos (by omega), block_spec k (by omega)]
    simp only [Option.bind_some]
    rw [wr i (by omega), ih k (i + 1) (by omega) (by omega) (by omega)]
    rw [allFrom_succ]
    unfold goodAt
    cases blockB (rd_T27 xs (i : Int)).f0 (rd_T27 xs (i : Int)).f1 ((rd_T27 xs (i : Int)).f2.length : Int) log width with
    | false => simp
    | true =>
      by_cases c : i = 0
      · subst c; simp
      · rw [if_pos rfl, if_pos (by omega), show wrap64 ((i : Int) - 1) = ((i - 1 : Nat) : Int) from by unfold wrap64; omega, if_pos (by omega), if_pos (by omega), decide_eq_false c]
        by_cases c2 : (rd_T27 xs ((i - 1 : Nat) : Int)).f0 ≥ (rd_T27 xs (i : Int)).f0
        · rw [if_pos c2, decide_eq_true c2]; rfl
        · rw [if_neg c2, decide_eq_false c2]; rfl
theorem blocks_impl_l0 (xs : List S27) (hx : xs.length ≤ 1048576) (log width : Int) : ∀ (d k i : Nat), i ≤ xs.length → xs.length - i = d → d + 20 < k → impl_areBlocks.l0 k xs log width xs (xs.length : Int) (i : Int) = some (allFrom xs log width d i && frameB log width) := by
  intro d
  induction d with
  | zero =>
    intro k i hi hd hk
    obtain ⟨k, rfl⟩ : ∃ m, k = m + 1 := ⟨k - 1, by omega⟩
    simp only [impl_areBlocks.l0]
    rw [if_neg (by omega), frame_impl]; rfl
  | succ d ih =>
    intro k i hi hd hk
    obtain ⟨k, rfl⟩ : ∃ m, k = m + 1 := ⟨k - 1, by omega⟩
    simp only [impl_areBlocks.l0]
    rw [if_pos (by omega), if_pos (by omega), if_pos (by omega), block_impl]
    simp only [Option.bind_some]
    rw [wr i (by omega), ih k (i + 1) (by omega) (by omega) (by omega)]
    rw [allFrom_succ]
    unfold goodAt
    cases blockB (rd_T27 xs (i : Int)).f0 (rd_T27 xs (i : Int)).f1 ((rd_T27 xs (i : Int)).f2.length : Int) log width with
    | false => simp
    | true =>
      by_cases c : i = 0
      · subst c; simp
      · rw [if_pos rfl, if_pos (by omega), show wrap64 ((i : Int) - 1) = ((i - 1 : Nat) : Int) from by unfold wrap64; omega, if_pos (by omega), if_pos (by omega), decide_eq_false c]
        by_cases c2 : (rd_T27 xs ((i - 1 : Nat) : Int)).f0 ≥ (rd_T27 xs (i : Int)).f0
        · rw [if_pos c2, decide_eq_true c2]; rfl
        · rw [if_neg c2, decide_eq_false c2]; rfl
theorem blocks_spec (xs : List S27) (hx : xs.length ≤ 1048576) (log width : Int) (k : Nat) (hk : xs.length + 20 < k) : spec_BlocksOk.f k xs log width = some (blocksB xs log width) := by
  unfold spec_BlocksOk.f blocksB
  have := blocks_spec_l0 xs hx log width xs.length k 0 (by omega) (by omega) hk
  rw [show ((0 : Nat) : Int) = 0 from rfl] at this
  rw [frame_spec, this]
  cases frameB log width <;> simp
theorem blocks_impl (xs : List S27) (hx : xs.length ≤ 1048576) (log width : Int) (k : Nat) (hk : xs.length + 20 < k) : impl_areBlocks.f k xs log width = some (blocksB xs log width) := by
  unfold impl_areBlocks.f blocksB
  have := blocks_impl_l0 xs hx log width xs.length k 0 (by omega) (by omega) hk
  rw [show ((0 : Nat) : Int) = 0 from rfl] at this
  rw [this, Bool.and_comm]
theorem FnExactBlocksOk (l0 : (List S24)) (w0 : (l0.length ≤ maxLen ∧ ∀ y, y ∈ l0 → ok24 y)) (a1 : Int) (w1 : (Lit.int .i64 a1).wf = true) (a2 : Int) (w2 : (Lit.int .i64 a2).wf = true) : ∃ k, laws_FnExactBlocksOk.f k l0 a1 a2 = some true := by
  refine ⟨l0.length + dat l0 + 50, ?_⟩
  unfold laws_FnExactBlocksOk.f
  rw [szBlockS_eq l0 w0 _ (by omega)]
  simp only [Option.bind_some]
  by_cases c : 1048576 < l0.length + dat l0
  · rw [if_pos c, if_pos (by omega)]
  · rw [if_neg c, if_neg (by omega), toBlockS_eq l0 (by omega) _ (by omega)]
    simp only [Option.bind_some]
    unfold impl_BlocksOk.f
    rw [blocks_spec _ (by rw [List.length_map]; omega) _ _ _ (by rw [List.length_map]; omega), blocks_impl _ (by rw [List.length_map]; omega) _ _ _ (by rw [List.length_map]; omega), eqBlockS_eq l0 (by omega) _ (by omega)]
    simp

end Go.Proofs.Ytdpdgbaaimjoeaa.Pure

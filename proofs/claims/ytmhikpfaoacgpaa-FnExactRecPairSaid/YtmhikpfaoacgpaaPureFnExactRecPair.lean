/- For every two records, the program's RecPair returns the two records that the reference's RecPair returns; conditions: none. -/
import Derived.Test.YtmhikpfaoacgpaaOpenFnExactRecPair
import Derived.Lib.Strings
namespace Go.Proofs.Ytmhikpfaoacgpaa.Pure
open Go.RowKit Go.Proofs.Ytmhikpfaoacgpaa.OpenFnExactRecPair Go.Proofs.Ytmhikpfaoacgpaa.RowOpen Go.Proofs.Ytmhikpfaoacgpaa.PFnExactRecPair Go.Proofs.YtmhikpfaoacgpaaW.PrintWords Go.Proofs.YtmhikpfaoacgpaaW.PrintLast Go.Proofs.YtmhikpfaoacgpaaW.PrintMore
set_option linter.unusedVariables false
set_option linter.unusedSimpArgs false

def letB (c : Int) : Bool := decide (97 ≤ c) && decide (c ≤ 122)
/-- Are the d bytes from i on letters? -/
def lets (s : ByteArray) : Nat → Nat → Bool
  | 0, _ => true
  | d + 1, i => letB (bt s (i : Int)) && lets s d (i + 1)
theorem lets_succ (s : ByteArray) (d i : Nat) : lets s (d + 1) i = (letB (bt s (i : Int)) && lets s d (i + 1)) := rfl
def wordB (s : ByteArray) : Bool := decide (1 ≤ s.size) && (decide (s.size ≤ 32) && lets s s.size 0)
theorem wr1w (i : Nat) (h : i ≤ 1048576) : wrap64 ((i : Int) + 1) = ((i + 1 : Nat) : Int) := by unfold wrap64; omega
theorem wordOk_l0 (s : ByteArray) (hs : s.size ≤ 1048576) : ∀ (d k i : Nat), s.size = i + d → d < k → spec_WordOk.l0 k s (i : Int) = some (lets s d i) := by
  intro d
  induction d with
  | zero =>
    intro k i hi hk
    obtain ⟨k, rfl⟩ : ∃ m, k = m + 1 := ⟨k - 1, by omega⟩
    simp only [spec_WordOk.l0]
    rw [if_neg (by omega)]; rfl
  | succ d ih =>
    intro k i hi hk
    obtain ⟨k, rfl⟩ : ∃ m, k = m + 1 := ⟨k - 1, by omega⟩
    simp only [spec_WordOk.l0]
    rw [if_pos (by omega), if_pos (by omega), wr1w i (by omega), ih k (i + 1) (by omega) (by omega)]
    rw [lets_succ]
    unfold letB
    by_cases c1 : bt s (i : Int) < 97
    · rw [if_pos c1, decide_eq_false (by omega)]; rfl
    · rw [if_neg c1, decide_eq_true (show 97 ≤ bt s (i : Int) by omega)]
      by_cases c2 : bt s (i : Int) > 122
      · rw [if_pos c2, decide_eq_false (by omega)]; rfl
      · rw [if_neg c2, decide_eq_true (show bt s (i : Int) ≤ 122 by omega)]; rfl
theorem wordOk_eq (s : ByteArray) (hs : s.size ≤ 1048576) (k : Nat) (hk : s.size + 1 < k) : spec_WordOk.f k s = some (wordB s) := by
  obtain ⟨k, rfl⟩ : ∃ m, k = m + 1 := ⟨k - 1, by omega⟩
  unfold spec_WordOk.f wordB
  by_cases c1 : (s.size : Int) < 1
  · rw [if_pos c1, decide_eq_false (by omega)]
    simp [spec_WordOk.j0]
  · rw [if_neg c1, decide_eq_true (show 1 ≤ s.size by omega)]
    by_cases c2 : (s.size : Int) > 32
    · rw [decide_eq_true c2, decide_eq_false (show ¬ s.size ≤ 32 by omega)]
      simp [spec_WordOk.j0]
    · rw [decide_eq_false c2, decide_eq_true (show s.size ≤ 32 by omega)]
      simp only [spec_WordOk.j0]
      have := wordOk_l0 s hs s.size k 0 (by omega) (by omega)
      rw [show ((0 : Nat) : Int) = 0 from rfl] at this
      rw [if_neg (by decide), this]; rfl
theorem within_eq (a b c : Int) : impl_within.f a b c = some (decide (b ≤ a) && decide (a ≤ c)) := by
  unfold impl_within.f
  by_cases c1 : a ≥ b
  · rw [if_pos c1, decide_eq_true (show b ≤ a from c1)]; rfl
  · rw [if_neg c1, decide_eq_false (show ¬ b ≤ a from c1)]; rfl
theorem isWord_l0 (s : ByteArray) (hs : s.size ≤ 1048576) : ∀ (d k i : Nat), s.size = i + d → d < k → impl_isWord.l0 k s (s.size : Int) (i : Int) = some (lets s d i && (decide (1 ≤ s.size) && decide (s.size ≤ 32))) := by
  intro d
  induction d with
  | zero =>
    intro k i hi hk
    obtain ⟨k, rfl⟩ : ∃ m, k = m + 1 := ⟨k - 1, by omega⟩
    simp only [impl_isWord.l0]
    rw [if_neg (by omega), within_eq]
    simp only [Option.bind_some, lets, Bool.true_and]
    congr 2
    · exact decide_eq_decide.2 (by omega)
    · exact decide_eq_decide.2 (by omega)
  | succ d ih =>
    intro k i hi hk
    obtain ⟨k, rfl⟩ : ∃ m, k = m + 1 := ⟨k - 1, by omega⟩
    simp only [impl_isWord.l0]
    rw [if_pos (by omega), if_pos (by omega), if_pos (by omega), wr1w i (by omega), ih k (i + 1) (by omega) (by omega)]
    rw [lets_succ]
    unfold letB
    by_cases c1 : bt s (i : Int) < 97
    · rw [if_pos c1, decide_eq_false (by omega)]; rfl
    · rw [if_neg c1, decide_eq_true (show 97 ≤ bt s (i : Int) by omega)]
      by_cases c2 : bt s (i : Int) > 122
      · rw [if_pos c2, decide_eq_false (by omega)]; rfl
      · rw [if_neg c2, decide_eq_true (show bt s (i : Int) ≤ 122 by omega)]; rfl
theorem isWord_eq (s : ByteArray) (hs : s.size ≤ 1048576) (k : Nat) (hk : s.size < k) : impl_isWord.f k s = some (wordB s) := by
  unfold impl_isWord.f wordB
  have := isWord_l0 s hs s.size k 0 (by omega) hk
  rw [show ((0 : Nat) : Int) = 0 from rfl] at this
  rw [this]
  congr 1
  cases lets s s.size 0 <;> cases decide (1 ≤ s.size) <;> cases decide (s.size ≤ 32) <;> rfl
def zeroB (a : Bool) (d w : Int) (s : ByteArray) : Bool := !a && (d == 0 && (w == 0 && (s.toList == ([] : List UInt8))))
def recB (a : Bool) (d w : Int) (s : ByteArray) : Bool := zeroB a d w s || (a && ((decide (0 ≤ d) && decide (d ≤ 7)) && ((decide (0 ≤ w) && decide (w ≤ 65535)) && wordB s)))
theorem recOk_eq (a : Bool) (d w : Int) (s : ByteArray) (hs : s.size ≤ 1048576) (k : Nat) (hk : s.size + 1 < k) : spec_RecOk.f k a d w s = some (recB a d w s) := by
  unfold spec_RecOk.f spec_l09Empty.f recB
  simp only [Option.bind_some]
  rw [show (!a && (d == 0 && (w == 0 && (s.toList == ([] : List UInt8))))) = zeroB a d w s from rfl]
  cases zeroB a d w s with
  | true => rfl
  | false =>
    rw [if_neg (by decide)]
    cases a with
    | false => rfl
    | true =>
      rw [if_pos rfl]
      by_cases c1 : d ≥ 0
      · rw [if_pos c1, decide_eq_true (show 0 ≤ d from c1)]
        by_cases c2 : d ≤ 7
        · rw [if_pos c2, decide_eq_true c2]
          by_cases c3 : w ≥ 0
          · rw [if_pos c3, decide_eq_true (show 0 ≤ w from c3)]
            by_cases c4 : w ≤ 65535
            · rw [if_pos c4, decide_eq_true c4, wordOk_eq s hs k hk]; rfl
            · rw [if_neg c4, decide_eq_false c4]; rfl
          · rw [if_neg c3, decide_eq_false (show ¬ 0 ≤ w from c3)]; rfl
        · rw [if_neg c2, decide_eq_false c2]; rfl
      · rw [if_neg c1, decide_eq_false (show ¬ 0 ≤ d from c1)]; rfl
theorem isRec_eq (a : Bool) (d w : Int) (s : ByteArray) (hs : s.size ≤ 1048576) (k : Nat) (hk : s.size < k) : impl_isRec.f k a d w s = some (recB a d w s) := by
  unfold impl_isRec.f recB
  rw [show (!a && (d == 0 && (w == 0 && (s.toList == ([] : List UInt8))))) = zeroB a d w s from rfl]
  cases zeroB a d w s with
  | true => rfl
  | false =>
    rw [if_neg (by decide)]
    cases a with
    | false => rfl
    | true =>
      rw [if_pos rfl, within_eq, within_eq]
      simp only [Option.bind_some]
      cases (decide (0 ≤ d) && decide (d ≤ 7)) with
      | false => rfl
      | true =>
        rw [if_pos rfl]
        cases (decide (0 ≤ w) && decide (w ≤ 65535)) with
        | false => rfl
        | true =>
          rw [if_pos rfl, isWord_eq s hs k hk]; rfl
theorem sz_rec (a : Bool) (d w : Int) (s : ByteArray) (h : s.size ≤ maxLen) (left : Int) (h0 : 0 ≤ left) (h1 : left ≤ 1048576) : laws_szRec.f a d w s left = some (if left < (s.size : Int) then -1 else left - (s.size : Int)) := by
  unfold maxLen at h
  unfold laws_szRec.f
  rw [show wrap64 (left - (s.size : Int)) = left - (s.size : Int) from by unfold wrap64; omega]
  by_cases c : left < (s.size : Int)
  · rw [if_pos c, if_pos (by omega)]
  · rw [if_neg c, if_neg (by omega)]
theorem wordCmp_l0 (a b : ByteArray) (ha : a.size ≤ 1048576) (hb : b.size ≤ 1048576) : ∀ (d k i : Nat), a.size = i + d → i ≤ b.size → 2 * d + 1 < k →
    ∃ r, spec_WordCmp.l0 k a b (i : Int) = some r ∧ decide (r < 0) = Op.bytesLess (a.data.toList.drop i) (b.data.toList.drop i) := by
  intro d
  induction d with
  | zero =>
    intro k i hi hj hk
    obtain ⟨k, rfl⟩ : ∃ m, k = m + 2 := ⟨k - 2, by omega⟩
    simp only [spec_WordCmp.l0]
    rw [if_neg (by omega)]
    simp only [spec_WordCmp.j1]
    rw [if_neg (by decide)]
    have e1 : a.data.toList.drop i = [] := List.drop_eq_nil_of_le (by rw [data_length]; omega)
    rw [e1]
    by_cases c : (a.size : Int) < (b.size : Int)
    · rw [if_pos c]
      refine ⟨_, rfl, ?_⟩
      have hlt : i < b.data.toList.length := by rw [data_length]; omega
      rw [List.drop_eq_getElem_cons hlt]; rfl
    · rw [if_neg c, if_neg (by omega)]
      refine ⟨_, rfl, ?_⟩
      rw [List.drop_eq_nil_of_le (by rw [data_length]; omega)]; rfl
  | succ d ih =>
    intro k i hi hj hk
    obtain ⟨k, rfl⟩ : ∃ m, k = m + 2 := ⟨k - 2, by omega⟩
    have hla : i < a.data.toList.length := by rw [data_length]; omega
    simp only [spec_WordCmp.l0]
    rw [if_pos (by omega)]
    simp only [spec_WordCmp.j1]
    by_cases c : (i : Int) < (b.size : Int)
    · have hlb : i < b.data.toList.length := by rw [data_length]; omega
      have ba : bt a (i : Int) = (a.data.toList[i].toNat : Int) := by
        have := bt_at a (i : Int) (by rw [Int.toNat_natCast]; omega)
        rw [← this]; simp [ByteArray.getElem_eq_getElem_data]
      have bb : bt b (i : Int) = (b.data.toList[i].toNat : Int) := by
        have := bt_at b (i : Int) (by rw [Int.toNat_natCast]; omega)
        rw [← this]; simp [ByteArray.getElem_eq_getElem_data]
      rw [decide_eq_true c, if_pos rfl, if_pos (by omega), if_pos (by omega), if_pos c, List.drop_eq_getElem_cons hla, List.drop_eq_getElem_cons hlb, ba, bb]
      generalize a.data.toList[i] = x
      generalize b.data.toList[i] = y
      have e : Op.bytesLess (x :: a.data.toList.drop (i + 1)) (y :: b.data.toList.drop (i + 1)) = (decide (x < y) || (x == y && Op.bytesLess (a.data.toList.drop (i + 1)) (b.data.toList.drop (i + 1)))) := rfl
      rw [e]
      by_cases c1 : (x.toNat : Int) < (y.toNat : Int)
      · rw [if_pos c1, decide_eq_true (show x < y by rw [UInt8.lt_iff_toNat_lt]; omega)]
        exact ⟨_, rfl, rfl⟩
      · rw [if_neg c1, decide_eq_false (show ¬ x < y by rw [UInt8.lt_iff_toNat_lt]; omega)]
        by_cases c2 : (x.toNat : Int) > (y.toNat : Int)
        · have hne : (x == y) = false := by
            rw [beq_eq_false_iff_ne]; intro h; subst h; omega
          rw [if_pos c2, hne]
          exact ⟨_, rfl, rfl⟩
        · have heq : x = y := UInt8.toNat_inj.1 (by omega)
          rw [if_neg c2, heq, wr1w i (by omega)]
          obtain ⟨r, h1, h2⟩ := ih k (i + 1) (by omega) (by omega) (by omega)
          refine ⟨r, h1, ?_⟩
          rw [h2]; simp
    · rw [decide_eq_false c, if_neg (by decide), if_neg (by omega), if_pos (by omega)]
      refine ⟨_, rfl, ?_⟩
      have e1 : b.data.toList.drop i = [] := List.drop_eq_nil_of_le (by rw [data_length]; omega)
      rw [e1]
      rcases a.data.toList.drop i with _ | ⟨x, l⟩ <;> rfl
def lessB (a b : ByteArray) : Bool := Op.bytesLess a.data.toList b.data.toList
theorem wordCmp_eq (a b : ByteArray) (ha : a.size ≤ 1048576) (hb : b.size ≤ 1048576) (k : Nat) (hk : 2 * a.size + 1 < k) : ∃ r, spec_WordCmp.f k a b = some r ∧ decide (r < 0) = lessB a b := by
  obtain ⟨r, h1, h2⟩ := wordCmp_l0 a b ha hb a.size k 0 (by omega) (by omega) hk
  exact ⟨r, h1, by rw [h2]; simp [lessB]⟩
def cmpI (a b : Int) : Int := if a < b then -1 else if a > b then 1 else 0
theorem cmpI_eq (a b : Int) : cmp_Compare_int.f a b = some (cmpI a b) := by
  unfold cmp_Compare_int.f cmp_isNaN_int.f cmpI
  simp only [Option.bind_some, bne_self_eq_false]
  rw [if_neg (by decide), if_neg (by decide)]
  by_cases c1 : a < b
  · rw [if_pos c1, if_pos c1]
  · rw [if_neg c1, if_neg c1]
    by_cases c2 : a > b
    · rw [if_pos c2, if_pos c2]
    · rw [if_neg c2, if_neg c2]
def cmpS (a b : ByteArray) : Int := if lessB a b = true then -1 else if lessB b a = true then 1 else 0
theorem cmpS_eq (a b : ByteArray) : cmp_Compare_string.f a b = some (cmpS a b) := by
  unfold cmp_Compare_string.f cmp_isNaN_string.f cmpS
  simp only [Option.bind_some, bne_self_eq_false, ByteArray.toList_eq]
  rw [if_neg (by decide), if_neg (by decide)]
  unfold lessB
  cases Op.bytesLess a.data.toList b.data.toList <;> cases Op.bytesLess b.data.toList a.data.toList <;> rfl
theorem or3 (k : Nat) (hk : 4 ≤ k) (x y z : Int) : cmp_Or_int.f k [x, y, z] = some (if x = 0 then (if y = 0 then z else y) else x) := by
  obtain ⟨k, rfl⟩ : ∃ m, k = m + 4 := ⟨k - 4, by omega⟩
  unfold cmp_Or_int.f
  show cmp_Or_int.l0 (k + 4) 0 [x, y, z] 3 0 = _
  have e1 : cmp_Or_int.l0 (k + 1) 0 [x, y, z] 3 3 = some 0 := by
    rw [cmp_Or_int.l0, if_neg (by decide)]
  have e2 : cmp_Or_int.l0 (k + 2) 0 [x, y, z] 3 2 = some z := by
    rw [cmp_Or_int.l0, if_pos (by decide), if_pos (by decide), if_pos (by simp)]
    rw [show rd [x, y, z] 2 = z from rfl, show wrap64 (2 + 1) = 3 from by unfold wrap64; omega]
    rw [e1]
    by_cases c : z = 0
    · rw [if_pos c, c]
    · rw [if_neg c]
  have e3 : cmp_Or_int.l0 (k + 3) 0 [x, y, z] 3 1 = some (if y = 0 then z else y) := by
    rw [cmp_Or_int.l0, if_pos (by decide), if_pos (by decide), if_pos (by simp)]
    rw [show rd [x, y, z] 1 = y from rfl, show wrap64 (1 + 1) = 2 from by unfold wrap64; omega]
    rw [e2]
    by_cases c : y = 0
    · rw [if_pos c, if_pos c]
    · rw [if_neg c, if_neg c]
  rw [cmp_Or_int.l0, if_pos (by decide), if_pos (by decide), if_pos (by simp)]
  rw [show rd [x, y, z] 0 = x from rfl, show wrap64 (0 + 1) = 1 from by unfold wrap64; omega]
  rw [e3]
  by_cases c : x = 0
  · rw [if_pos c, if_pos c]
  · rw [if_neg c, if_neg c]
/-- Does a precede b? -/
def aheadB (a0 : Bool) (a1 a2 : Int) (a3 : ByteArray) (b0 : Bool) (b1 b2 : Int) (b3 : ByteArray) : Bool :=
  if (a0 && b0) = true then (if a1 = b1 then (if a2 = b2 then lessB a3 b3 else decide (b2 < a2)) else decide (a1 < b1)) else a0 && !b0
theorem isAhead_eq (a0 : Bool) (a1 a2 : Int) (a3 : ByteArray) (b0 : Bool) (b1 b2 : Int) (b3 : ByteArray) (k : Nat) (hk : 5 ≤ k) : impl_isAhead.f k a0 a1 a2 a3 b0 b1 b2 b3 = some (aheadB a0 a1 a2 a3 b0 b1 b2 b3) := by
  obtain ⟨k, rfl⟩ : ∃ m, k = m + 1 := ⟨k - 1, by omega⟩
  unfold impl_isAhead.f aheadB
  cases a0 with
  | false => simp [impl_isAhead.j0]
  | true =>
    cases b0 with
    | false => simp [impl_isAhead.j0]
    | true =>
      rw [if_pos rfl]
      simp only [impl_isAhead.j0]
      rw [if_neg (by decide), cmpI_eq, cmpI_eq, cmpS_eq]
      simp only [Option.bind_some]
      rw [or3 k (by omega), if_pos (show (true && true) = true from rfl)]
      simp only [Option.bind_some]
      congr 1
      unfold cmpI cmpS
      by_cases c1 : a1 = b1
      · rw [if_pos c1, if_neg (show ¬ a1 < b1 by omega), if_neg (show ¬ a1 > b1 by omega), if_pos rfl]
        by_cases c2 : a2 = b2
        · rw [if_pos c2, if_neg (show ¬ b2 < a2 by omega), if_neg (show ¬ b2 > a2 by omega), if_pos rfl]
          cases lessB a3 b3 with
          | true => rfl
          | false =>
            rw [if_neg (by decide)]
            cases lessB b3 a3 <;> rfl
        · rw [if_neg c2]
          by_cases c3 : b2 < a2
          · rw [if_pos c3, if_neg (by decide), decide_eq_true c3]; rfl
          · rw [if_neg c3, if_pos (show b2 > a2 by omega), if_neg (by decide), decide_eq_false c3]; rfl
      · rw [if_neg c1]
        by_cases c3 : a1 < b1
        · rw [if_pos c3, if_neg (by decide), decide_eq_true c3]; rfl
        · rw [if_neg c3, if_pos (show a1 > b1 by omega), if_neg (by decide), decide_eq_false c3]; rfl
theorem specAhead_eq (a0 : Bool) (a1 a2 : Int) (a3 : ByteArray) (b0 : Bool) (b1 b2 : Int) (b3 : ByteArray) (ha : a3.size ≤ 1048576) (hb : b3.size ≤ 1048576) (k : Nat) (hk : 2 * a3.size + b3.size + 5 < k) :
    spec_RecAhead.f k a0 a1 a2 a3 b0 b1 b2 b3 = some (recB a0 a1 a2 a3 && (recB b0 b1 b2 b3 && aheadB a0 a1 a2 a3 b0 b1 b2 b3)) := by
  obtain ⟨k, rfl⟩ : ∃ m, k = m + 1 := ⟨k - 1, by omega⟩
  unfold spec_RecAhead.f
  rw [recOk_eq _ _ _ _ ha _ (by omega), recOk_eq _ _ _ _ hb _ (by omega)]
  simp only [Option.bind_some]
  cases recB a0 a1 a2 a3 with
  | false => simp [spec_RecAhead.j0]
  | true =>
    rw [if_pos rfl]
    cases recB b0 b1 b2 b3 with
    | false => simp [spec_RecAhead.j0]
    | true =>
      rw [if_pos rfl]
      unfold aheadB
      cases a0 with
      | false => simp [spec_RecAhead.j0]
      | true =>
        simp only [spec_RecAhead.j0]
        rw [if_neg (by decide)]
        cases b0 with
        | false => rfl
        | true =>
          rw [if_pos rfl, if_pos (show (true && true) = true from rfl)]
          by_cases c1 : a1 = b1
          · rw [if_pos c1, if_pos c1]
            by_cases c2 : a2 = b2
            · rw [if_pos c2, if_pos c2]
              obtain ⟨r, h1, h2⟩ := wordCmp_eq a3 b3 ha hb k (by omega)
              rw [h1]
              simp [h2]
            · rw [if_neg c2, if_neg c2]; simp
          · rw [if_neg c1, if_neg c1]; simp
/-- The pair, the one that precedes ahead. -/
def swapsB (a0 : Bool) (a1 a2 : Int) (a3 : ByteArray) (b0 : Bool) (b1 b2 : Int) (b3 : ByteArray) : Bool := recB a0 a1 a2 a3 && (recB b0 b1 b2 b3 && aheadB b0 b1 b2 b3 a0 a1 a2 a3)
theorem specPair_eq (a0 : Bool) (a1 a2 : Int) (a3 : ByteArray) (b0 : Bool) (b1 b2 : Int) (b3 : ByteArray) (ha : a3.size ≤ 1048576) (hb : b3.size ≤ 1048576) (k : Nat) (hk : 2 * b3.size + a3.size + 5 < k) :
    spec_RecPair.f k a0 a1 a2 a3 b0 b1 b2 b3 = some (if swapsB a0 a1 a2 a3 b0 b1 b2 b3 = true then (b0, b1, b2, b3, a0, a1, a2, a3) else (a0, a1, a2, a3, b0, b1, b2, b3)) := by
  unfold spec_RecPair.f
  rw [specAhead_eq _ _ _ _ _ _ _ _ hb ha k hk]
  simp only [Option.bind_some]
  have e : (recB b0 b1 b2 b3 && (recB a0 a1 a2 a3 && aheadB b0 b1 b2 b3 a0 a1 a2 a3)) = swapsB a0 a1 a2 a3 b0 b1 b2 b3 := by
    unfold swapsB
    cases recB b0 b1 b2 b3 <;> cases recB a0 a1 a2 a3 <;> rfl
  rw [e]
  cases swapsB a0 a1 a2 a3 b0 b1 b2 b3 <;> rfl
theorem eqRec_eq (a0 : Bool) (a1 a2 : Int) (a3 : ByteArray) : laws_eqRec.f a0 a1 a2 a3 a0 a1 a2 a3 = some true := by
  unfold laws_eqRec.f
  simp
theorem implPair_eq (a0 : Bool) (a1 a2 : Int) (a3 : ByteArray) (b0 : Bool) (b1 b2 : Int) (b3 : ByteArray) (ha : a3.size ≤ 1048576) (hb : b3.size ≤ 1048576) (k : Nat) (hk : a3.size + b3.size + 5 < k) :
    impl_RecPair.f k a0 a1 a2 a3 b0 b1 b2 b3 = some (if swapsB a0 a1 a2 a3 b0 b1 b2 b3 = true then (b0, b1, b2, b3, a0, a1, a2, a3) else (a0, a1, a2, a3, b0, b1, b2, b3)) := by
  unfold impl_RecPair.f swapsB
  rw [isRec_eq a0 a1 a2 a3 ha _ (by omega), isRec_eq b0 b1 b2 b3 hb _ (by omega), isAhead_eq _ _ _ _ _ _ _ _ _ (by omega)]
  simp only [Option.bind_some]
  cases recB a0 a1 a2 a3 <;> cases recB b0 b1 b2 b3 <;> cases aheadB b0 b1 b2 b3 a0 a1 a2 a3 <;> rfl
theorem FnExactRecPair (x0 : S23) (w0 : ok23 x0) (x1 : S23) (w1 : ok23 x1) : ∃ k, laws_FnExactRecPair.f k x0.f0 x0.f1 x0.f2 x0.f3 x1.f0 x1.f1 x1.f2 x1.f3 = some true := by
  obtain ⟨a, d, w, s⟩ := x0
  obtain ⟨a', d', w', s'⟩ := x1
  obtain ⟨_, _, _, hl⟩ := w0
  obtain ⟨_, _, _, hl'⟩ := w1
  simp only at hl hl' ⊢
  refine ⟨2 * s'.size + 2 * s.size + 20, ?_⟩
  unfold laws_FnExactRecPair.f laws_toRec.f
  rw [sz_rec a d w s hl 1048576 (by omega) (by omega)]
  simp only [Option.bind_some]
  by_cases c : (1048576 : Int) < (s.size : Int)
  · rw [if_pos c, if_pos (by omega)]
  · rw [if_neg c, if_neg (by omega), sz_rec a' d' w' s' hl' _ (by omega) (by omega)]
    simp only [Option.bind_some]
    by_cases c' : 1048576 - (s.size : Int) < (s'.size : Int)
    · rw [if_pos c', if_pos (by omega)]
    · rw [if_neg c', if_neg (by omega), specPair_eq _ _ _ _ _ _ _ _ (by omega) (by omega) _ (by omega), implPair_eq _ _ _ _ _ _ _ _ (by omega) (by omega) _ (by omega)]
      simp only [Option.bind_some, eqRec_eq, if_true]

end Go.Proofs.Ytmhikpfaoacgpaa.Pure

/- For all bytes the law answers true: of two different records exactly one precedes the other, and this is transitive. -/
import Derived.Test.YtmlbkanpdhnfeaaPFnAheadx9
import Derived.Lib.Strings
namespace Go.Proofs.Ytmlbkanpdhnfeaa.Pure
open Go.RowKit Go.Proofs.Ytmlbkanpdhnfeaa.PFnAhead Go.Proofs.YtmlbkanpdhnfeaaW.PrintWords Go.Proofs.YtmlbkanpdhnfeaaW.PrintLast Go.Proofs.YtmlbkanpdhnfeaaW.PrintMore
set_option linter.unusedVariables false
set_option linter.unusedSimpArgs false

def letB (c : Int) : Bool := decide (97 ≤ c) && decide (c ≤ 122)
/-- Are the d bytes from i on letters? -/
def lets (s : ByteArray) : Nat → Nat → Bool
  | 0, _ => true
  | d + 1, i => letB (bt s (i : Int)) && lets s d (i + 1)
theorem lets_succ (s : ByteArray) (d i : Nat) : lets s (d + 1) i = (letB (bt s (i : Int)) && lets s d (i + 1)) := rfl
def wordB (s : ByteArray) : Bool := decide (1 ≤ s.size) && (decide (s.size ≤ 32) && lets s s.size 0)
theorem wr1w (i : Nat) (h : i ≤ 1048576) : wrap64 ((i : Int) + 1) = ((i + 1 : Nat) : Int) := by unfold wrap64; omega
theorem wordOk_l0 (s : ByteArray) (hs : s.size ≤ 1048576) : ∀ (d k i : Nat), s.size = i + d → d < k → spec_WordOk.l0 k s (i : Int) = some (lets s d i) := by
  intro d
  induction d with
  | zero =>
    intro k i hi hk
    obtain ⟨k, rfl⟩ : ∃ m, k = m + 1 := ⟨k - 1, by omega⟩
    simp only [spec_WordOk.l0]
    rw [if_neg (by omega)]; rfl
  | succ d ih =>
    intro k i hi hk
    obtain ⟨k, rfl⟩ : ∃ m, k = m + 1 := ⟨k - 1, by omega⟩
    simp only [spec_WordOk.l0]
    rw [if_pos (by omega), if_pos (by omega), wr1w i (by omega), ih k (i + 1) (by omega) (by omega)]
    rw [lets_succ]
    unfold letB
    by_cases c1 : bt s (i : Int) < 97
    · rw [if_pos c1, decide_eq_false (by omega)]; rfl
    · rw [if_neg c1, decide_eq_true (show 97 ≤ bt s (i : Int) by omega)]
      by_cases c2 : bt s (i : Int) > 122
      · rw [if_pos c2, decide_eq_false (by omega)]; rfl
      · rw [if_neg c2, decide_eq_true (show bt s (i : Int) ≤ 122 by omega)]; rfl
theorem wordOk_eq (s : ByteArray) (hs : s.size ≤ 1048576) (k : Nat) (hk : s.size + 1 < k) : spec_WordOk.f k s = some (wordB s) := by
  obtain ⟨k, rfl⟩ : ∃ m, k = m + 1 := ⟨k - 1, by omega⟩
  unfold spec_WordOk.f wordB
  by_cases c1 : (s.size : Int) < 1
  · rw [if_pos c1, decide_eq_false (by omega)]
    simp [spec_WordOk.j0]
  · rw [if_neg c1, decide_eq_true (show 1 ≤ s.size by omega)]
    by_cases c2 : (s.size : Int) > 32
    · rw [decide_eq_true c2, decide_eq_false (show ¬ s.size ≤ 32 by omega)]
      simp [spec_WordOk.j0]
    · rw [decide_eq_false c2, decide_eq_true (show s.size ≤ 32 by omega)]
      simp only [spec_WordOk.j0]
      have := wordOk_l0 s hs s.size k 0 (by omega) (by omega)
      rw [show ((0 : Nat) : Int) = 0 from rfl] at this
      rw [if_neg (by decide), this]; rfl
theorem within_eq (a b c : Int) : impl_within.f a b c = some (decide (b ≤ a) && decide (a ≤ c)) := by
  unfold impl_within.f
  by_cases c1 : a ≥ b
  · rw [if_pos c1, decide_eq_true (show b ≤ a from c1)]; rfl
  · rw [if_neg c1, decide_eq_false (show ¬ b ≤ a from c1)]; rfl
theorem isWord_l0 (s : ByteArray) (hs : s.size ≤ 1048576) : ∀ (d k i : Nat), s.size = i + d → d < k → impl_isWord.l0 k s (s.size : Int) (i : Int) = some (lets s d i && (decide (1 ≤ s.size) && decide (s.size ≤ 32))) := by
  intro d
  induction d with
  | zero =>
    intro k i hi hk
    obtain ⟨k, rfl⟩ : ∃ m, k = m + 1 := ⟨k - 1, by omega⟩
    simp only [impl_isWord.l0]
    rw [if_neg (by omega), within_eq]
    simp only [Option.bind_some, lets, Bool.true_and]
    congr 2
    · exact decide_eq_decide.2 (by omega)
    · exact decide_eq_decide.2 (by omega)
  | succ d ih =>
    intro k i hi hk
    obtain ⟨k, rfl⟩ : ∃ m, k = m + 1 := ⟨k - 1, by omega⟩
    simp only [impl_isWord.l0]
    rw [if_pos (by omega), if_pos (by omega), if_pos (by omega), wr1w i (by omega), ih k (i + 1) (by omega) (by omega)]
    rw [lets_succ]
    unfold letB
    by_cases c1 : bt s (i : Int) < 97
    · rw [if_pos c1, decide_eq_false (by omega)]; rfl
    · rw [if_neg c1, decide_eq_true (show 97 ≤ bt s (i : Int) by omega)]
      by_cases c2 : bt s (i : Int) > 122
      · rw [if_pos c2, decide_eq_false (by omega)]; rfl
      · rw [if_neg c2, decide_eq_true (show bt s (i : Int) ≤ 122 by omega)]; rfl
theorem isWord_eq (s : ByteArray) (hs : s.size ≤ 1048576) (k : Nat) (hk : s.size < k) : impl_isWord.f k s = some (wordB s) := by
  unfold impl_isWord.f wordB
  have := isWord_l0 s hs s.size k 0 (by omega) hk
  rw [show ((0 : Nat) : Int) = 0 from rfl] at this
  rw [this]
  congr 1
  cases lets s s.size 0 <;> cases decide (1 ≤ s.size) <;> cases decide (s.size ≤ 32) <;> rfl

def zeroB (a : Bool) (d w : Int) (s : ByteArray) : Bool := !a && (d == 0 && (w == 0 && (s.toList == ([] : List UInt8))))
def recB (a : Bool) (d w : Int) (s : ByteArray) : Bool := zeroB a d w s || (a && ((decide (0 ≤ d) && decide (d ≤ 7)) && ((decide (0 ≤ w) && decide (w ≤ 65535)) && wordB s)))
theorem recOk_eq (a : Bool) (d w : Int) (s : ByteArray) (hs : s.size ≤ 1048576) (k : Nat) (hk : s.size + 1 < k) : spec_RecOk.f k a d w s = some (recB a d w s) := by
  unfold spec_RecOk.f spec_l09Empty.f recB
  simp only [Option.bind_some]
  rw [show (!a && (d == 0 && (w == 0 && (s.toList == ([] : List UInt8))))) = zeroB a d w s from rfl]
  cases zeroB a d w s with
  | true => rfl
  | false =>
    rw [if_neg (by decide)]
    cases a with
    | false => rfl
    | true =>
      rw [if_pos rfl]
      by_cases c1 : d ≥ 0
      · rw [if_pos c1, decide_eq_true (show 0 ≤ d from c1)]
        by_cases c2 : d ≤ 7
        · rw [if_pos c2, decide_eq_true c2]
          by_cases c3 : w ≥ 0
          · rw [if_pos c3, decide_eq_true (show 0 ≤ w from c3)]
            by_cases c4 : w ≤ 65535
            · rw [if_pos c4, decide_eq_true c4, wordOk_eq s hs k hk]; rfl
            · rw [if_neg c4, decide_eq_false c4]; rfl
          · rw [if_neg c3, decide_eq_false (show ¬ 0 ≤ w from c3)]; rfl
        · rw [if_neg c2, decide_eq_false c2]; rfl
      · rw [if_neg c1, decide_eq_false (show ¬ 0 ≤ d from c1)]; rfl
theorem isRec_eq (a : Bool) (d w : Int) (s : ByteArray) (hs : s.size ≤ 1048576) (k : Nat) (hk : s.size < k) : impl_isRec.f k a d w s = some (recB a d w s) := by
  unfold impl_isRec.f recB
  rw [show (!a && (d == 0 && (w == 0 && (s.toList == ([] : List UInt8))))) = zeroB a d w s from rfl]
  cases zeroB a d w s with
  | true => rfl
  | false =>
    rw [if_neg (by decide)]
    cases a with
    | false => rfl
    | true =>
      rw [if_pos rfl, within_eq, within_eq]
      simp only [Option.bind_some]
      cases (decide (0 ≤ d) && decide (d ≤ 7)) with
      | false => rfl
      | true =>
        rw [if_pos rfl]
        cases (decide (0 ≤ w) && decide (w ≤ 65535)) with
        | false => rfl
        | true =>
          rw [if_pos rfl, isWord_eq s hs k hk]; rfl
theorem wordCmp_l0 (a b : ByteArray) (ha : a.size ≤ 1048576) (hb : b.size ≤ 1048576) : ∀ (d k i : Nat), a.size = i + d → i ≤ b.size → 2 * d + 1 < k →
    ∃ r, spec_WordCmp.l0 k a b (i : Int) = some r ∧ decide (r < 0) = Op.bytesLess (a.data.toList.drop i) (b.data.toList.drop i) := by
  intro d
  induction d with
  | zero =>
    intro k i hi hj hk
    obtain ⟨k, rfl⟩ : ∃ m, k = m + 2 := ⟨k - 2, by omega⟩
    simp only [spec_WordCmp.l0]
    rw [if_neg (by omega)]
    simp only [spec_WordCmp.j1]
    rw [if_neg (by decide)]
    have e1 : a.data.toList.drop i = [] := List.drop_eq_nil_of_le (by rw [data_length]; omega)
    rw [e1]
    by_cases c : (a.size : Int) < (b.size : Int)
    · rw [if_pos c]
      refine ⟨_, rfl, ?_⟩
      have hlt : i < b.data.toList.length := by rw [data_length]; omega
      rw [List.drop_eq_getElem_cons hlt]; rfl
    · rw [if_neg c, if_neg (by omega)]
      refine ⟨_, rfl, ?_⟩
      rw [List.drop_eq_nil_of_le (by rw [data_length]; omega)]; rfl
  | succ d ih =>
    intro k i hi hj hk
    obtain ⟨k, rfl⟩ : ∃ m, k = m + 2 := ⟨k - 2, by omega⟩
    have hla : i < a.data.toList.length := by rw [data_length]; omega
    simp only [spec_WordCmp.l0]
    rw [if_pos (by omega)]
    simp only [spec_WordCmp.j1]
    by_cases c : (i : Int) < (b.size : Int)
    · have hlb : i < b.data.toList.length := by rw [data_length]; omega
      have ba : bt a (i : Int) = (a.data.toList[i].toNat : Int) := by
        have := bt_at a (i : Int) (by rw [Int.toNat_natCast]; omega)
        rw [← this]; simp [ByteArray.getElem_eq_getElem_data]
      have bb : bt b (i : Int) = (b.data.toList[i].toNat : Int) := by
        have := bt_at b (i : Int) (by rw [Int.toNat_natCast]; omega)
        rw [← this]; simp [ByteArray.getElem_eq_getElem_data]
      rw [decide_eq_true c, if_pos rfl, if_pos (by omega), if_pos (by omega), if_pos c, List.drop_eq_getElem_cons hla, List.drop_eq_getElem_cons hlb, ba, bb]
      generalize a.data.toList[i] = x
      generalize b.data.toList[i] = y
      have e : Op.bytesLess (x :: a.data.toList.drop (i + 1)) (y :: b.data.toList.drop (i + 1)) = (decide (x < y) || (x == y && Op.bytesLess (a.data.toList.drop (i + 1)) (b.data.toList.drop (i + 1)))) := rfl
      rw [e]
      by_cases c1 : (x.toNat : Int) < (y.toNat : Int)
      · rw [if_pos c1, decide_eq_true (show x < y by rw [UInt8.lt_iff_toNat_lt]; omega)]
        exact ⟨_, rfl, rfl⟩
      · rw [if_neg c1, decide_eq_false (show ¬ x < y by rw [UInt8.lt_iff_toNat_lt]; omega)]
        by_cases c2 : (x.toNat : Int) > (y.toNat : Int)
        · have hne : (x == y) = false := by
            rw [beq_eq_false_iff_ne]; intro h; subst h; omega
          rw [if_pos c2, hne]
          exact ⟨_, rfl, rfl⟩
        · have heq : x = y := UInt8.toNat_inj.1 (by omega)
          rw [if_neg c2, heq, wr1w i (by omega)]
          obtain ⟨r, h1, h2⟩ := ih k (i + 1) (by omega) (by omega) (by omega)
          refine ⟨r, h1, ?_⟩
          rw [h2]; simp
    · rw [decide_eq_false c, if_neg (by decide), if_neg (by omega), if_pos (by omega)]
      refine ⟨_, rfl, ?_⟩
      have e1 : b.data.toList.drop i = [] := List.drop_eq_nil_of_le (by rw [data_length]; omega)
      rw [e1]
      rcases a.data.toList.drop i with _ | ⟨x, l⟩ <;> rfl
def lessB (a b : ByteArray) : Bool := Op.bytesLess a.data.toList b.data.toList
theorem wordCmp_eq (a b : ByteArray) (ha : a.size ≤ 1048576) (hb : b.size ≤ 1048576) (k : Nat) (hk : 2 * a.size + 1 < k) : ∃ r, spec_WordCmp.f k a b = some r ∧ decide (r < 0) = lessB a b := by
  obtain ⟨r, h1, h2⟩ := wordCmp_l0 a b ha hb a.size k 0 (by omega) (by omega) hk
  exact ⟨r, h1, by rw [h2]; simp [lessB]⟩
def cmpI (a b : Int) : Int := if a < b then -1 else if a > b then 1 else 0
theorem cmpI_eq (a b : Int) : cmp_Compare_int.f a b = some (cmpI a b) := by
  unfold cmp_Compare_int.f cmp_isNaN_int.f cmpI
  simp only [Option.bind_some, bne_self_eq_false]
  rw [if_neg (by decide), if_neg (by decide)]
  by_cases c1 : a < b
  · rw [if_pos c1, if_pos c1]
  · rw [if_neg c1, if_neg c1]
    by_cases c2 : a > b
    · rw [if_pos c2, if_pos c2]
    · rw [if_neg c2, if_neg c2]
def cmpS (a b : ByteArray) : Int := if lessB a b = true then -1 else if lessB b a = true then 1 else 0
theorem cmpS_eq (a b : ByteArray) : cmp_Compare_string.f a b = some (cmpS a b) := by
  unfold cmp_Compare_string.f cmp_isNaN_string.f cmpS
  simp only [Option.bind_some, bne_self_eq_false, ByteArray.toList_eq]
  rw [if_neg (by decide), if_neg (by decide)]
  unfold lessB
  cases Op.bytesLess a.data.toList b.data.toList <;> cases Op.bytesLess b.data.toList a.data.toList <;> rfl
theorem or3 (k : Nat) (hk : 4 ≤ k) (x y z : Int) : cmp_Or_int.f k [x, y, z] = some (if x = 0 then (if y = 0 then z else y) else x) := by
  obtain ⟨k, rfl⟩ : ∃ m, k = m + 4 := ⟨k - 4, by omega⟩
  unfold cmp_Or_int.f
  show cmp_Or_int.l0 (k + 4) 0 [x, y, z] 3 0 = _
  have e1 : cmp_Or_int.l0 (k + 1) 0 [x, y, z] 3 3 = some 0 := by
    rw [cmp_Or_int.l0, if_neg (by decide)]
  have e2 : cmp_Or_int.l0 (k + 2) 0 [x, y, z] 3 2 = some z := by
    rw [cmp_Or_int.l0, if_pos (by decide), if_pos (by decide), if_pos (by simp)]
    rw [show rd [x, y, z] 2 = z from rfl, show wrap64 (2 + 1) = 3 from by unfold wrap64; omega]
    rw [e1]
    by_cases c : z = 0
    · rw [if_pos c, c]
    · rw [if_neg c]
  have e3 : cmp_Or_int.l0 (k + 3) 0 [x, y, z] 3 1 = some (if y = 0 then z else y) := by
    rw [cmp_Or_int.l0, if_pos (by decide), if_pos (by decide), if_pos (by simp)]
    rw [show rd [x, y, z] 1 = y from rfl, show wrap64 (1 + 1) = 2 from by unfold wrap64; omega]
    rw [e2]
    by_cases c : y = 0
    · rw [if_pos c, if_pos c]
    · rw [if_neg c, if_neg c]
  rw [cmp_Or_int.l0, if_pos (by decide), if_pos (by decide), if_pos (by simp)]
  rw [show rd [x, y, z] 0 = x from rfl, show wrap64 (0 + 1) = 1 from by unfold wrap64; omega]
  rw [e3]
  by_cases c : x = 0
  · rw [if_pos c, if_pos c]
  · rw [if_neg c, if_neg c]
/-- Does a precede b? -/
def aheadB (a0 : Bool) (a1 a2 : Int) (a3 : ByteArray) (b0 : Bool) (b1 b2 : Int) (b3 : ByteArray) : Bool :=
  if (a0 && b0) = true then (if a1 = b1 then (if a2 = b2 then lessB a3 b3 else decide (b2 < a2)) else decide (a1 < b1)) else a0 && !b0
theorem isAhead_eq (a0 : Bool) (a1 a2 : Int) (a3 : ByteArray) (b0 : Bool) (b1 b2 : Int) (b3 : ByteArray) (k : Nat) (hk : 5 ≤ k) : impl_isAhead.f k a0 a1 a2 a3 b0 b1 b2 b3 = some (aheadB a0 a1 a2 a3 b0 b1 b2 b3) := by
  obtain ⟨k, rfl⟩ : ∃ m, k = m + 1 := ⟨k - 1, by omega⟩
  unfold impl_isAhead.f aheadB
  cases a0 with
  | false => simp [impl_isAhead.j0]
  | true =>
    cases b0 with
    | false => simp [impl_isAhead.j0]
    | true =>
      rw [if_pos rfl]
      simp only [impl_isAhead.j0]
      rw [if_neg (by decide), cmpI_eq, cmpI_eq, cmpS_eq]
      simp only [Option.bind_some]
      rw [or3 k (by omega), if_pos (show (true && true) = true from rfl)]
      simp only [Option.bind_some]
      congr 1
      unfold cmpI cmpS
      by_cases c1 : a1 = b1
      · rw [if_pos c1, if_neg (show ¬ a1 < b1 by omega), if_neg (show ¬ a1 > b1 by omega), if_pos rfl]
        by_cases c2 : a2 = b2
        · rw [if_pos c2, if_neg (show ¬ b2 < a2 by omega), if_neg (show ¬ b2 > a2 by omega), if_pos rfl]
          cases lessB a3 b3 with
          | true => rfl
          | false =>
            rw [if_neg (by decide)]
            cases lessB b3 a3 <;> rfl
        · rw [if_neg c2]
          by_cases c3 : b2 < a2
          · rw [if_pos c3, if_neg (by decide), decide_eq_true c3]; rfl
          · rw [if_neg c3, if_pos (show b2 > a2 by omega), if_neg (by decide), decide_eq_false c3]; rfl
      · rw [if_neg c1]
        by_cases c3 : a1 < b1
        · rw [if_pos c3, if_neg (by decide), decide_eq_true c3]; rfl
        · rw [if_neg c3, if_pos (show a1 > b1 by omega), if_neg (by decide), decide_eq_false c3]; rfl
theorem specAhead_eq (a0 : Bool) (a1 a2 : Int) (a3 : ByteArray) (b0 : Bool) (b1 b2 : Int) (b3 : ByteArray) (ha : a3.size ≤ 1048576) (hb : b3.size ≤ 1048576) (k : Nat) (hk : 2 * a3.size + b3.size + 5 < k) :
    spec_RecAhead.f k a0 a1 a2 a3 b0 b1 b2 b3 = some (recB a0 a1 a2 a3 && (recB b0 b1 b2 b3 && aheadB a0 a1 a2 a3 b0 b1 b2 b3)) := by
  obtain ⟨k, rfl⟩ : ∃ m, k = m + 1 := ⟨k - 1, by omega⟩
  unfold spec_RecAhead.f
  rw [recOk_eq _ _ _ _ ha _ (by omega), recOk_eq _ _ _ _ hb _ (by omega)]
  simp only [Option.bind_some]
  cases recB a0 a1 a2 a3 with
  | false => simp [spec_RecAhead.j0]
  | true =>
    rw [if_pos rfl]
    cases recB b0 b1 b2 b3 with
    | false => simp [spec_RecAhead.j0]
    | true =>
      rw [if_pos rfl]
      unfold aheadB
      cases a0 with
      | false => simp [spec_RecAhead.j0]
      | true =>
        simp only [spec_RecAhead.j0]
        rw [if_neg (by decide)]
        cases b0 with
        | false => rfl
        | true =>
          rw [if_pos rfl, if_pos (show (true && true) = true from rfl)]
          by_cases c1 : a1 = b1
          · rw [if_pos c1, if_pos c1]
            by_cases c2 : a2 = b2
            · rw [if_pos c2, if_pos c2]
              obtain ⟨r, h1, h2⟩ := wordCmp_eq a3 b3 ha hb k (by omega)
              rw [h1]
              simp [h2]
            · rw [if_neg c2, if_neg c2]; simp
          · rw [if_neg c1, if_neg c1]; simp
theorem bl_eq : ∀ (x y : List UInt8), Op.bytesLess x y = decide (x < y)
  | [], [] => by simp [Op.bytesLess]
  | _ :: _, [] => by simp [Op.bytesLess]
  | [], _ :: _ => by simp [Op.bytesLess]
  | a :: x, b :: y => by
    rw [Op.bytesLess, bl_eq x y]
    simp only [List.cons_lt_cons_iff]
    by_cases h1 : a < b <;> by_cases h2 : a = b <;> by_cases h3 : x < y <;> simp [h1, h2, h3]
theorem lessB_irrefl (a : ByteArray) : lessB a a = false := by
  unfold lessB; rw [bl_eq]; exact decide_eq_false (List.lt_irrefl _)
theorem lessB_asymm (a b : ByteArray) (h : lessB a b = true) : lessB b a = false := by
  unfold lessB at *; rw [bl_eq] at *; exact decide_eq_false (List.lt_asymm (of_decide_eq_true h))
theorem lessB_ntrans (a b c : ByteArray) (h1 : lessB a b = false) (h2 : lessB b c = false) : lessB a c = false := by
  unfold lessB at *
  rw [bl_eq] at *
  have h1 := of_decide_eq_false h1
  have h2 := of_decide_eq_false h2
  refine decide_eq_false ?_
  rw [List.not_lt] at *
  exact List.le_trans h2 h1
theorem lessB_tri (a b : ByteArray) (h1 : lessB a b = false) (h2 : lessB b a = false) : a = b := by
  unfold lessB at *
  rw [bl_eq] at *
  have h1 := of_decide_eq_false h1
  have h2 := of_decide_eq_false h2
  rw [List.not_lt] at *
  exact ByteArray.ext (Array.toList_inj.1 (List.le_antisymm h2 h1))
def liveB (a1 a2 : Int) (s : ByteArray) (b1 b2 : Int) (t : ByteArray) : Bool := if a1 = b1 then (if a2 = b2 then lessB s t else decide (b2 < a2)) else decide (a1 < b1)
theorem liveB_false (a1 a2 : Int) (s : ByteArray) (b1 b2 : Int) (t : ByteArray) : liveB a1 a2 s b1 b2 t = false ↔ b1 < a1 ∨ (a1 = b1 ∧ (a2 < b2 ∨ (a2 = b2 ∧ lessB s t = false))) := by
  unfold liveB
  by_cases e1 : a1 = b1
  · rw [if_pos e1]
    by_cases e2 : a2 = b2
    · rw [if_pos e2]
      constructor
      · intro h; exact .inr ⟨e1, .inr ⟨e2, h⟩⟩
      · rintro (h | ⟨_, h | ⟨_, h⟩⟩)
        · omega
        · omega
        · exact h
    · rw [if_neg e2]
      constructor
      · intro h
        have := of_decide_eq_false h
        exact .inr ⟨e1, .inl (by omega)⟩
      · intro h
        exact decide_eq_false (by rcases h with h | ⟨_, h | ⟨h, _⟩⟩ <;> omega)
  · rw [if_neg e1]
    constructor
    · intro h
      have := of_decide_eq_false h
      exact .inl (by omega)
    · intro h
      exact decide_eq_false (by rcases h with h | ⟨h, _⟩ <;> omega)
theorem liveB_irrefl (a1 a2 : Int) (s : ByteArray) : liveB a1 a2 s a1 a2 s = false := by
  rw [liveB_false]; exact .inr ⟨rfl, .inr ⟨rfl, lessB_irrefl s⟩⟩
theorem liveB_asymm (a1 a2 : Int) (s : ByteArray) (b1 b2 : Int) (t : ByteArray) (h : liveB a1 a2 s b1 b2 t = true) : liveB b1 b2 t a1 a2 s = false := by
  rw [liveB_false]
  unfold liveB at h
  by_cases e1 : a1 = b1
  · rw [if_pos e1] at h
    by_cases e2 : a2 = b2
    · rw [if_pos e2] at h
      exact .inr ⟨e1.symm, .inr ⟨e2.symm, lessB_asymm _ _ h⟩⟩
    · rw [if_neg e2] at h
      exact .inr ⟨e1.symm, .inl (of_decide_eq_true h)⟩
  · rw [if_neg e1] at h
    exact .inl (of_decide_eq_true h)
theorem liveB_ntrans (a1 a2 : Int) (s : ByteArray) (b1 b2 : Int) (t : ByteArray) (c1 c2 : Int) (u : ByteArray) (h1 : liveB a1 a2 s b1 b2 t = false) (h2 : liveB b1 b2 t c1 c2 u = false) : liveB a1 a2 s c1 c2 u = false := by
  rw [liveB_false] at *
  rcases h1 with h1 | ⟨h1, h1' | ⟨h1', h1''⟩⟩ <;> rcases h2 with h2 | ⟨h2, h2' | ⟨h2', h2''⟩⟩
  · exact .inl (by omega)
  · exact .inl (by omega)
  · exact .inl (by omega)
  · exact .inl (by omega)
  · exact .inr ⟨by omega, .inl (by omega)⟩
  · exact .inr ⟨by omega, .inl (by omega)⟩
  · exact .inl (by omega)
  · exact .inr ⟨by omega, .inl (by omega)⟩
  · exact .inr ⟨by omega, .inr ⟨by omega, lessB_ntrans _ _ _ h1'' h2''⟩⟩
/-- The state of a reader of draws: where it stands, and its seed. -/
def Ok (at_ seed b : Int) : Prop := 0 ≤ at_ ∧ at_ ≤ b ∧ 0 ≤ seed ∧ seed < 65521
def Bytes (l : List Int) : Prop := l.length ≤ 1048576 ∧ ∀ x, x ∈ l → 0 ≤ x ∧ x ≤ 255
theorem Ok.up {a s b b' : Int} (h : Ok a s b) (hb : b ≤ b') : Ok a s b' := ⟨h.1, by have := h.2.1; omega, h.2.2⟩
theorem bytes_of {l : List Int} (h1 : l.length ≤ 1048576) (h2 : ∀ x, x ∈ l → (Lit.int .u8 x).wf = true) : Bytes l := by
  refine ⟨h1, fun x hx => ?_⟩
  have := h2 x hx
  simp [Lit.wf, IntKind.min, IntKind.max, IntKind.signed, IntKind.bits] at this
  omega
theorem rd_byte {l : List Int} (h : Bytes l) (i : Int) : 0 ≤ rd l i ∧ rd l i ≤ 255 := by
  unfold rd
  rw [List.getD_eq_getElem?_getD]
  cases e : l[i.toNat]? with
  | none => simp
  | some x => exact h.2 x (List.mem_of_getElem? e)
theorem tmod_pos {a n : Int} (h0 : 0 ≤ a) (hn : 0 < n) : 0 ≤ Int.tmod a n ∧ Int.tmod a n < n := by
  rw [Int.tmod_eq_emod_of_nonneg h0]
  exact ⟨Int.emod_nonneg _ (by omega), Int.emod_lt_of_pos _ hn⟩
theorem pick_ok {l : List Int} (hl : Bytes l) {a s b : Int} (h : Ok a s b) (hb : b ≤ 1000000000000) (n : Int) :
    ∃ r a' s', spec_l01Cur_pick.f l a s n = some (r, a', s') ∧ 0 ≤ r ∧ (2 ≤ n → r < n) ∧ (n < 2 → r = 0) ∧ Ok a' s' (b + 1) := by
  obtain ⟨h0, h1, h2, h3⟩ := h
  have hlen := hl.1
  unfold spec_l01Cur_pick.f
  by_cases c1 : n < 2
  · rw [if_pos c1]
    exact ⟨0, a, s, rfl, by omega, fun _ => by omega, fun _ => rfl, h0, by omega, h2, h3⟩
  · rw [if_neg c1]
    have w1 : wrap64 (a + 1) = a + 1 := by unfold wrap64; omega
    have w2 : wrap64 (s * 1103) = s * 1103 := by unfold wrap64; omega
    have w3 : wrap64 (s * 1103 + 12345) = s * 1103 + 12345 := by unfold wrap64; omega
    rw [w1, w2, w3]
    have hs := tmod_pos (a := s * 1103 + 12345) (n := 65521) (by omega) (by omega)
    generalize Int.tmod (s * 1103 + 12345) 65521 = s1 at hs
    have hok : Ok (a + 1) s1 (b + 1) := ⟨by omega, by omega, hs.1, hs.2⟩
    by_cases c2 : a < (l.length : Int)
    · rw [if_pos c2, if_pos h0, if_neg (by omega)]
      have hr := rd_byte hl a
      rw [show wrap64 (rd l a) = rd l a from by unfold wrap64; omega]
      have hm := tmod_pos (a := rd l a) (n := n) hr.1 (by omega)
      exact ⟨_, _, _, rfl, hm.1, fun _ => hm.2, fun h => absurd h c1, by omega, by omega, h2, h3⟩
    · rw [if_neg c2]
      by_cases c3 : (l.length : Int) > 0
      · rw [if_pos c3, if_neg (by omega)]
        have hi := tmod_pos (a := a) (n := (l.length : Int)) h0 c3
        rw [if_pos hi.1, if_pos hi.2, if_neg (by omega)]
        have hr := rd_byte hl (Int.tmod a (l.length : Int))
        generalize rd l (Int.tmod a (l.length : Int)) = y at hr
        have hd : 0 ≤ Int.tdiv s1 7 ∧ Int.tdiv s1 7 ≤ 65521 := by
          rw [Int.tdiv_eq_ediv_of_nonneg hs.1]; omega
        generalize Int.tdiv s1 7 = z at hd
        rw [show wrap64 z = z from by unfold wrap64; omega, show wrap64 y = y from by unfold wrap64; omega, show wrap64 (z + y) = z + y from by unfold wrap64; omega]
        have hm := tmod_pos (a := z + y) (n := n) (by omega) (by omega)
        exact ⟨_, _, _, rfl, hm.1, fun _ => hm.2, fun h => absurd h c1, hok⟩
      · rw [if_neg c3, if_neg (by omega)]
        have e : (0 : Int) % n = 0 := Int.zero_emod n
        rw [e]
        exact ⟨_, _, _, rfl, by omega, fun _ => by omega, fun h => absurd h c1, hok⟩
theorem raw_ok {l : List Int} (hl : Bytes l) {a s b : Int} (h : Ok a s b) (hb : b ≤ 900000000000) :
    ∃ r a' s', spec_l01Cur_raw.f l a s = some (r, a', s') ∧ (-9223372036854775808 ≤ r ∧ r ≤ 9223372036854775807) ∧ Ok a' s' (b + 2) := by
  obtain ⟨r1, a1, s1, e1, k1, k2, _, o1⟩ := pick_ok hl h (by omega) 8
  unfold spec_l01Cur_raw.f
  rw [e1]
  simp only [Option.bind_some]
  by_cases c1 : r1 = 0
  · rw [if_pos c1]
    obtain ⟨r2, a2, s2, e2, k3, k4, _, o2⟩ := pick_ok hl o1 (by omega) 256
    rw [e2]
    have := k4 (by omega)
    exact ⟨_, _, _, rfl, by rw [show wrap64 (r2 - 128) = r2 - 128 from by unfold wrap64; omega]; omega, o2.up (by omega)⟩
  · rw [if_neg c1]
    by_cases c2 : r1 = 1
    · rw [if_pos c2]
      obtain ⟨r2, a2, s2, e2, k3, k4, _, o2⟩ := pick_ok hl o1 (by omega) 8
      simp only [e2, Option.bind_some]
      rw [if_pos k3, if_pos (by have := k4 (by omega); simpa using this)]
      refine ⟨_, _, _, rfl, ?_, o2.up (by omega)⟩
      have k5 := k4 (by omega)
      have h8 : r2 = 0 ∨ r2 = 1 ∨ r2 = 2 ∨ r2 = 3 ∨ r2 = 4 ∨ r2 = 5 ∨ r2 = 6 ∨ r2 = 7 := by omega
      rcases h8 with rfl | rfl | rfl | rfl | rfl | rfl | rfl | rfl <;> decide
    · rw [if_neg c2]
      obtain ⟨r2, a2, s2, e2, k3, k4, _, o2⟩ := pick_ok hl o1 (by omega) 14
      rw [e2]
      have := k4 (by omega)
      exact ⟨_, _, _, rfl, by rw [show wrap64 (r2 - 3) = r2 - 3 from by unfold wrap64; omega]; omega, o2.up (by omega)⟩
theorem open_ok {l : List Int} (hl : Bytes l) : ∃ s, spec_l01Open.f l = some (l, 0, s) ∧ Ok 0 s 0 := by
  refine ⟨_, rfl, by omega, by omega, ?_, ?_⟩ <;> omega
theorem once_ok {l : List Int} (hl : Bytes l) {a s b : Int} (h : Ok a s b) (hb : b ≤ 900000000000) (n : Int) :
    ∃ r a' s', spec_l01Cur_once.f l a s n = some (r, a', s') ∧ Ok a' s' (b + 1) := by
  obtain ⟨r, a', s', e, _, _, _, o⟩ := pick_ok hl h (by omega) n
  unfold spec_l01Cur_once.f
  rw [e]
  exact ⟨_, _, _, rfl, o⟩
theorem wide_ok {l : List Int} (hl : Bytes l) {a s b : Int} (h : Ok a s b) (hb : b ≤ 900000000000) (n : Int) (hn : n ≠ 0) :
    ∃ r a' s', spec_l01Cur_wide.f l a s n = some (r, a', s') ∧ Ok a' s' (b + 3) := by
  obtain ⟨r1, a1, s1, e1, _, _, _, o1⟩ := pick_ok hl h (by omega) 256
  obtain ⟨r2, a2, s2, e2, _, _, _, o2⟩ := pick_ok hl o1 (by omega) 256
  obtain ⟨r3, a3, s3, e3, _, _, _, o3⟩ := pick_ok hl o2 (by omega) 256
  unfold spec_l01Cur_wide.f
  simp only [e1, e2, e3, Option.bind_some]
  rw [if_neg hn]
  exact ⟨_, _, _, rfl, o3.up (by omega)⟩
theorem word_l0 {l : List Int} (hl : Bytes l) : ∀ (d k : Nat) (x : List Int) (a s b : Int) (n : Int), Ok a s b → b + 2 * (d : Int) ≤ 900000000000 → x.length ≤ 64 → n = (x.length : Int) + d → n ≤ 64 → d < k →
    ∃ w a' s', spec_l01Cur_word.l0 k n x l a s = some (w, a', s') ∧ (w.size : Int) = n ∧ Ok a' s' (b + 2 * (d : Int)) := by
  intro d
  induction d with
  | zero =>
    intro k x a s b n h hb hx hn hn2 hk
    obtain ⟨k, rfl⟩ : ∃ m, k = m + 1 := ⟨k - 1, by omega⟩
    simp only [spec_l01Cur_word.l0]
    rw [if_neg (by omega)]
    exact ⟨_, _, _, rfl, by rw [strOfNums_size]; omega, h.up (by omega)⟩
  | succ d ih =>
    intro k x a s b n h hb hx hn hn2 hk
    obtain ⟨k, rfl⟩ : ∃ m, k = m + 1 := ⟨k - 1, by omega⟩
    simp only [spec_l01Cur_word.l0]
    rw [if_pos (by omega)]
    simp only [Option.bind_some]
    obtain ⟨r1, a1, s1, e1, k1, k2, _, o1⟩ := pick_ok hl h (by omega) 3
    rw [e1]
    simp only [Option.bind_some]
    rw [if_pos k1, if_pos (by have := k2 (by omega); simpa using this)]
    obtain ⟨r2, a2, s2, e2, _, _, _, o2⟩ := pick_ok hl o1 (by omega) (rd [2, 3, 26] r1)
    rw [e2]
    simp only [Option.bind_some]
    rw [if_pos (by omega)]
    obtain ⟨w, a', s', e, hw, o⟩ := ih k (x ++ [wrap64 (97 + r2) % 256]) a2 s2 (b + 1 + 1) n o2 (by omega) (by simp; omega) (by simp; omega) hn2 (by omega)
    exact ⟨w, a', s', e, hw, o.up (by omega)⟩
theorem word_ok {l : List Int} (hl : Bytes l) {a s b : Int} (h : Ok a s b) (hb : b ≤ 800000000000) (k : Nat) (hk : 70 < k) :
    ∃ w a' s', spec_l01Cur_word.f k l a s = some (w, a', s') ∧ w.size ≤ 32 ∧ Ok a' s' (b + 70) := by
  unfold spec_l01Cur_word.f
  simp only [Option.bind_some]
  obtain ⟨r1, a1, s1, e1, k1, k2, _, o1⟩ := pick_ok hl h (by omega) 4
  rw [e1]
  simp only [Option.bind_some]
  have hr := k2 (by omega)
  rw [if_pos k1, if_pos (by simpa using hr)]
  have hm : 2 ≤ rd [3, 5, 8, 32] r1 ∧ rd [3, 5, 8, 32] r1 ≤ 32 := by
    have h4 : r1 = 0 ∨ r1 = 1 ∨ r1 = 2 ∨ r1 = 3 := by omega
    rcases h4 with rfl | rfl | rfl | rfl <;> decide
  obtain ⟨r2, a2, s2, e2, k3, k4, _, o2⟩ := pick_ok hl o1 (by omega) (rd [3, 5, 8, 32] r1)
  rw [e2]
  simp only [Option.bind_some]
  have hr2 := k4 hm.1
  rw [show wrap64 (1 + r2) = 1 + r2 from by unfold wrap64; omega]
  obtain ⟨n, rfl⟩ := Int.eq_ofNat_of_zero_le k3
  obtain ⟨w, a', s', e, hw, o⟩ := word_l0 hl (n + 1) k [] a2 s2 _ (1 + (n : Int)) o2 (by omega) (by simp) (by simp; omega) (by omega) (by omega)
  exact ⟨w, a', s', e, by omega, o.up (by omega)⟩
theorem badWord_ok {l : List Int} (hl : Bytes l) {a s b : Int} (h : Ok a s b) (hb : b ≤ 700000000000) (k : Nat) (hk : 70 < k) :
    ∃ w a' s', spec_l01Cur_badWord.f k l a s = some (w, a', s') ∧ w.size ≤ 100 ∧ Ok a' s' (b + 80) := by
  unfold spec_l01Cur_badWord.f
  obtain ⟨w, a0, s0, e0, hw, o0⟩ := word_ok hl h (by omega) k hk
  rw [e0]
  simp only [Option.bind_some]
  obtain ⟨r1, a1, s1, e1, _, _, _, o1⟩ := pick_ok hl o0 (by omega) 9
  rw [e1]
  simp only [Option.bind_some]
  by_cases c0 : r1 = 0
  · rw [if_pos c0]
    rw [show wrap64 ((w.size : Int) + 1) = (w.size : Int) + 1 from by unfold wrap64; omega]
    obtain ⟨r2, a2, s2, e2, k3, k4, k5, o2⟩ := pick_ok hl o1 (by omega) ((w.size : Int) + 1)
    rw [e2]
    simp only [Option.bind_some]
    have h2 : r2 ≤ (w.size : Int) := by
      by_cases c : 2 ≤ (w.size : Int) + 1
      · have := k4 c; omega
      · have := k5 (by omega); omega
    rw [if_pos k3, if_pos h2]
    obtain ⟨r3, a3, s3, e3, k6, k7, _, o3⟩ := pick_ok hl o2 (by omega) 6
    rw [e3]
    simp only [Option.bind_some]
    have h3 := k7 (by omega)
    rw [if_pos k6, if_pos (by simpa using h3)]
    have hq : (rdOf ByteArray.empty [(⟨#[]⟩ : ByteArray), (⟨#[65]⟩ : ByteArray), (⟨#[45]⟩ : ByteArray), (⟨#[0]⟩ : ByteArray), (⟨#[122, 122]⟩ : ByteArray), (⟨#[123]⟩ : ByteArray)] r3).size ≤ 2 := by
      have h6 : r3 = 0 ∨ r3 = 1 ∨ r3 = 2 ∨ r3 = 3 ∨ r3 = 4 ∨ r3 = 5 := by omega
      rcases h6 with rfl | rfl | rfl | rfl | rfl | rfl <;> decide
    generalize rdOf ByteArray.empty [(⟨#[]⟩ : ByteArray), (⟨#[65]⟩ : ByteArray), (⟨#[45]⟩ : ByteArray), (⟨#[0]⟩ : ByteArray), (⟨#[122, 122]⟩ : ByteArray), (⟨#[123]⟩ : ByteArray)] r3 = z at hq
    have hs1 : (w.extract 0 r2.toNat).size ≤ 32 := by rw [ByteArray.size_extract]; omega
    have hs2 : (w.extract r2.toNat w.size).size ≤ 32 := by rw [ByteArray.size_extract]; omega
    have hs3 : (w.extract 0 r2.toNat ++ z).size ≤ 34 := by rw [ByteArray.size_append]; omega
    rw [if_pos (by omega), if_pos (by omega)]
    exact ⟨_, _, _, rfl, by rw [ByteArray.size_append]; omega, o3.up (by omega)⟩
  · rw [if_neg c0]
    by_cases c1 : r1 = 1
    · rw [if_pos c1]
      exact ⟨_, _, _, rfl, Nat.zero_le _, o1.up (by omega)⟩
    · rw [if_neg c1]
      by_cases c2 : r1 = 2
      · rw [if_pos c2, if_pos (by omega)]
        obtain ⟨r2, a2, s2, e2, k3, k4, _, o2⟩ := pick_ok hl o1 (by omega) 33
        rw [e2]
        simp only [Option.bind_some]
        have h2 := k4 (by omega)
        rw [if_pos k3, if_pos (by omega)]
        have hs1 : (w ++ w).size ≤ 64 := by rw [ByteArray.size_append]; omega
        have hs2 : ((⟨#[97, 97, 97, 97, 97, 97, 97, 97, 97, 97, 97, 97, 97, 97, 97, 97, 97, 97, 97, 97, 97, 97, 97, 97, 97, 97, 97, 97, 97, 97, 97, 97]⟩ : ByteArray).extract 0 (r2 : Int).toNat).size ≤ 32 := by
          rw [ByteArray.size_extract]; omega
        generalize ((⟨#[97, 97, 97, 97, 97, 97, 97, 97, 97, 97, 97, 97, 97, 97, 97, 97, 97, 97, 97, 97, 97, 97, 97, 97, 97, 97, 97, 97, 97, 97, 97, 97]⟩ : ByteArray).extract 0 (r2 : Int).toNat) = z at hs2
        rw [if_pos (by omega)]
        exact ⟨_, _, _, rfl, by rw [ByteArray.size_append]; omega, o2.up (by omega)⟩
      · rw [if_neg c2]
        exact ⟨_, _, _, rfl, by omega, o1.up (by omega)⟩
theorem drec_ok {l : List Int} (hl : Bytes l) {a s b : Int} (h : Ok a s b) (hb : b ≤ 600000000000) (k : Nat) (hk : 70 < k) :
    ∃ x0 x1 x2 x3 a' s', spec_l01Cur_rec.f k l a s = some (x0, x1, x2, x3, a', s') ∧ x3.size ≤ 32 ∧ Ok a' s' (b + 100) := by
  unfold spec_l01Cur_rec.f
  obtain ⟨r1, a1, s1, e1, o1⟩ := once_ok hl h (by omega) 5
  rw [e1]
  simp only [Option.bind_some]
  cases r1 with
  | true => exact ⟨_, _, _, _, _, _, rfl, Nat.zero_le _, o1.up (by omega)⟩
  | false =>
    rw [if_neg (by decide)]
    obtain ⟨r2, a2, s2, e2, k3, k4, _, o2⟩ := pick_ok hl o1 (by omega) 2
    rw [e2]
    simp only [Option.bind_some]
    have h2 := k4 (by omega)
    rw [if_pos k3, if_pos (by simpa using h2)]
    obtain ⟨r3, a3, s3, e3, _, _, _, o3⟩ := pick_ok hl o2 (by omega) (rd [3, 8] r2)
    rw [e3]
    simp only [Option.bind_some]
    obtain ⟨r4, a4, s4, e4, _, _, _, o4⟩ := pick_ok hl o3 (by omega) 3
    rw [e4]
    simp only [Option.bind_some]
    obtain ⟨r5, a5, s5, e5, o5⟩ := wide_ok hl o4 (by omega) 65536 (by decide)
    rw [e5]
    simp only [Option.bind_some]
    obtain ⟨r6, a6, s6, e6, k6, k7, _, o6⟩ := pick_ok hl o5 (by omega) 3
    rw [e6]
    simp only [Option.bind_some]
    have h6 := k7 (by omega)
    rw [if_pos k6, if_pos (by simpa using h6)]
    obtain ⟨w, a7, s7, e7, hw, o7⟩ := word_ok hl o6 (by omega) k hk
    rw [e7]
    exact ⟨_, _, _, _, _, _, rfl, hw, o7.up (by omega)⟩
theorem badRec_ok {l : List Int} (hl : Bytes l) {a s b : Int} (h : Ok a s b) (hb : b ≤ 500000000000) (k : Nat) (hk : 70 < k) :
    ∃ x0 x1 x2 x3 a' s', spec_l01Cur_badRec.f k l a s = some (x0, x1, x2, x3, a', s') ∧ x3.size ≤ 100 ∧ Ok a' s' (b + 200) := by
  unfold spec_l01Cur_badRec.f
  obtain ⟨x0, x1, x2, x3, a1, s1, e1, hx, o1⟩ := drec_ok hl h (by omega) k hk
  rw [e1]
  simp only [Option.bind_some]
  obtain ⟨r2, a2, s2, e2, _, _, _, o2⟩ := pick_ok hl o1 (by omega) 12
  rw [e2]
  simp only [Option.bind_some]
  by_cases c0 : r2 = 0
  · rw [if_pos c0]; exact ⟨_, _, _, _, _, _, rfl, by omega, o2.up (by omega)⟩
  · rw [if_neg c0]
    by_cases c1 : r2 = 1
    · rw [if_pos c1]
      obtain ⟨r3, a3, s3, e3, _, o3⟩ := raw_ok hl o2 (by omega)
      rw [e3]
      simp only [Option.bind_some]
      obtain ⟨r4, a4, s4, e4, k4, k5, _, o4⟩ := pick_ok hl o3 (by omega) 3
      rw [e4]
      simp only [Option.bind_some]
      have h4 := k5 (by omega)
      rw [if_pos k4, if_pos (by simpa using h4)]
      exact ⟨_, _, _, _, _, _, rfl, by omega, o4.up (by omega)⟩
    · rw [if_neg c1]
      by_cases c2 : r2 = 2
      · rw [if_pos c2]
        obtain ⟨r3, a3, s3, e3, _, o3⟩ := raw_ok hl o2 (by omega)
        rw [e3]
        simp only [Option.bind_some]
        obtain ⟨r4, a4, s4, e4, k4, k5, _, o4⟩ := pick_ok hl o3 (by omega) 2
        rw [e4]
        simp only [Option.bind_some]
        have h4 := k5 (by omega)
        rw [if_pos k4, if_pos (by simpa using h4)]
        exact ⟨_, _, _, _, _, _, rfl, by omega, o4.up (by omega)⟩
      · rw [if_neg c2]
        by_cases c3 : r2 = 3
        · rw [if_pos c3]
          obtain ⟨w, a3, s3, e3, hw, o3⟩ := badWord_ok hl o2 (by omega) k hk
          rw [e3]
          exact ⟨_, _, _, _, _, _, rfl, hw, o3.up (by omega)⟩
        · rw [if_neg c3]
          exact ⟨_, _, _, _, _, _, rfl, by omega, o2.up (by omega)⟩
def eqB (a0 : Bool) (a1 a2 : Int) (a3 : ByteArray) (b0 : Bool) (b1 b2 : Int) (b3 : ByteArray) : Bool := (a0 == b0 && (a1 == b1 && (a2 == b2 && (a3.toList == b3.toList))))
def neB (a0 : Bool) (a1 a2 : Int) (a3 : ByteArray) (b0 : Bool) (b1 b2 : Int) (b3 : ByteArray) : Bool := (!(a0 == b0) || (!(a1 == b1) || (!(a2 == b2) || (!(a3.toList == b3.toList)))))
theorem ne_eq_ (a0 : Bool) (a1 a2 : Int) (a3 : ByteArray) (b0 : Bool) (b1 b2 : Int) (b3 : ByteArray) : neB a0 a1 a2 a3 b0 b1 b2 b3 = !eqB a0 a1 a2 a3 b0 b1 b2 b3 := by
  unfold neB eqB
  cases (a0 == b0) <;> cases (a1 == b1) <;> cases (a2 == b2) <;> cases (a3.toList == b3.toList) <;> rfl
theorem eqB_self (a0 : Bool) (a1 a2 : Int) (a3 : ByteArray) : eqB a0 a1 a2 a3 a0 a1 a2 a3 = true := by simp [eqB]
theorem eqB_iff (a0 : Bool) (a1 a2 : Int) (a3 : ByteArray) (b0 : Bool) (b1 b2 : Int) (b3 : ByteArray) : eqB a0 a1 a2 a3 b0 b1 b2 b3 = true ↔ a0 = b0 ∧ a1 = b1 ∧ a2 = b2 ∧ a3 = b3 := by
  unfold eqB
  simp only [Bool.and_eq_true, beq_iff_eq]
  constructor
  · rintro ⟨h0, h1, h2, h3⟩
    refine ⟨h0, h1, h2, ?_⟩
    rw [ByteArray.toList_eq, ByteArray.toList_eq] at h3
    exact ByteArray.ext (Array.toList_inj.1 h3)
  · rintro ⟨h0, h1, h2, h3⟩
    exact ⟨h0, h1, h2, by rw [h3]⟩
theorem eqB_symm (a0 : Bool) (a1 a2 : Int) (a3 : ByteArray) (b0 : Bool) (b1 b2 : Int) (b3 : ByteArray) : eqB b0 b1 b2 b3 a0 a1 a2 a3 = eqB a0 a1 a2 a3 b0 b1 b2 b3 := by
  rw [Bool.eq_iff_iff, eqB_iff, eqB_iff]
  exact ⟨fun h => ⟨h.1.symm, h.2.1.symm, h.2.2.1.symm, h.2.2.2.symm⟩, fun h => ⟨h.1.symm, h.2.1.symm, h.2.2.1.symm, h.2.2.2.symm⟩⟩
theorem ah_eq (a0 : Bool) (a1 a2 : Int) (a3 : ByteArray) (b0 : Bool) (b1 b2 : Int) (b3 : ByteArray) : aheadB a0 a1 a2 a3 b0 b1 b2 b3 = if (a0 && b0) = true then liveB a1 a2 a3 b1 b2 b3 else a0 && !b0 := rfl
theorem ah_irrefl (a0 : Bool) (a1 a2 : Int) (a3 : ByteArray) : aheadB a0 a1 a2 a3 a0 a1 a2 a3 = false := by
  rw [ah_eq]
  cases a0 with
  | false => rfl
  | true => exact liveB_irrefl _ _ _
theorem ah_asymm (a0 : Bool) (a1 a2 : Int) (a3 : ByteArray) (b0 : Bool) (b1 b2 : Int) (b3 : ByteArray) (h : aheadB a0 a1 a2 a3 b0 b1 b2 b3 = true) : aheadB b0 b1 b2 b3 a0 a1 a2 a3 = false := by
  rw [ah_eq] at *
  cases a0 <;> cases b0 <;> simp at h ⊢
  exact liveB_asymm _ _ _ _ _ _ h
theorem ah_ntrans (a0 : Bool) (a1 a2 : Int) (a3 : ByteArray) (b0 : Bool) (b1 b2 : Int) (b3 : ByteArray) (c0 : Bool) (c1 c2 : Int) (c3 : ByteArray) (h1 : aheadB a0 a1 a2 a3 b0 b1 b2 b3 = false) (h2 : aheadB b0 b1 b2 b3 c0 c1 c2 c3 = false) : aheadB a0 a1 a2 a3 c0 c1 c2 c3 = false := by
  rw [ah_eq] at *
  cases a0 <;> cases b0 <;> cases c0 <;> simp at h1 h2 ⊢
  exact liveB_ntrans _ _ _ _ _ _ _ _ _ h1 h2
theorem rec_dead (b c : Int) (s : ByteArray) (h : recB false b c s = true) : b = 0 ∧ c = 0 ∧ s = ⟨#[]⟩ := by
  unfold recB zeroB at h
  simp only [Bool.not_false, Bool.true_and, Bool.false_and, Bool.or_false, Bool.and_eq_true, beq_iff_eq] at h
  obtain ⟨h1, h2, h3⟩ := h
  rw [ByteArray.toList_eq] at h3
  exact ⟨h1, h2, ByteArray.ext (Array.toList_inj.1 (by rw [h3]))⟩
theorem ah_tri (a0 : Bool) (a1 a2 : Int) (a3 : ByteArray) (b0 : Bool) (b1 b2 : Int) (b3 : ByteArray) (ha : recB a0 a1 a2 a3 = true) (hb : recB b0 b1 b2 b3 = true) (h1 : aheadB a0 a1 a2 a3 b0 b1 b2 b3 = false) (h2 : aheadB b0 b1 b2 b3 a0 a1 a2 a3 = false) : a0 = b0 ∧ a1 = b1 ∧ a2 = b2 ∧ a3 = b3 := by
  rw [ah_eq] at h1 h2
  cases a0 <;> cases b0 <;> simp at h1 h2
  · obtain ⟨p1, p2, p3⟩ := rec_dead _ _ _ ha
    obtain ⟨q1, q2, q3⟩ := rec_dead _ _ _ hb
    exact ⟨rfl, by omega, by omega, by rw [p3, q3]⟩
  · rw [liveB_false] at h1 h2
    have e1 : a1 = b1 := by rcases h1 with h1 | ⟨h1, _⟩ <;> rcases h2 with h2 | ⟨h2, _⟩ <;> omega
    have e2 : a2 = b2 := by rcases h1 with h1 | ⟨h1, h1' | ⟨h1', _⟩⟩ <;> rcases h2 with h2 | ⟨h2, h2' | ⟨h2', _⟩⟩ <;> omega
    refine ⟨rfl, e1, e2, lessB_tri a3 b3 ?_ ?_⟩
    · rcases h1 with h1 | ⟨_, h1 | ⟨_, h1⟩⟩
      · omega
      · omega
      · exact h1
    · rcases h2 with h1 | ⟨_, h1 | ⟨_, h1⟩⟩
      · omega
      · omega
      · exact h1
theorem iAhead_eq (a0 : Bool) (a1 a2 : Int) (a3 : ByteArray) (b0 : Bool) (b1 b2 : Int) (b3 : ByteArray) (ha : a3.size ≤ 100) (hb : b3.size ≤ 100) (k : Nat) (hk : 500 < k) : impl_RecAhead.f k a0 a1 a2 a3 b0 b1 b2 b3 = some (recB a0 a1 a2 a3 && (recB b0 b1 b2 b3 && aheadB a0 a1 a2 a3 b0 b1 b2 b3)) := by
  unfold impl_RecAhead.f
  rw [isRec_eq a0 a1 a2 a3 (by omega) _ (by omega), isRec_eq b0 b1 b2 b3 (by omega) _ (by omega), isAhead_eq _ _ _ _ _ _ _ _ _ (by omega)]
  simp only [Option.bind_some]
  cases recB a0 a1 a2 a3 <;> cases recB b0 b1 b2 b3 <;> cases aheadB a0 a1 a2 a3 b0 b1 b2 b3 <;> rfl
theorem iPair_eq (a0 : Bool) (a1 a2 : Int) (a3 : ByteArray) (b0 : Bool) (b1 b2 : Int) (b3 : ByteArray) (ha : a3.size ≤ 100) (hb : b3.size ≤ 100) (k : Nat) (hk : 500 < k) (ra : recB a0 a1 a2 a3 = true) (rb : recB b0 b1 b2 b3 = true) :
    impl_RecPair.f k a0 a1 a2 a3 b0 b1 b2 b3 = some (if aheadB b0 b1 b2 b3 a0 a1 a2 a3 = true then (b0, b1, b2, b3, a0, a1, a2, a3) else (a0, a1, a2, a3, b0, b1, b2, b3)) := by
  unfold impl_RecPair.f
  rw [isRec_eq a0 a1 a2 a3 (by omega) _ (by omega), isRec_eq b0 b1 b2 b3 (by omega) _ (by omega), isAhead_eq _ _ _ _ _ _ _ _ _ (by omega), ra, rb]
  simp only [Option.bind_some]
  cases aheadB b0 b1 b2 b3 a0 a1 a2 a3 <;> rfl
theorem law_j2 (a0 : Bool) (a1 a2 : Int) (a3 : ByteArray) (b0 : Bool) (b1 b2 : Int) (b3 : ByteArray) (c0 : Bool) (c1 c2 : Int) (c3 : ByteArray) (ha : a3.size ≤ 100) (hb : b3.size ≤ 100) (hc : c3.size ≤ 100) (ra : recB a0 a1 a2 a3 = true) (rb : recB b0 b1 b2 b3 = true) (rc : recB c0 c1 c2 c3 = true) (k : Nat) (hk : 600 < k) :
    laws_FnAhead.j2 k (aheadB a0 a1 a2 a3 b0 b1 b2 b3) false a0 a1 a2 a3 b0 b1 b2 b3 c0 c1 c2 c3 = some true := by
  obtain ⟨k, rfl⟩ : ∃ m, k = m + 1 := ⟨k - 1, by omega⟩
  simp only [laws_FnAhead.j2]
  rw [if_neg (by decide)]
  cases h1 : aheadB a0 a1 a2 a3 b0 b1 b2 b3 with
  | false => rfl
  | true =>
    rw [if_pos rfl, iAhead_eq b0 b1 b2 b3 c0 c1 c2 c3 hb hc k (by omega), Option.bind_some, rb, rc, Bool.true_and, Bool.true_and]
    cases h2 : aheadB b0 b1 b2 b3 c0 c1 c2 c3 with
    | false => rfl
    | true =>
      rw [if_pos rfl, iAhead_eq a0 a1 a2 a3 c0 c1 c2 c3 ha hc k (by omega), Option.bind_some, ra, rc, Bool.true_and, Bool.true_and]
      cases h3 : aheadB a0 a1 a2 a3 c0 c1 c2 c3 with
      | true => rfl
      | false =>
        have h4 := ah_ntrans _ _ _ _ _ _ _ _ _ _ _ _ h3 (ah_asymm _ _ _ _ _ _ _ _ h2)
        rw [h4] at h1
        exact absurd h1 (by decide)
theorem law_j1 (a0 : Bool) (a1 a2 : Int) (a3 : ByteArray) (b0 : Bool) (b1 b2 : Int) (b3 : ByteArray) (c0 : Bool) (c1 c2 : Int) (c3 : ByteArray) (ha : a3.size ≤ 100) (hb : b3.size ≤ 100) (hc : c3.size ≤ 100) (ra : recB a0 a1 a2 a3 = true) (rb : recB b0 b1 b2 b3 = true) (rc : recB c0 c1 c2 c3 = true) (k : Nat) (hk : 700 < k) :
    laws_FnAhead.j1 k (aheadB a0 a1 a2 a3 b0 b1 b2 b3) false a0 a1 a2 a3 b0 b1 b2 b3 c0 c1 c2 c3 = some true := by
  obtain ⟨k, rfl⟩ : ∃ m, k = m + 1 := ⟨k - 1, by omega⟩
  have hj := law_j2 a0 a1 a2 a3 b0 b1 b2 b3 c0 c1 c2 c3 ha hb hc ra rb rc k (by omega)
  have naa : (!(a0 == a0) || (!(a1 == a1) || (!(a2 == a2) || (!(a3.toList == a3.toList))))) = false := by simp
  have nbb : (!(b0 == b0) || (!(b1 == b1) || (!(b2 == b2) || (!(b3.toList == b3.toList))))) = false := by simp
  have sy : (b0 == a0 && (b1 == a1 && (b2 == a2 && (b3.toList == a3.toList)))) = (a0 == b0 && (a1 == b1 && (a2 == b2 && (a3.toList == b3.toList)))) := eqB_symm a0 a1 a2 a3 b0 b1 b2 b3
  simp only [laws_FnAhead.j1]
  rw [if_neg (by decide), iPair_eq a0 a1 a2 a3 b0 b1 b2 b3 ha hb k (by omega) ra rb, Option.bind_some]
  cases h1 : aheadB b0 b1 b2 b3 a0 a1 a2 a3 with
  | false =>
    rw [if_neg (by decide)]
    dsimp only
    rw [iAhead_eq b0 b1 b2 b3 a0 a1 a2 a3 hb ha k (by omega), Option.bind_some, ra, rb, h1, if_neg (by decide), naa, if_neg (by decide), nbb]
    rw [if_neg (show ¬ (false = true) by decide)]
    simp only [bne_self_eq_false, ite_self]
    exact hj
  | true =>
    rw [if_pos rfl]
    dsimp only
    rw [iAhead_eq a0 a1 a2 a3 b0 b1 b2 b3 ha hb k (by omega), Option.bind_some, ra, rb, ah_asymm _ _ _ _ _ _ _ _ h1]
    rw [if_neg (by decide), nbb, naa, sy, if_neg (show ¬ (false = true) by decide), if_neg (show ¬ (false = true) by decide)]
    rw [ah_asymm _ _ _ _ _ _ _ _ h1] at hj
    simp only [bne_self_eq_false, ite_self]
    exact hj
theorem law_j0 (a0 : Bool) (a1 a2 : Int) (a3 : ByteArray) (b0 : Bool) (b1 b2 : Int) (b3 : ByteArray) (c0 : Bool) (c1 c2 : Int) (c3 : ByteArray) (ha : a3.size ≤ 100) (hb : b3.size ≤ 100) (hc : c3.size ≤ 100) (ra : recB a0 a1 a2 a3 = true) (rb : recB b0 b1 b2 b3 = true) (rc : recB c0 c1 c2 c3 = true) (k : Nat) (hk : 800 < k) :
    laws_FnAhead.j0 k false a0 a1 a2 a3 b0 b1 b2 b3 c0 c1 c2 c3 = some true := by
  obtain ⟨k, rfl⟩ : ∃ m, k = m + 1 := ⟨k - 1, by omega⟩
  have hj := law_j1 a0 a1 a2 a3 b0 b1 b2 b3 c0 c1 c2 c3 ha hb hc ra rb rc k (by omega)
  have hn : (!(a0 == b0) || (!(a1 == b1) || (!(a2 == b2) || (!(a3.toList == b3.toList))))) = (aheadB a0 a1 a2 a3 b0 b1 b2 b3 || aheadB b0 b1 b2 b3 a0 a1 a2 a3) := by
    refine (ne_eq_ a0 a1 a2 a3 b0 b1 b2 b3).trans ?_
    cases he : eqB a0 a1 a2 a3 b0 b1 b2 b3 with
    | true =>
      obtain ⟨rfl, rfl, rfl, rfl⟩ := (eqB_iff _ _ _ _ _ _ _ _).1 he
      rw [ah_irrefl]; rfl
    | false =>
      cases h1 : aheadB a0 a1 a2 a3 b0 b1 b2 b3 with
      | true => rfl
      | false =>
        cases h2 : aheadB b0 b1 b2 b3 a0 a1 a2 a3 with
        | true => rfl
        | false =>
          rw [(eqB_iff a0 a1 a2 a3 b0 b1 b2 b3).2 (ah_tri _ _ _ _ _ _ _ _ ra rb h1 h2)] at he
          exact absurd he (by decide)
  simp only [laws_FnAhead.j0]
  rw [if_neg (by decide), iAhead_eq a0 a1 a2 a3 b0 b1 b2 b3 ha hb k (by omega), Option.bind_some, iAhead_eq b0 b1 b2 b3 a0 a1 a2 a3 hb ha k (by omega), Option.bind_some, hn, specAhead_eq a0 a1 a2 a3 b0 b1 b2 b3 (by omega) (by omega) k (by omega), ra, rb]
  simp only [Bool.true_and, Option.bind_some]
  cases h1 : aheadB a0 a1 a2 a3 b0 b1 b2 b3 with
  | true =>
    rw [h1] at hj
    rw [ah_asymm _ _ _ _ _ _ _ _ h1]
    exact hj
  | false =>
    rw [h1] at hj
    cases h2 : aheadB b0 b1 b2 b3 a0 a1 a2 a3 with
    | true => exact hj
    | false => exact hj
theorem law_no (a0 : Bool) (a1 a2 : Int) (a3 : ByteArray) (b0 : Bool) (b1 b2 : Int) (b3 : ByteArray) (c0 : Bool) (c1 c2 : Int) (c3 : ByteArray) (ha : a3.size ≤ 100) (hb : b3.size ≤ 100) (k : Nat) (hk : 800 < k) :
    laws_FnAhead.j0 k true a0 a1 a2 a3 b0 b1 b2 b3 c0 c1 c2 c3 = some true := by
  obtain ⟨k, rfl⟩ : ∃ m, k = m + 1 := ⟨k - 1, by omega⟩
  simp only [laws_FnAhead.j0]
  rw [if_pos trivial, iAhead_eq a0 a1 a2 a3 b0 b1 b2 b3 ha hb k (by omega), Option.bind_some, specAhead_eq a0 a1 a2 a3 b0 b1 b2 b3 (by omega) (by omega) k (by omega), Option.bind_some]
  simp
theorem drawAhead_ok {l : List Int} (hl : Bytes l) (k : Nat) (hk : 70 < k) :
    ∃ a0 a1 a2 a3 b0 b1 b2 b3, spec_DrawRecAhead.f k l = some (a0, a1, a2, a3, b0, b1, b2, b3) ∧ a3.size ≤ 100 ∧ b3.size ≤ 100 := by
  unfold spec_DrawRecAhead.f
  obtain ⟨s, e0, o0⟩ := open_ok hl
  rw [e0, Option.bind_some]
  dsimp only
  obtain ⟨x0, x1, x2, x3, p1, s1, e1, hx, o1⟩ := badRec_ok hl o0 (by omega) k hk
  rw [e1, Option.bind_some]
  dsimp only
  obtain ⟨y0, y1, y2, y3, p2, s2, e2, hy, o2⟩ := badRec_ok hl o1 (by omega) k hk
  rw [e2, Option.bind_some]
  dsimp only
  obtain ⟨r3, p3, s3, e3, o3⟩ := once_ok hl o2 (by omega) 2
  rw [e3, Option.bind_some]
  dsimp only
  cases r3 with
  | false => exact ⟨_, _, _, _, _, _, _, _, rfl, hx, hy⟩
  | true =>
    rw [if_pos rfl]
    obtain ⟨r4, p4, s4, e4, o4⟩ := once_ok hl o3 (by omega) 2
    rw [e4, Option.bind_some]
    dsimp only
    cases r4 with
    | false => exact ⟨_, _, _, _, _, _, _, _, rfl, hx, hy⟩
    | true => exact ⟨_, _, _, _, _, _, _, _, rfl, hx, hy⟩
theorem FnAhead : laws_FnAhead.Pure := by
  intro l0 hlen hsz hwf
  by_cases c : (l0.length : Int) > 1048576
  · refine ⟨0, ?_⟩
    unfold laws_FnAhead.f laws_big.f
    rw [Option.bind_some, decide_eq_true c, if_pos rfl]
  · have hl : Bytes l0 := bytes_of (by omega) hwf
    have e3 : wrap64 ((l0.length : Int) / 3) = (l0.length : Int) / 3 := by unfold wrap64; omega
    have hl2 : Bytes (l0.drop ((l0.length : Int) / 3).toNat) := ⟨by rw [List.length_drop]; have := hl.1; omega, fun x hx => hl.2 x (List.mem_of_mem_drop hx)⟩
    obtain ⟨a0, a1, a2, a3, b0, b1, b2, b3, e1, ha, hb⟩ := drawAhead_ok hl 1000 (by omega)
    obtain ⟨c0, c1, c2, c3, _, _, _, _, e2, hc, _⟩ := drawAhead_ok hl2 1000 (by omega)
    refine ⟨1000, ?_⟩
    unfold laws_FnAhead.f laws_big.f
    rw [Option.bind_some, decide_eq_false c, if_neg (by decide), e1, Option.bind_some, e3, if_pos (by omega), if_pos (by omega), e2, Option.bind_some]
    dsimp only
    rw [recOk_eq a0 a1 a2 a3 (by omega) 1000 (by omega), Option.bind_some]
    cases ra : recB a0 a1 a2 a3 with
    | false => exact law_no a0 a1 a2 a3 b0 b1 b2 b3 c0 c1 c2 c3 ha hb 1000 (by omega)
    | true =>
      rw [if_pos rfl, recOk_eq b0 b1 b2 b3 (by omega) 1000 (by omega), Option.bind_some]
      cases rb : recB b0 b1 b2 b3 with
      | false => exact law_no a0 a1 a2 a3 b0 b1 b2 b3 c0 c1 c2 c3 ha hb 1000 (by omega)
      | true =>
        rw [if_pos rfl, recOk_eq c0 c1 c2 c3 (by omega) 1000 (by omega), Option.bind_some]
        cases rc : recB c0 c1 c2 c3 with
        | false => exact law_no a0 a1 a2 a3 b0 b1 b2 b3 c0 c1 c2 c3 ha hb 1000 (by omega)
        | true => exact law_j0 a0 a1 a2 a3 b0 b1 b2 b3 c0 c1 c2 c3 ha hb hc ra rb rc 1000 (by omega)

end Go.Proofs.Ytmlbkanpdhnfeaa.Pure

/- For every input of bytes the law FnRanked returns true: a ranking is sorted, holds the records of the list, and both nets rank the padded list alike. -/
import Derived.Test.YtncnmgklnnpeeaaPFnRankedx12
import Derived.Lib.Strings
import Derived.Test.YtncnmgklnnpeeaaNets
namespace Go.Proofs.Ytncnmgklnnpeeaa.Pure
open Go.RowKit Go.Proofs.Ytncnmgklnnpeeaa.PFnRanked Go.Proofs.YtncnmgklnnpeeaaW.PrintWords Go.Proofs.YtncnmgklnnpeeaaW.PrintLast Go.Proofs.YtncnmgklnnpeeaaW.PrintMore
set_option linter.unusedVariables false
set_option linter.unusedSimpArgs false

def letB (c : Int) : Bool := decide (97 ≤ c) && decide (c ≤ 122)
/-- Are the d bytes from i on letters? -/
def lets (s : ByteArray) : Nat → Nat → Bool
  | 0, _ => true
  | d + 1, i => letB (bt s (i : Int)) && lets s d (i + 1)
theorem lets_succ (s : ByteArray) (d i : Nat) : lets s (d + 1) i = (letB (bt s (i : Int)) && lets s d (i + 1)) := rfl
def wordB (s : ByteArray) : Bool := decide (1 ≤ s.size) && (decide (s.size ≤ 32) && lets s s.size 0)
theorem wr1w (i : Nat) (h : i ≤ 1048576) : wrap64 ((i : Int) + 1) = ((i + 1 : Nat) : Int) := by unfold wrap64; omega
theorem wordOk_l0 (s : ByteArray) (hs : s.size ≤ 1048576) : ∀ (d k i : Nat), s.size = i + d → d < k → spec_WordOk.l0 k s (i : Int) = some (lets s d i) := by
  intro d
  induction d with
  | zero =>
    intro k i hi hk
    obtain ⟨k, rfl⟩ : ∃ m, k = m + 1 := ⟨k - 1, by omega⟩
    simp only [spec_WordOk.l0]
    rw [if_neg (by omega)]; rfl
  | succ d ih =>
    intro k i hi hk
    obtain ⟨k, rfl⟩ : ∃ m, k = m + 1 := ⟨k - 1, by omega⟩
    simp only [spec_WordOk.l0]
    rw [if_pos (by omega), if_pos (by omega), wr1w i (by omega), ih k (i + 1) (by omega) (by omega)]
    rw [lets_succ]
    unfold letB
    by_cases c1 : bt s (i : Int) < 97
    · rw [if_pos c1, decide_eq_false (by omega)]; rfl
    · rw [if_neg c1, decide_eq_true (show 97 ≤ bt s (i : Int) by omega)]
      by_cases c2 : bt s (i : Int) > 122
      · rw [if_pos c2, decide_eq_false (by omega)]; rfl
      · rw [if_neg c2, decide_eq_true (show bt s (i : Int) ≤ 122 by omega)]; rfl
theorem wordOk_eq (s : ByteArray) (hs : s.size ≤ 1048576) (k : Nat) (hk : s.size + 1 < k) : spec_WordOk.f k s = some (wordB s) := by
  obtain ⟨k, rfl⟩ : ∃ m, k = m + 1 := ⟨k - 1, by omega⟩
  unfold spec_WordOk.f wordB
  by_cases c1 : (s.size : Int) < 1
  · rw [if_pos c1, decide_eq_false (by omega)]
    simp [spec_WordOk.j0]
  · rw [if_neg c1, decide_eq_true (show 1 ≤ s.size by omega)]
    by_cases c2 : (s.size : Int) > 32
    · rw [decide_eq_true c2, decide_eq_false (show ¬ s.size ≤ 32 by omega)]
      simp [spec_WordOk.j0]
    · rw [decide_eq_false c2, decide_eq_true (show s.size ≤ 32 by omega)]
      simp only [spec_WordOk.j0]
      have := wordOk_l0 s hs s.size k 0 (by omega) (by omega)
      rw [show ((0 : Nat) : Int) = 0 from rfl] at this
      rw [if_neg (by decide), this]; rfl
theorem within_eq (a b c : Int) : impl_within.f a b c = some (decide (b ≤ a) && decide (a ≤ c)) := by
  unfold impl_within.f
  by_cases c1 : a ≥ b
  · rw [if_pos c1, decide_eq_true (show b ≤ a from c1)]; rfl
  · rw [if_neg c1, decide_eq_false (show ¬ b ≤ a from c1)]; rfl
theorem isWord_l0 (s : ByteArray) (hs : s.size ≤ 1048576) : ∀ (d k i : Nat), s.size = i + d → d < k → impl_isWord.l0 k s (s.size : Int) (i : Int) = some (lets s d i && (decide (1 ≤ s.size) && decide (s.size ≤ 32))) := by
  intro d
  induction d with
  | zero =>
    intro k i hi hk
    obtain ⟨k, rfl⟩ : ∃ m, k = m + 1 := ⟨k - 1, by omega⟩
    simp only [impl_isWord.l0]
    rw [if_neg (by omega), within_eq]
    simp only [Option.bind_some, lets, Bool.true_and]
    congr 2
    · exact decide_eq_decide.2 (by omega)
    · exact decide_eq_decide.2 (by omega)
  | succ d ih =>
    intro k i hi hk
    obtain ⟨k, rfl⟩ : ∃ m, k = m + 1 := ⟨k - 1, by omega⟩
    simp only [impl_isWord.l0]
    rw [if_pos (by omega), if_pos (by omega), if_pos (by omega), wr1w i (by omega), ih k (i + 1) (by omega) (by omega)]
    rw [lets_succ]
    unfold letB
    by_cases c1 : bt s (i : Int) < 97
    · rw [if_pos c1, decide_eq_false (by omega)]; rfl
    · rw [if_neg c1, decide_eq_true (show 97 ≤ bt s (i : Int) by omega)]
      by_cases c2 : bt s (i : Int) > 122
      · rw [if_pos c2, decide_eq_false (by omega)]; rfl
      · rw [if_neg c2, decide_eq_true (show bt s (i : Int) ≤ 122 by omega)]; rfl
theorem isWord_eq (s : ByteArray) (hs : s.size ≤ 1048576) (k : Nat) (hk : s.size < k) : impl_isWord.f k s = some (wordB s) := by
  unfold impl_isWord.f wordB
  have := isWord_l0 s hs s.size k 0 (by omega) hk
  rw [show ((0 : Nat) : Int) = 0 from rfl] at this
  rw [this]
  congr 1
  cases lets s s.size 0 <;> cases decide (1 ≤ s.size) <;> cases decide (s.size ≤ 32) <;> rfl
def zeroB (a : Bool) (d w : Int) (s : ByteArray) : Bool := !a && (d == 0 && (w == 0 && (s.toList == ([] : List UInt8))))
def recB (a : Bool) (d w : Int) (s : ByteArray) : Bool := zeroB a d w s || (a && ((decide (0 ≤ d) && decide (d ≤ 7)) && ((decide (0 ≤ w) && decide (w ≤ 65535)) && wordB s)))
theorem recOk_eq (a : Bool) (d w : Int) (s : ByteArray) (hs : s.size ≤ 1048576) (k : Nat) (hk : s.size + 1 < k) : spec_RecOk.f k a d w s = some (recB a d w s) := by
  unfold spec_RecOk.f spec_l09Empty.f recB
  simp only [Option.bind_some]
  rw [show (!a && (d == 0 && (w == 0 && (s.toList == ([] : List UInt8))))) = zeroB a d w s from rfl]
  cases zeroB a d w s with
  | true => rfl
  | false =>
    rw [if_neg (by decide)]
    cases a with
    | false => rfl
    | true =>
      rw [if_pos rfl]
      by_cases c1 : d ≥ 0
      · rw [if_pos c1, decide_eq_true (show 0 ≤ d from c1)]
        by_cases c2 : d ≤ 7
        · rw [if_pos c2, decide_eq_true c2]
          by_cases c3 : w ≥ 0
          · rw [if_pos c3, decide_eq_true (show 0 ≤ w from c3)]
            by_cases c4 : w ≤ 65535
            · rw [if_pos c4, decide_eq_true c4, wordOk_eq s hs k hk]; rfl
            · rw [if_neg c4, decide_eq_false c4]; rfl
          · rw [if_neg c3, decide_eq_false (show ¬ 0 ≤ w from c3)]; rfl
        · rw [if_neg c2, decide_eq_false c2]; rfl
      · rw [if_neg c1, decide_eq_false (show ¬ 0 ≤ d from c1)]; rfl
theorem isRec_eq (a : Bool) (d w : Int) (s : ByteArray) (hs : s.size ≤ 1048576) (k : Nat) (hk : s.size < k) : impl_isRec.f k a d w s = some (recB a d w s) := by
  unfold impl_isRec.f recB
  rw [show (!a && (d == 0 && (w == 0 && (s.toList == ([] : List UInt8))))) = zeroB a d w s from rfl]
  cases zeroB a d w s with
  | true => rfl
  | false =>
    rw [if_neg (by decide)]
    cases a with
    | false => rfl
    | true =>
      rw [if_pos rfl, within_eq, within_eq]
      simp only [Option.bind_some]
      cases (decide (0 ≤ d) && decide (d ≤ 7)) with
      | false => rfl
      | true =>
        rw [if_pos rfl]
        cases (decide (0 ≤ w) && decide (w ≤ 65535)) with
        | false => rfl
        | true =>
          rw [if_pos rfl, isWord_eq s hs k hk]; rfl
theorem rd25 (l : List S25) (i : Nat) (h : i < l.length) : rd_T25 l (i : Int) = l[i] := by simp [rd_T25, h]
def fine (N : Nat) (l : List S25) : Prop := ∀ x, x ∈ l → x.f3.size ≤ N
def recR (x : S25) : Bool := recB x.f0 x.f1 x.f2 x.f3
def recsB (l : List S25) : Bool := decide (l.length ≤ 64) && l.all recR
theorem recsOk_l0 (l : List S25) (N : Nat) (hN : N ≤ 1048576) (hf : fine N l) (hl : l.length ≤ 1048576) : ∀ (d k i : Nat), i ≤ l.length → l.length - i = d → d + N + 2 < k → spec_RecsOk.l0 k l (i : Int) = some ((l.drop i).all recR) := by
  intro d
  induction d with
  | zero =>
    intro k i hi hd hk
    obtain ⟨k, rfl⟩ : ∃ m, k = m + 1 := ⟨k - 1, by omega⟩
    simp only [spec_RecsOk.l0]
    rw [if_neg (by omega), List.drop_eq_nil_of_le (by omega)]; rfl
  | succ d ih =>
    intro k i hi hd hk
    obtain ⟨k, rfl⟩ : ∃ m, k = m + 1 := ⟨k - 1, by omega⟩
    have hlt : i < l.length := by omega
    have hs := hf _ (List.getElem_mem hlt)
    simp only [spec_RecsOk.l0]
    rw [if_pos (by omega), if_pos (by omega), rd25 l i hlt, recOk_eq _ _ _ _ (by omega) k (by omega), List.drop_eq_getElem_cons hlt, List.all_cons]
    simp only [Option.bind_some]
    show (if recR l[i] = true then _ else _) = _
    cases recR l[i] with
    | false => rfl
    | true =>
      rw [if_pos rfl, wr1w i (by omega), ih k (i + 1) (by omega) (by omega) (by omega)]; rfl
theorem recsOk_eq (l : List S25) (N : Nat) (hN : N ≤ 1048576) (hf : fine N l) (hl : l.length ≤ 1048576) (k : Nat) (hk : l.length + N + 2 < k) : spec_RecsOk.f k l = some (recsB l) := by
  unfold spec_RecsOk.f recsB
  by_cases c : (l.length : Int) > 64
  · rw [if_pos c, decide_eq_false (by omega)]; rfl
  · rw [if_neg c, decide_eq_true (by omega)]
    have := recsOk_l0 l N hN hf hl l.length k 0 (by omega) (by omega) hk
    rw [show ((0 : Nat) : Int) = 0 from rfl, List.drop_zero] at this
    rw [this]; rfl
theorem badR_eq (x : S25) (h : x.f3.size ≤ 1048576) : badR x = some (!recR x) := by
  unfold badR recR
  rw [isRec_eq _ _ _ _ h _ (by omega)]; rfl
theorem idxR_eq (N : Nat) (hN : N ≤ 1048576) : ∀ (l : List S25) (i : Nat), fine N l → ∃ r, idxR l i = some r ∧ (!decide (0 ≤ r)) = l.all recR
  | [], i, _ => ⟨-1, rfl, rfl⟩
  | x :: l, i, hf => by
    have h1 := badR_eq x (by have := hf x (by simp); omega)
    obtain ⟨r, h2, h3⟩ := idxR_eq N hN l (i + 1) (fun y hy => hf y (by simp [hy]))
    unfold idxR
    rw [h1]
    simp only [Option.bind_some, List.all_cons]
    cases hr : recR x with
    | false =>
      refine ⟨(i : Int), rfl, ?_⟩
      rw [decide_eq_true (by omega)]; rfl
    | true => exact ⟨r, h2, by rw [h3]; rfl⟩
theorem areRecs_eq (l : List S25) (N : Nat) (hN : N ≤ 1048576) (hf : fine N l) : impl_areRecs.f l = some (recsB l) := by
  unfold impl_areRecs.f recsB
  by_cases c : l.length ≤ 64
  · obtain ⟨r, h2, h3⟩ := idxR_eq N hN l 0 hf
    rw [if_pos c, h2, decide_eq_true c]
    simp only [Option.bind_some]
    rw [h3]; rfl
  · rw [if_neg c, decide_eq_false c]; rfl
theorem wordCmp_l0 (a b : ByteArray) (ha : a.size ≤ 1048576) (hb : b.size ≤ 1048576) : ∀ (d k i : Nat), a.size = i + d → i ≤ b.size → 2 * d + 1 < k →
    ∃ r, spec_WordCmp.l0 k a b (i : Int) = some r ∧ decide (r < 0) = Op.bytesLess (a.data.toList.drop i) (b.data.toList.drop i) := by
  intro d
  induction d with
  | zero =>
    intro k i hi hj hk
    obtain ⟨k, rfl⟩ : ∃ m, k = m + 2 := ⟨k - 2, by omega⟩
    simp only [spec_WordCmp.l0]
    rw [if_neg (by omega)]
    simp only [spec_WordCmp.j1]
    rw [if_neg (by decide)]
    have e1 : a.data.toList.drop i = [] := List.drop_eq_nil_of_le (by rw [data_length]; omega)
    rw [e1]
    by_cases c : (a.size : Int) < (b.size : Int)
    · rw [if_pos c]
      refine ⟨_, rfl, ?_⟩
      have hlt : i < b.data.toList.length := by rw [data_length]; omega
      rw [List.drop_eq_getElem_cons hlt]; rfl
    · rw [if_neg c, if_neg (by omega)]
      refine ⟨_, rfl, ?_⟩
      rw [List.drop_eq_nil_of_le (by rw [data_length]; omega)]; rfl
  | succ d ih =>
    intro k i hi hj hk
    obtain ⟨k, rfl⟩ : ∃ m, k = m + 2 := ⟨k - 2, by omega⟩
    have hla : i < a.data.toList.length := by rw [data_length]; omega
    simp only [spec_WordCmp.l0]
    rw [if_pos (by omega)]
    simp only [spec_WordCmp.j1]
    by_cases c : (i : Int) < (b.size : Int)
    · have hlb : i < b.data.toList.length := by rw [data_length]; omega
      have ba : bt a (i : Int) = (a.data.toList[i].toNat : Int) := by
        have := bt_at a (i : Int) (by rw [Int.toNat_natCast]; omega)
        rw [← this]; simp [ByteArray.getElem_eq_getElem_data]
      have bb : bt b (i : Int) = (b.data.toList[i].toNat : Int) := by
        have := bt_at b (i : Int) (by rw [Int.toNat_natCast]; omega)
        rw [← this]; simp [ByteArray.getElem_eq_getElem_data]
      rw [decide_eq_true c, if_pos rfl, if_pos (by omega), if_pos (by omega), if_pos c, List.drop_eq_getElem_cons hla, List.drop_eq_getElem_cons hlb, ba, bb]
      generalize a.data.toList[i] = x
      generalize b.data.toList[i] = y
      have e : Op.bytesLess (x :: a.data.toList.drop (i + 1)) (y :: b.data.toList.drop (i + 1)) = (decide (x < y) || (x == y && Op.bytesLess (a.data.toList.drop (i + 1)) (b.data.toList.drop (i + 1)))) := rfl
      rw [e]
      by_cases c1 : (x.toNat : Int) < (y.toNat : Int)
      · rw [if_pos c1, decide_eq_true (show x < y by rw [UInt8.lt_iff_toNat_lt]; omega)]
        exact ⟨_, rfl, rfl⟩
      · rw [if_neg c1, decide_eq_false (show ¬ x < y by rw [UInt8.lt_iff_toNat_lt]; omega)]
        by_cases c2 : (x.toNat : Int) > (y.toNat : Int)
        · have hne : (x == y) = false := by
            rw [beq_eq_false_iff_ne]; intro h; subst h; omega
          rw [if_pos c2, hne]
          exact ⟨_, rfl, rfl⟩
        · have heq : x = y := UInt8.toNat_inj.1 (by omega)
          rw [if_neg c2, heq, wr1w i (by omega)]
          obtain ⟨r, h1, h2⟩ := ih k (i + 1) (by omega) (by omega) (by omega)
          refine ⟨r, h1, ?_⟩
          rw [h2]; simp
    · rw [decide_eq_false c, if_neg (by decide), if_neg (by omega), if_pos (by omega)]
      refine ⟨_, rfl, ?_⟩
      have e1 : b.data.toList.drop i = [] := List.drop_eq_nil_of_le (by rw [data_length]; omega)
      rw [e1]
      rcases a.data.toList.drop i with _ | ⟨x, l⟩ <;> rfl
def lessB (a b : ByteArray) : Bool := Op.bytesLess a.data.toList b.data.toList
theorem wordCmp_eq (a b : ByteArray) (ha : a.size ≤ 1048576) (hb : b.size ≤ 1048576) (k : Nat) (hk : 2 * a.size + 1 < k) : ∃ r, spec_WordCmp.f k a b = some r ∧ decide (r < 0) = lessB a b := by
  obtain ⟨r, h1, h2⟩ := wordCmp_l0 a b ha hb a.size k 0 (by omega) (by omega) hk
  exact ⟨r, h1, by rw [h2]; simp [lessB]⟩
def cmpI (a b : Int) : Int := if a < b then -1 else if a > b then 1 else 0
theorem cmpI_eq (a b : Int) : cmp_Compare_int.f a b = some (cmpI a b) := by
  unfold cmp_Compare_int.f cmp_isNaN_int.f cmpI
  simp only [Option.bind_some, bne_self_eq_false]
  rw [if_neg (by decide), if_neg (by decide)]
  by_cases c1 : a < b
  · rw [if_pos c1, if_pos c1]
  · rw [if_neg c1, if_neg c1]
    by_cases c2 : a > b
    · rw [if_pos c2, if_pos c2]
    · rw [if_neg c2, if_neg c2]
def cmpS (a b : ByteArray) : Int := if lessB a b = true then -1 else if lessB b a = true then 1 else 0
theorem cmpS_eq (a b : ByteArray) : cmp_Compare_string.f a b = some (cmpS a b) := by
  unfold cmp_Compare_string.f cmp_isNaN_string.f cmpS
  simp only [Option.bind_some, bne_self_eq_false, ByteArray.toList_eq]
  rw [if_neg (by decide), if_neg (by decide)]
  unfold lessB
  cases Op.bytesLess a.data.toList b.data.toList <;> cases Op.bytesLess b.data.toList a.data.toList <;> rfl
theorem or3 (k : Nat) (hk : 4 ≤ k) (x y z : Int) : cmp_Or_int.f k [x, y, z] = some (if x = 0 then (if y = 0 then z else y) else x) := by
  obtain ⟨k, rfl⟩ : ∃ m, k = m + 4 := ⟨k - 4, by omega⟩
  unfold cmp_Or_int.f
  show cmp_Or_int.l0 (k + 4) 0 [x, y, z] 3 0 = _
  have e1 : cmp_Or_int.l0 (k + 1) 0 [x, y, z] 3 3 = some 0 := by
    rw [cmp_Or_int.l0, if_neg (by decide)]
  have e2 : cmp_Or_int.l0 (k + 2) 0 [x, y, z] 3 2 = some z := by
    rw [cmp_Or_int.l0, if_pos (by decide), if_pos (by decide), if_pos (by simp)]
    rw [show rd [x, y, z] 2 = z from rfl, show wrap64 (2 + 1) = 3 from by unfold wrap64; omega]
    rw [e1]
    by_cases c : z = 0
    · rw [if_pos c, c]
    · rw [if_neg c]
  have e3 : cmp_Or_int.l0 (k + 3) 0 [x, y, z] 3 1 = some (if y = 0 then z else y) := by
    rw [cmp_Or_int.l0, if_pos (by decide), if_pos (by decide), if_pos (by simp)]
    rw [show rd [x, y, z] 1 = y from rfl, show wrap64 (1 + 1) = 2 from by unfold wrap64; omega]
    rw [e2]
    by_cases c : y = 0
    · rw [if_pos c, if_pos c]
    · rw [if_neg c, if_neg c]
  rw [cmp_Or_int.l0, if_pos (by decide), if_pos (by decide), if_pos (by simp)]
  rw [show rd [x, y, z] 0 = x from rfl, show wrap64 (0 + 1) = 1 from by unfold wrap64; omega]
  rw [e3]
  by_cases c : x = 0
  · rw [if_pos c, if_pos c]
  · rw [if_neg c, if_neg c]
/-- Does a precede b? -/
def aheadB (a0 : Bool) (a1 a2 : Int) (a3 : ByteArray) (b0 : Bool) (b1 b2 : Int) (b3 : ByteArray) : Bool :=
  if (a0 && b0) = true then (if a1 = b1 then (if a2 = b2 then lessB a3 b3 else decide (b2 < a2)) else decide (a1 < b1)) else a0 && !b0
theorem isAhead_eq (a0 : Bool) (a1 a2 : Int) (a3 : ByteArray) (b0 : Bool) (b1 b2 : Int) (b3 : ByteArray) (k : Nat) (hk : 5 ≤ k) : impl_isAhead.f k a0 a1 a2 a3 b0 b1 b2 b3 = some (aheadB a0 a1 a2 a3 b0 b1 b2 b3) := by
  obtain ⟨k, rfl⟩ : ∃ m, k = m + 1 := ⟨k - 1, by omega⟩
  unfold impl_isAhead.f aheadB
  cases a0 with
  | false => simp [impl_isAhead.j0]
  | true =>
    cases b0 with
    | false => simp [impl_isAhead.j0]
    | true =>
      rw [if_pos rfl]
      simp only [impl_isAhead.j0]
      rw [if_neg (by decide), cmpI_eq, cmpI_eq, cmpS_eq]
      simp only [Option.bind_some]
      rw [or3 k (by omega), if_pos (show (true && true) = true from rfl)]
      simp only [Option.bind_some]
      congr 1
      unfold cmpI cmpS
      by_cases c1 : a1 = b1
      · rw [if_pos c1, if_neg (show ¬ a1 < b1 by omega), if_neg (show ¬ a1 > b1 by omega), if_pos rfl]
        by_cases c2 : a2 = b2
        · rw [if_pos c2, if_neg (show ¬ b2 < a2 by omega), if_neg (show ¬ b2 > a2 by omega), if_pos rfl]
          cases lessB a3 b3 with
          | true => rfl
          | false =>
            rw [if_neg (by decide)]
            cases lessB b3 a3 <;> rfl
        · rw [if_neg c2]
          by_cases c3 : b2 < a2
          · rw [if_pos c3, if_neg (by decide), decide_eq_true c3]; rfl
          · rw [if_neg c3, if_pos (show b2 > a2 by omega), if_neg (by decide), decide_eq_false c3]; rfl
      · rw [if_neg c1]
        by_cases c3 : a1 < b1
        · rw [if_pos c3, if_neg (by decide), decide_eq_true c3]; rfl
        · rw [if_neg c3, if_pos (show a1 > b1 by omega), if_neg (by decide), decide_eq_false c3]; rfl
theorem specAhead_eq (a0 : Bool) (a1 a2 : Int) (a3 : ByteArray) (b0 : Bool) (b1 b2 : Int) (b3 : ByteArray) (ha : a3.size ≤ 1048576) (hb : b3.size ≤ 1048576) (k : Nat) (hk : 2 * a3.size + b3.size + 5 < k) :
    spec_RecAhead.f k a0 a1 a2 a3 b0 b1 b2 b3 = some (recB a0 a1 a2 a3 && (recB b0 b1 b2 b3 && aheadB a0 a1 a2 a3 b0 b1 b2 b3)) := by
  obtain ⟨k, rfl⟩ : ∃ m, k = m + 1 := ⟨k - 1, by omega⟩
  unfold spec_RecAhead.f
  rw [recOk_eq _ _ _ _ ha _ (by omega), recOk_eq _ _ _ _ hb _ (by omega)]
  simp only [Option.bind_some]
  cases recB a0 a1 a2 a3 with
  | false => simp [spec_RecAhead.j0]
  | true =>
    rw [if_pos rfl]
    cases recB b0 b1 b2 b3 with
    | false => simp [spec_RecAhead.j0]
    | true =>
      rw [if_pos rfl]
      unfold aheadB
      cases a0 with
      | false => simp [spec_RecAhead.j0]
      | true =>
        simp only [spec_RecAhead.j0]
        rw [if_neg (by decide)]
        cases b0 with
        | false => rfl
        | true =>
          rw [if_pos rfl, if_pos (show (true && true) = true from rfl)]
          by_cases c1 : a1 = b1
          · rw [if_pos c1, if_pos c1]
            by_cases c2 : a2 = b2
            · rw [if_pos c2, if_pos c2]
              obtain ⟨r, h1, h2⟩ := wordCmp_eq a3 b3 ha hb k (by omega)
              rw [h1]
              simp [h2]
            · rw [if_neg c2, if_neg c2]; simp
          · rw [if_neg c1, if_neg c1]; simp
def ahR (x y : S25) : Bool := aheadB x.f0 x.f1 x.f2 x.f3 y.f0 y.f1 y.f2 y.f3
theorem bl_eq : ∀ (x y : List UInt8), Op.bytesLess x y = decide (x < y)
  | [], [] => by simp [Op.bytesLess]
  | _ :: _, [] => by simp [Op.bytesLess]
  | [], _ :: _ => by simp [Op.bytesLess]
  | a :: x, b :: y => by
    rw [Op.bytesLess, bl_eq x y]
    simp only [List.cons_lt_cons_iff]
    by_cases h1 : a < b <;> by_cases h2 : a = b <;> by_cases h3 : x < y <;> simp [h1, h2, h3]
theorem lessB_irrefl (a : ByteArray) : lessB a a = false := by
  unfold lessB; rw [bl_eq]; exact decide_eq_false (List.lt_irrefl _)
theorem lessB_asymm (a b : ByteArray) (h : lessB a b = true) : lessB b a = false := by
  unfold lessB at *; rw [bl_eq] at *; exact decide_eq_false (List.lt_asymm (of_decide_eq_true h))
theorem lessB_ntrans (a b c : ByteArray) (h1 : lessB a b = false) (h2 : lessB b c = false) : lessB a c = false := by
  unfold lessB at *
  rw [bl_eq] at *
  have h1 := of_decide_eq_false h1
  have h2 := of_decide_eq_false h2
  refine decide_eq_false ?_
  rw [List.not_lt] at *
  exact List.le_trans h2 h1
theorem lessB_tri (a b : ByteArray) (h1 : lessB a b = false) (h2 : lessB b a = false) : a = b := by
  unfold lessB at *
  rw [bl_eq] at *
  have h1 := of_decide_eq_false h1
  have h2 := of_decide_eq_false h2
  rw [List.not_lt] at *
  exact ByteArray.ext (Array.toList_inj.1 (List.le_antisymm h2 h1))
def liveB (a1 a2 : Int) (s : ByteArray) (b1 b2 : Int) (t : ByteArray) : Bool := if a1 = b1 then (if a2 = b2 then lessB s t else decide (b2 < a2)) else decide (a1 < b1)
theorem liveB_false (a1 a2 : Int) (s : ByteArray) (b1 b2 : Int) (t : ByteArray) : liveB a1 a2 s b1 b2 t = false ↔ b1 < a1 ∨ (a1 = b1 ∧ (a2 < b2 ∨ (a2 = b2 ∧ lessB s t = false))) := by
  unfold liveB
  by_cases e1 : a1 = b1
  · rw [if_pos e1]
    by_cases e2 : a2 = b2
    · rw [if_pos e2]
      constructor
      · intro h; exact .inr ⟨e1, .inr ⟨e2, h⟩⟩
      · rintro (h | ⟨_, h | ⟨_, h⟩⟩)
        · omega
        · omega
        · exact h
    · rw [if_neg e2]
      constructor
      · intro h
        have := of_decide_eq_false h
        exact .inr ⟨e1, .inl (by omega)⟩
      · intro h
        exact decide_eq_false (by rcases h with h | ⟨_, h | ⟨h, _⟩⟩ <;> omega)
  · rw [if_neg e1]
    constructor
    · intro h
      have := of_decide_eq_false h
      exact .inl (by omega)
    · intro h
      exact decide_eq_false (by rcases h with h | ⟨h, _⟩ <;> omega)
theorem ahR_eq (x y : S25) : ahR x y = if (x.f0 && y.f0) = true then liveB x.f1 x.f2 x.f3 y.f1 y.f2 y.f3 else x.f0 && !y.f0 := rfl
theorem liveB_irrefl (a1 a2 : Int) (s : ByteArray) : liveB a1 a2 s a1 a2 s = false := by
  rw [liveB_false]; exact .inr ⟨rfl, .inr ⟨rfl, lessB_irrefl s⟩⟩
theorem liveB_asymm (a1 a2 : Int) (s : ByteArray) (b1 b2 : Int) (t : ByteArray) (h : liveB a1 a2 s b1 b2 t = true) : liveB b1 b2 t a1 a2 s = false := by
  rw [liveB_false]
  unfold liveB at h
  by_cases e1 : a1 = b1
  · rw [if_pos e1] at h
    by_cases e2 : a2 = b2
    · rw [if_pos e2] at h
      exact .inr ⟨e1.symm, .inr ⟨e2.symm, lessB_asymm _ _ h⟩⟩
    · rw [if_neg e2] at h
      exact .inr ⟨e1.symm, .inl (of_decide_eq_true h)⟩
  · rw [if_neg e1] at h
    exact .inl (of_decide_eq_true h)
theorem liveB_ntrans (a1 a2 : Int) (s : ByteArray) (b1 b2 : Int) (t : ByteArray) (c1 c2 : Int) (u : ByteArray) (h1 : liveB a1 a2 s b1 b2 t = false) (h2 : liveB b1 b2 t c1 c2 u = false) : liveB a1 a2 s c1 c2 u = false := by
  rw [liveB_false] at *
  rcases h1 with h1 | ⟨h1, h1' | ⟨h1', h1''⟩⟩ <;> rcases h2 with h2 | ⟨h2, h2' | ⟨h2', h2''⟩⟩
  · exact .inl (by omega)
  · exact .inl (by omega)
  · exact .inl (by omega)
  · exact .inl (by omega)
  · exact .inr ⟨by omega, .inl (by omega)⟩
  · exact .inr ⟨by omega, .inl (by omega)⟩
  · exact .inl (by omega)
  · exact .inr ⟨by omega, .inl (by omega)⟩
  · exact .inr ⟨by omega, .inr ⟨by omega, lessB_ntrans _ _ _ h1'' h2''⟩⟩
theorem ahR_ord : NetMath.Ord ahR where
  irrefl x := by
    rw [ahR_eq]
    cases x.f0 with
    | false => rfl
    | true => exact liveB_irrefl _ _ _
  ntrans x y z h1 h2 := by
    rw [ahR_eq] at *
    cases hx : x.f0 <;> cases hy : y.f0 <;> cases hz : z.f0 <;> simp [hx, hy, hz] at h1 h2 ⊢
    exact liveB_ntrans _ _ _ _ _ _ _ _ _ h1 h2
  asymm x y h := by
    rw [ahR_eq] at *
    cases hx : x.f0 <;> cases hy : y.f0 <;> simp [hx, hy] at h ⊢
    exact liveB_asymm _ _ _ _ _ _ h
theorem recR_dead (x : S25) (h : recR x = true) (h0 : x.f0 = false) : x = z25 := by
  obtain ⟨a, b, c, s⟩ := x
  simp only at h0
  subst h0
  have h : recB false b c s = true := h
  unfold recB zeroB at h
  simp only [Bool.not_false, Bool.true_and, Bool.false_and, Bool.or_false, Bool.and_eq_true, beq_iff_eq] at h
  obtain ⟨h1, h2, h3⟩ := h
  subst h1; subst h2
  rw [ByteArray.toList_eq] at h3
  have e : s = ⟨#[]⟩ := ByteArray.ext (Array.toList_inj.1 (by rw [h3]))
  subst e
  rfl
theorem ahR_tri (x y : S25) (hx : recR x = true) (hy : recR y = true) (h1 : ahR x y = false) (h2 : ahR y x = false) : x = y := by
  cases ex : x.f0 with
  | false =>
    cases ey : y.f0 with
    | false => rw [recR_dead x hx ex, recR_dead y hy ey]
    | true => rw [ahR_eq, ex, ey] at h2; simp at h2
  | true =>
    cases ey : y.f0 with
    | false => rw [ahR_eq, ex, ey] at h1; simp at h1
    | true =>
      rw [ahR_eq, ex, ey] at h1
      rw [ahR_eq, ex, ey] at h2
      simp only [Bool.and_self, if_true] at h1 h2
      rw [liveB_false] at h1 h2
      obtain ⟨a, b, c, s⟩ := x
      obtain ⟨a', b', c', s'⟩ := y
      simp only at *
      have e1 : b = b' := by rcases h1 with h1 | ⟨h1, _⟩ <;> rcases h2 with h2 | ⟨h2, _⟩ <;> omega
      have e2 : c = c' := by rcases h1 with h1 | ⟨h1, h1' | ⟨h1', _⟩⟩ <;> rcases h2 with h2 | ⟨h2, h2' | ⟨h2', _⟩⟩ <;> omega
      subst e1; subst e2; subst ex; subst ey
      have e3 : s = s' := by
        refine lessB_tri s s' ?_ ?_
        · rcases h1 with h1 | ⟨_, h1 | ⟨_, h1⟩⟩
          · omega
          · omega
          · exact h1
        · rcases h2 with h1 | ⟨_, h1 | ⟨_, h1⟩⟩
          · omega
          · omega
          · exact h1
      subst e3
      rfl
theorem recR_z : recR z25 = true := by
  show recB false 0 0 ⟨#[]⟩ = true
  unfold recB zeroB
  rw [ByteArray.toList_eq]
  rfl
theorem z26_last (x : S25) : ahR z25 x = false := by
  rw [ahR_eq]
  rfl
def okL (N : Nat) (l : List S25) : Prop := ∀ y, y ∈ l → recR y = true ∧ y.f3.size ≤ N
theorem okL_of (N : Nat) (l : List S25) (hf : fine N l) (c : recsB l = true) : okL N l := by
  intro y hy
  refine ⟨?_, hf y hy⟩
  unfold recsB at c
  simp only [Bool.and_eq_true, List.all_eq_true] at c
  exact c.2 y hy
theorem specAhR (x y : S25) (N : Nat) (hN : N ≤ 1048576) (hx : recR x = true ∧ x.f3.size ≤ N) (hy : recR y = true ∧ y.f3.size ≤ N) (k : Nat) (hk : 3 * N + 5 < k) :
    spec_RecAhead.f k x.f0 x.f1 x.f2 x.f3 y.f0 y.f1 y.f2 y.f3 = some (ahR x y) := by
  rw [specAhead_eq _ _ _ _ _ _ _ _ (by omega) (by omega) k (by omega)]
  rw [show recB x.f0 x.f1 x.f2 x.f3 = true from hx.1, show recB y.f0 y.f1 y.f2 y.f3 = true from hy.1]
  rfl
def ranked (l : List S25) : List S25 := if recsB l = true then RankMath.sort ahR l else []
theorem recsB_len (l : List S25) (h : recsB l = true) : l.length ≤ 64 := by
  unfold recsB at h
  simp only [Bool.and_eq_true, decide_eq_true_eq] at h
  exact h.1
theorem ranked_len (l : List S25) : (ranked l).length ≤ l.length := by
  unfold ranked
  split
  · rw [RankMath.sort_length]; omega
  · exact Nat.zero_le _
/-! the net -/
def wireOf (p : Nat × Nat) : S55 := ⟨(p.1 : Int), (p.2 : Int)⟩
def beqL : List S55 → List S55 → Bool
  | [], [] => true
  | x :: a, y :: b => decide (x.f0 = y.f0) && (decide (x.f1 = y.f1) && beqL a b)
  | _, _ => false
theorem beqL_eq : ∀ a b, beqL a b = true → a = b
  | [], [], _ => rfl
  | [], y :: b, h => by simp [beqL] at h
  | x :: a, [], h => by simp [beqL] at h
  | x :: a, y :: b, h => by
    simp only [beqL, Bool.and_eq_true, decide_eq_true_eq] at h
    obtain ⟨h1, h2, h3⟩ := h
    obtain ⟨x0, x1⟩ := x
    obtain ⟨y0, y1⟩ := y
    simp only at h1 h2
    rw [h1, h2, beqL_eq a b h3]
def is (n : Nat) (l : List S55) (x : Option (Int × List S55)) : Bool := match x with
  | some p => decide (p.1 = (n : Int)) && beqL p.2 l
  | none => false
theorem is_eq (n : Nat) (l : List S55) (x : Option (Int × List S55)) (h : is n l x = true) : x = some ((n : Int), l) := by
  match x, h with
  | some (m, r), h =>
    simp only [is, Bool.and_eq_true, decide_eq_true_eq] at h
    rw [h.1, beqL_eq r l h.2]
def canon (k : Nat) : List S55 := (NetMath.biNet k).flatten.map wireOf
set_option maxRecDepth 100000 in
theorem bit_impl : ∀ k, k < 6 → is (2 ^ k) (canon k) (impl_bitonic.f 3000 ((2 ^ k : Nat) : Int)) = true := by decide +kernel
set_option maxRecDepth 100000 in
theorem bit_impl6 : is 64 (canon 6) (impl_bitonic.f 3000 64) = true := by decide +kernel
theorem bit_in : ∀ k, k < 7 → (NetMath.biNet k).flatten.all (fun w => decide (w.1 < w.2) && decide (w.2 < 2 ^ k)) = true := by decide +kernel
theorem bitonic_at (j : Nat) (hj : j < 7) (k : Nat) (hk : 3000 ≤ k) : impl_bitonic.f k ((2 ^ j : Nat) : Int) = some (((2 ^ j : Nat) : Int), canon j) := by
  refine at_rounds (impl_bitonic.mono _) hk ?_
  by_cases c : j = 6
  · subst c
    exact is_eq _ _ _ bit_impl6
  · exact is_eq _ _ _ (bit_impl j (by omega))
def sizeB (n : Nat) (x : Option Int) (j : Nat) : Bool := decide (x = some ((2 ^ j : Nat) : Int)) && decide (n ≤ 2 ^ j)
theorem size_at : ∀ n : Fin 65, (List.range 7).any (sizeB n.val (impl_rankSize.f 10 (n.val : Int))) = true := by decide +kernel
theorem rankSize_at (n : Nat) (hn : n ≤ 64) (k : Nat) (hk : 10 ≤ k) : ∃ j, j < 7 ∧ n ≤ 2 ^ j ∧ impl_rankSize.f k (n : Int) = some ((2 ^ j : Nat) : Int) := by
  have := size_at ⟨n, by omega⟩
  rw [List.any_eq_true] at this
  obtain ⟨j, hj, h⟩ := this
  unfold sizeB at h
  simp only [Bool.and_eq_true, decide_eq_true_eq] at h
  exact ⟨j, List.mem_range.1 hj, h.2, at_rounds (impl_rankSize.mono _) hk h.1⟩
theorem swapR_swp (p : Nat × Nat) (l : List S25) (h1 : p.1 < l.length) (h2 : p.2 < l.length) : swapR (wireOf p) l = some (RankMath.swp ahR z25 p l) := by
  unfold swapR RankMath.swp wireOf
  dsimp only
  rw [if_pos ⟨by omega, by omega, by omega, by omega⟩, isAhead_eq _ _ _ _ _ _ _ _ 6 (by omega)]
  simp only [Option.bind_some]
  rw [show ∀ m : Nat, rd_T25 l (m : Int) = l.getD m z25 from fun m => rfl, show ∀ m : Nat, rd_T25 l (m : Int) = l.getD m z25 from fun m => rfl]
  simp only [Int.toNat_natCast]
  unfold ahR
  split <;> rfl
theorem runR_runs : ∀ (ps : List (Nat × Nat)) (l : List S25), (∀ p, p ∈ ps → p.1 < l.length ∧ p.2 < l.length) → runR (ps.map wireOf) l = some (RankMath.runs ahR z25 ps l)
  | [], l, _ => rfl
  | p :: ps, l, h => by
    have hp := h p (by simp)
    show (swapR (wireOf p) l).bind (runR (ps.map wireOf)) = some (RankMath.runs ahR z25 ps (RankMath.swp ahR z25 p l))
    rw [swapR_swp p l hp.1 hp.2]
    exact runR_runs ps _ (fun q hq => by rw [RankMath.swp_length]; exact h q (by simp [hq]))
theorem rankBit (l : List S25) (N : Nat) (hx : okL N l) (j : Nat) (hj : j < 7) (hl : l.length ≤ 2 ^ j) : impl_rankBy.f ((2 ^ j : Nat) : Int) (canon j) (l ++ List.replicate (2 ^ j - l.length) z25) = some (RankMath.sort ahR l ++ List.replicate (2 ^ j - l.length) z25) := by
  have hall := bit_in j hj
  rw [List.all_eq_true] at hall
  have hlen : (l ++ List.replicate (2 ^ j - l.length) z25).length = 2 ^ j := by simp; omega
  have h64 : 2 ^ j ≤ 64 := Nat.pow_le_pow_right (n := 2) (by omega) (show j ≤ 6 by omega)
  have hw : ∀ p, p ∈ (NetMath.biNet j).flatten → p.1 < p.2 ∧ p.2 < 2 ^ j := by
    intro p hp
    have := hall p hp
    simpa using this
  unfold impl_rankBy.f canon
  rw [if_pos (by rw [hlen]; omega), runR_runs _ _ (fun p hp => by rw [hlen]; have := hw p hp; omega)]
  congr 1
  refine RankMath.net_sort ahR_ord z25 z25 _ l (2 ^ j - l.length) (fun w h => ?_) (fun g => ?_) (fun x _ => z26_last x) (fun x y h1 h2 => ?_)
  · have := hw w h
    omega
  · rw [show l.length + (2 ^ j - l.length) = 2 ^ j by omega]
    exact NetMath.sorts_of_check (2 ^ j) (NetMath.biNet j) (NetMath.bi_ok j hj) g
  · have hz : ∀ x, x ∈ l ++ List.replicate (2 ^ j - l.length) z25 → recR x = true := by
      intro x hx2
      rcases List.mem_append.1 hx2 with h | h
      · exact (hx x h).1
      · rw [(List.mem_replicate.1 h).2]; exact recR_z
    exact ahR_tri x y (hz x h1) (hz y h2)
theorem irank (l : List S25) (N : Nat) (hx : okL N l) (h64 : l.length ≤ 64) (k : Nat) (hk : 3000 ≤ k) : impl_rank.f k l = some (RankMath.sort ahR l) := by
  unfold impl_rank.f
  obtain ⟨j, hj, hl, e⟩ := rankSize_at l.length h64 k (by omega)
  have hp : 2 ^ j ≤ 64 := Nat.pow_le_pow_right (n := 2) (by omega) (show j ≤ 6 by omega)
  rw [if_pos h64, e]
  simp only [Option.bind_some]
  rw [if_pos (by omega), if_pos (by omega), bitonic_at j hj k hk]
  simp only [Option.bind_some, Int.toNat_natCast]
  rw [show (rd_T25 [] 0) = z25 from rfl, rankBit l N hx j hj hl]
  simp only [Option.bind_some]
  have hs := RankMath.sort_length ahR l
  rw [if_pos (by rw [List.length_append, hs]; omega), List.take_append_of_le_length (by omega), List.take_of_length_le (by omega)]
theorem iRank (l : List S25) (N : Nat) (hN : N ≤ 1048576) (hf : fine N l) (k : Nat) (hk : 3000 ≤ k) : impl_Rank.f k l = some (ranked l) := by
  unfold impl_Rank.f ranked
  rw [areRecs_eq l N hN hf]
  simp only [Option.bind_some]
  by_cases c : recsB l = true
  · rw [if_pos c, if_pos c, irank l N (okL_of N l hf c) (recsB_len l c) k hk]; rfl
  · rw [if_neg c, if_neg c]
/-- The state of a reader of draws: where it stands, and its seed. -/
def Ok (at_ seed b : Int) : Prop := 0 ≤ at_ ∧ at_ ≤ b ∧ 0 ≤ seed ∧ seed < 65521
def Bytes (l : List Int) : Prop := l.length ≤ 1048576 ∧ ∀ x, x ∈ l → 0 ≤ x ∧ x ≤ 255
theorem Ok.up {a s b b' : Int} (h : Ok a s b) (hb : b ≤ b') : Ok a s b' := ⟨h.1, by have := h.2.1; omega, h.2.2⟩
theorem bytes_of {l : List Int} (h1 : l.length ≤ 1048576) (h2 : ∀ x, x ∈ l → (Lit.int .u8 x).wf = true) : Bytes l := by
  refine ⟨h1, fun x hx => ?_⟩
  have := h2 x hx
  simp [Lit.wf, IntKind.min, IntKind.max, IntKind.signed, IntKind.bits] at this
  omega
theorem rd_byte {l : List Int} (h : Bytes l) (i : Int) : 0 ≤ rd l i ∧ rd l i ≤ 255 := by
  unfold rd
  rw [List.getD_eq_getElem?_getD]
  cases e : l[i.toNat]? with
  | none => simp
  | some x => exact h.2 x (List.mem_of_getElem? e)
theorem tmod_pos {a n : Int} (h0 : 0 ≤ a) (hn : 0 < n) : 0 ≤ Int.tmod a n ∧ Int.tmod a n < n := by
  rw [Int.tmod_eq_emod_of_nonneg h0]
  exact ⟨Int.emod_nonneg _ (by omega), Int.emod_lt_of_pos _ hn⟩
theorem pick_ok {l : List Int} (hl : Bytes l) {a s b : Int} (h : Ok a s b) (hb : b ≤ 1000000000000) (n : Int) :
    ∃ r a' s', spec_l01Cur_pick.f l a s n = some (r, a', s') ∧ 0 ≤ r ∧ (2 ≤ n → r < n) ∧ (n < 2 → r = 0) ∧ Ok a' s' (b + 1) := by
  obtain ⟨h0, h1, h2, h3⟩ := h
  have hlen := hl.1
  unfold spec_l01Cur_pick.f
  by_cases c1 : n < 2
  · rw [if_pos c1]
    exact ⟨0, a, s, rfl, by omega, fun _ => by omega, fun _ => rfl, h0, by omega, h2, h3⟩
  · rw [if_neg c1]
    have w1 : wrap64 (a + 1) = a + 1 := by unfold wrap64; omega
    have w2 : wrap64 (s * 1103) = s * 1103 := by unfold wrap64; omega
    have w3 : wrap64 (s * 1103 + 12345) = s * 1103 + 12345 := by unfold wrap64; omega
    rw [w1, w2, w3]
    have hs := tmod_pos (a := s * 1103 + 12345) (n := 65521) (by omega) (by omega)
    generalize Int.tmod (s * 1103 + 12345) 65521 = s1 at hs
    have hok : Ok (a + 1) s1 (b + 1) := ⟨by omega, by omega, hs.1, hs.2⟩
    by_cases c2 : a < (l.length : Int)
    · rw [if_pos c2, if_pos h0, if_neg (by omega)]
      have hr := rd_byte hl a
      rw [show wrap64 (rd l a) = rd l a from by unfold wrap64; omega]
      have hm := tmod_pos (a := rd l a) (n := n) hr.1 (by omega)
      exact ⟨_, _, _, rfl, hm.1, fun _ => hm.2, fun h => absurd h c1, by omega, by omega, h2, h3⟩
    · rw [if_neg c2]
      by_cases c3 : (l.length : Int) > 0
      · rw [if_pos c3, if_neg (by omega)]
        have hi := tmod_pos (a := a) (n := (l.length : Int)) h0 c3
        rw [if_pos hi.1, if_pos hi.2, if_neg (by omega)]
        have hr := rd_byte hl (Int.tmod a (l.length : Int))
        generalize rd l (Int.tmod a (l.length : Int)) = y at hr
        have hd : 0 ≤ Int.tdiv s1 7 ∧ Int.tdiv s1 7 ≤ 65521 := by
          rw [Int.tdiv_eq_ediv_of_nonneg hs.1]; omega
        generalize Int.tdiv s1 7 = z at hd
        rw [show wrap64 z = z from by unfold wrap64; omega, show wrap64 y = y from by unfold wrap64; omega, show wrap64 (z + y) = z + y from by unfold wrap64; omega]
        have hm := tmod_pos (a := z + y) (n := n) (by omega) (by omega)
        exact ⟨_, _, _, rfl, hm.1, fun _ => hm.2, fun h => absurd h c1, hok⟩
      · rw [if_neg c3, if_neg (by omega)]
        have e : (0 : Int) % n = 0 := Int.zero_emod n
        rw [e]
        exact ⟨_, _, _, rfl, by omega, fun _ => by omega, fun h => absurd h c1, hok⟩
theorem raw_ok {l : List Int} (hl : Bytes l) {a s b : Int} (h : Ok a s b) (hb : b ≤ 900000000000) :
    ∃ r a' s', spec_l01Cur_raw.f l a s = some (r, a', s') ∧ (-9223372036854775808 ≤ r ∧ r ≤ 9223372036854775807) ∧ Ok a' s' (b + 2) := by
  obtain ⟨r1, a1, s1, e1, k1, k2, _, o1⟩ := pick_ok hl h (by omega) 8
  unfold spec_l01Cur_raw.f
  rw [e1]
  simp only [Option.bind_some]
  by_cases c1 : r1 = 0
  · rw [if_pos c1]
    obtain ⟨r2, a2, s2, e2, k3, k4, _, o2⟩ := pick_ok hl o1 (by omega) 256
    rw [e2]
    have := k4 (by omega)
    exact ⟨_, _, _, rfl, by rw [show wrap64 (r2 - 128) = r2 - 128 from by unfold wrap64; omega]; omega, o2.up (by omega)⟩
  · rw [if_neg c1]
    by_cases c2 : r1 = 1
    · rw [if_pos c2]
      obtain ⟨r2, a2, s2, e2, k3, k4, _, o2⟩ := pick_ok hl o1 (by omega) 8
      simp only [e2, Option.bind_some]
      rw [if_pos k3, if_pos (by have := k4 (by omega); simpa using this)]
      refine ⟨_, _, _, rfl, ?_, o2.up (by omega)⟩
      have k5 := k4 (by omega)
      have h8 : r2 = 0 ∨ r2 = 1 ∨ r2 = 2 ∨ r2 = 3 ∨ r2 = 4 ∨ r2 = 5 ∨ r2 = 6 ∨ r2 = 7 := by omega
      rcases h8 with rfl | rfl | rfl | rfl | rfl | rfl | rfl | rfl <;> decide
    · rw [if_neg c2]
      obtain ⟨r2, a2, s2, e2, k3, k4, _, o2⟩ := pick_ok hl o1 (by omega) 14
      rw [e2]
      have := k4 (by omega)
      exact ⟨_, _, _, rfl, by rw [show wrap64 (r2 - 3) = r2 - 3 from by unfold wrap64; omega]; omega, o2.up (by omega)⟩
theorem open_ok {l : List Int} (hl : Bytes l) : ∃ s, spec_l01Open.f l = some (l, 0, s) ∧ Ok 0 s 0 := by
  refine ⟨_, rfl, by omega, by omega, ?_, ?_⟩ <;> omega
theorem once_ok {l : List Int} (hl : Bytes l) {a s b : Int} (h : Ok a s b) (hb : b ≤ 900000000000) (n : Int) :
    ∃ r a' s', spec_l01Cur_once.f l a s n = some (r, a', s') ∧ Ok a' s' (b + 1) := by
  obtain ⟨r, a', s', e, _, _, _, o⟩ := pick_ok hl h (by omega) n
  unfold spec_l01Cur_once.f
  rw [e]
  exact ⟨_, _, _, rfl, o⟩
theorem wide_ok {l : List Int} (hl : Bytes l) {a s b : Int} (h : Ok a s b) (hb : b ≤ 900000000000) (n : Int) (hn : n ≠ 0) :
    ∃ r a' s', spec_l01Cur_wide.f l a s n = some (r, a', s') ∧ Ok a' s' (b + 3) := by
  obtain ⟨r1, a1, s1, e1, _, _, _, o1⟩ := pick_ok hl h (by omega) 256
  obtain ⟨r2, a2, s2, e2, _, _, _, o2⟩ := pick_ok hl o1 (by omega) 256
  obtain ⟨r3, a3, s3, e3, _, _, _, o3⟩ := pick_ok hl o2 (by omega) 256
  unfold spec_l01Cur_wide.f
  simp only [e1, e2, e3, Option.bind_some]
  rw [if_neg hn]
  exact ⟨_, _, _, rfl, o3.up (by omega)⟩
theorem word_l0 {l : List Int} (hl : Bytes l) : ∀ (d k : Nat) (x : List Int) (a s b : Int) (n : Int), Ok a s b → b + 2 * (d : Int) ≤ 900000000000 → x.length ≤ 64 → n = (x.length : Int) + d → n ≤ 64 → d < k →
    ∃ w a' s', spec_l01Cur_word.l0 k n x l a s = some (w, a', s') ∧ (w.size : Int) = n ∧ Ok a' s' (b + 2 * (d : Int)) := by
  intro d
  induction d with
  | zero =>
    intro k x a s b n h hb hx hn hn2 hk
    obtain ⟨k, rfl⟩ : ∃ m, k = m + 1 := ⟨k - 1, by omega⟩
    simp only [spec_l01Cur_word.l0]
    rw [if_neg (by omega)]
    exact ⟨_, _, _, rfl, by rw [strOfNums_size]; omega, h.up (by omega)⟩
  | succ d ih =>
    intro k x a s b n h hb hx hn hn2 hk
    obtain ⟨k, rfl⟩ : ∃ m, k = m + 1 := ⟨k - 1, by omega⟩
    simp only [spec_l01Cur_word.l0]
    rw [if_pos (by omega)]
    simp only [Option.bind_some]
    obtain ⟨r1, a1, s1, e1, k1, k2, _, o1⟩ := pick_ok hl h (by omega) 3
    rw [e1]
    simp only [Option.bind_some]
    rw [if_pos k1, if_pos (by have := k2 (by omega); simpa using this)]
    obtain ⟨r2, a2, s2, e2, _, _, _, o2⟩ := pick_ok hl o1 (by omega) (rd [2, 3, 26] r1)
    rw [e2]
    simp only [Option.bind_some]
    rw [if_pos (by omega)]
    obtain ⟨w, a', s', e, hw, o⟩ := ih k (x ++ [wrap64 (97 + r2) % 256]) a2 s2 (b + 1 + 1) n o2 (by omega) (by simp; omega) (by simp; omega) hn2 (by omega)
    exact ⟨w, a', s', e, hw, o.up (by omega)⟩
theorem word_ok {l : List Int} (hl : Bytes l) {a s b : Int} (h : Ok a s b) (hb : b ≤ 800000000000) (k : Nat) (hk : 70 < k) :
    ∃ w a' s', spec_l01Cur_word.f k l a s = some (w, a', s') ∧ w.size ≤ 32 ∧ Ok a' s' (b + 70) := by
  unfold spec_l01Cur_word.f
  simp only [Option.bind_some]
  obtain ⟨r1, a1, s1, e1, k1, k2, _, o1⟩ := pick_ok hl h (by omega) 4
  rw [e1]
  simp only [Option.bind_some]
  have hr := k2 (by omega)
  rw [if_pos k1, if_pos (by simpa using hr)]
  have hm : 2 ≤ rd [3, 5, 8, 32] r1 ∧ rd [3, 5, 8, 32] r1 ≤ 32 := by
    have h4 : r1 = 0 ∨ r1 = 1 ∨ r1 = 2 ∨ r1 = 3 := by omega
    rcases h4 with rfl | rfl | rfl | rfl <;> decide
  obtain ⟨r2, a2, s2, e2, k3, k4, _, o2⟩ := pick_ok hl o1 (by omega) (rd [3, 5, 8, 32] r1)
  rw [e2]
  simp only [Option.bind_some]
  have hr2 := k4 hm.1
  rw [show wrap64 (1 + r2) = 1 + r2 from by unfold wrap64; omega]
  obtain ⟨n, rfl⟩ := Int.eq_ofNat_of_zero_le k3
  obtain ⟨w, a', s', e, hw, o⟩ := word_l0 hl (n + 1) k [] a2 s2 _ (1 + (n : Int)) o2 (by omega) (by simp) (by simp; omega) (by omega) (by omega)
  exact ⟨w, a', s', e, by omega, o.up (by omega)⟩
theorem badWord_ok {l : List Int} (hl : Bytes l) {a s b : Int} (h : Ok a s b) (hb : b ≤ 700000000000) (k : Nat) (hk : 70 < k) :
    ∃ w a' s', spec_l01Cur_badWord.f k l a s = some (w, a', s') ∧ w.size ≤ 100 ∧ Ok a' s' (b + 80) := by
  unfold spec_l01Cur_badWord.f
  obtain ⟨w, a0, s0, e0, hw, o0⟩ := word_ok hl h (by omega) k hk
  rw [e0]
  simp only [Option.bind_some]
  obtain ⟨r1, a1, s1, e1, _, _, _, o1⟩ := pick_ok hl o0 (by omega) 9
  rw [e1]
  simp only [Option.bind_some]
  by_cases c0 : r1 = 0
  · rw [if_pos c0]
    rw [show wrap64 ((w.size : Int) + 1) = (w.size : Int) + 1 from by unfold wrap64; omega]
    obtain ⟨r2, a2, s2, e2, k3, k4, k5, o2⟩ := pick_ok hl o1 (by omega) ((w.size : Int) + 1)
    rw [e2]
    simp only [Option.bind_some]
    have h2 : r2 ≤ (w.size : Int) := by
      by_cases c : 2 ≤ (w.size : Int) + 1
      · have := k4 c; omega
      · have := k5 (by omega); omega
    rw [if_pos k3, if_pos h2]
    obtain ⟨r3, a3, s3, e3, k6, k7, _, o3⟩ := pick_ok hl o2 (by omega) 6
    rw [e3]
    simp only [Option.bind_some]
    have h3 := k7 (by omega)
    rw [if_pos k6, if_pos (by simpa using h3)]
    have hq : (rdOf ByteArray.empty [(⟨#[]⟩ : ByteArray), (⟨#[65]⟩ : ByteArray), (⟨#[45]⟩ : ByteArray), (⟨#[0]⟩ : ByteArray), (⟨#[122, 122]⟩ : ByteArray), (⟨#[123]⟩ : ByteArray)] r3).size ≤ 2 := by
      have h6 : r3 = 0 ∨ r3 = 1 ∨ r3 = 2 ∨ r3 = 3 ∨ r3 = 4 ∨ r3 = 5 := by omega
      rcases h6 with rfl | rfl | rfl | rfl | rfl | rfl <;> decide
    generalize rdOf ByteArray.empty [(⟨#[]⟩ : ByteArray), (⟨#[65]⟩ : ByteArray), (⟨#[45]⟩ : ByteArray), (⟨#[0]⟩ : ByteArray), (⟨#[122, 122]⟩ : ByteArray), (⟨#[123]⟩ : ByteArray)] r3 = z at hq
    have hs1 : (w.extract 0 r2.toNat).size ≤ 32 := by rw [ByteArray.size_extract]; omega
    have hs2 : (w.extract r2.toNat w.size).size ≤ 32 := by rw [ByteArray.size_extract]; omega
    have hs3 : (w.extract 0 r2.toNat ++ z).size ≤ 34 := by rw [ByteArray.size_append]; omega
    rw [if_pos (by omega), if_pos (by omega)]
    exact ⟨_, _, _, rfl, by rw [ByteArray.size_append]; omega, o3.up (by omega)⟩
  · rw [if_neg c0]
    by_cases c1 : r1 = 1
    · rw [if_pos c1]
      exact ⟨_, _, _, rfl, Nat.zero_le _, o1.up (by omega)⟩
    · rw [if_neg c1]
      by_cases c2 : r1 = 2
      · rw [if_pos c2, if_pos (by omega)]
        obtain ⟨r2, a2, s2, e2, k3, k4, _, o2⟩ := pick_ok hl o1 (by omega) 33
        rw [e2]
        simp only [Option.bind_some]
        have h2 := k4 (by omega)
        rw [if_pos k3, if_pos (by omega)]
        have hs1 : (w ++ w).size ≤ 64 := by rw [ByteArray.size_append]; omega
        have hs2 : ((⟨#[97, 97, 97, 97, 97, 97, 97, 97, 97, 97, 97, 97, 97, 97, 97, 97, 97, 97, 97, 97, 97, 97, 97, 97, 97, 97, 97, 97, 97, 97, 97, 97]⟩ : ByteArray).extract 0 (r2 : Int).toNat).size ≤ 32 := by
          rw [ByteArray.size_extract]; omega
        generalize ((⟨#[97, 97, 97, 97, 97, 97, 97, 97, 97, 97, 97, 97, 97, 97, 97, 97, 97, 97, 97, 97, 97, 97, 97, 97, 97, 97, 97, 97, 97, 97, 97, 97]⟩ : ByteArray).extract 0 (r2 : Int).toNat) = z at hs2
        rw [if_pos (by omega)]
        exact ⟨_, _, _, rfl, by rw [ByteArray.size_append]; omega, o2.up (by omega)⟩
      · rw [if_neg c2]
        exact ⟨_, _, _, rfl, by omega, o1.up (by omega)⟩
theorem drec_ok {l : List Int} (hl : Bytes l) {a s b : Int} (h : Ok a s b) (hb : b ≤ 600000000000) (k : Nat) (hk : 70 < k) :
    ∃ x0 x1 x2 x3 a' s', spec_l01Cur_rec.f k l a s = some (x0, x1, x2, x3, a', s') ∧ x3.size ≤ 32 ∧ Ok a' s' (b + 100) := by
  unfold spec_l01Cur_rec.f
  obtain ⟨r1, a1, s1, e1, o1⟩ := once_ok hl h (by omega) 5
  rw [e1]
  simp only [Option.bind_some]
  cases r1 with
  | true => exact ⟨_, _, _, _, _, _, rfl, Nat.zero_le _, o1.up (by omega)⟩
  | false =>
    rw [if_neg (by decide)]
    obtain ⟨r2, a2, s2, e2, k3, k4, _, o2⟩ := pick_ok hl o1 (by omega) 2
    rw [e2]
    simp only [Option.bind_some]
    have h2 := k4 (by omega)
    rw [if_pos k3, if_pos (by simpa using h2)]
    obtain ⟨r3, a3, s3, e3, _, _, _, o3⟩ := pick_ok hl o2 (by omega) (rd [3, 8] r2)
    rw [e3]
    simp only [Option.bind_some]
    obtain ⟨r4, a4, s4, e4, _, _, _, o4⟩ := pick_ok hl o3 (by omega) 3
    rw [e4]
    simp only [Option.bind_some]
    obtain ⟨r5, a5, s5, e5, o5⟩ := wide_ok hl o4 (by omega) 65536 (by decide)
    rw [e5]
    simp only [Option.bind_some]
    obtain ⟨r6, a6, s6, e6, k6, k7, _, o6⟩ := pick_ok hl o5 (by omega) 3
    rw [e6]
    simp only [Option.bind_some]
    have h6 := k7 (by omega)
    rw [if_pos k6, if_pos (by simpa using h6)]
    obtain ⟨w, a7, s7, e7, hw, o7⟩ := word_ok hl o6 (by omega) k hk
    rw [e7]
    exact ⟨_, _, _, _, _, _, rfl, hw, o7.up (by omega)⟩
theorem badRec_ok {l : List Int} (hl : Bytes l) {a s b : Int} (h : Ok a s b) (hb : b ≤ 500000000000) (k : Nat) (hk : 70 < k) :
    ∃ x0 x1 x2 x3 a' s', spec_l01Cur_badRec.f k l a s = some (x0, x1, x2, x3, a', s') ∧ x3.size ≤ 100 ∧ Ok a' s' (b + 200) := by
  unfold spec_l01Cur_badRec.f
  obtain ⟨x0, x1, x2, x3, a1, s1, e1, hx, o1⟩ := drec_ok hl h (by omega) k hk
  rw [e1]
  simp only [Option.bind_some]
  obtain ⟨r2, a2, s2, e2, _, _, _, o2⟩ := pick_ok hl o1 (by omega) 12
  rw [e2]
  simp only [Option.bind_some]
  by_cases c0 : r2 = 0
  · rw [if_pos c0]; exact ⟨_, _, _, _, _, _, rfl, by omega, o2.up (by omega)⟩
  · rw [if_neg c0]
    by_cases c1 : r2 = 1
    · rw [if_pos c1]
      obtain ⟨r3, a3, s3, e3, _, o3⟩ := raw_ok hl o2 (by omega)
      rw [e3]
      simp only [Option.bind_some]
      obtain ⟨r4, a4, s4, e4, k4, k5, _, o4⟩ := pick_ok hl o3 (by omega) 3
      rw [e4]
      simp only [Option.bind_some]
      have h4 := k5 (by omega)
      rw [if_pos k4, if_pos (by simpa using h4)]
      exact ⟨_, _, _, _, _, _, rfl, by omega, o4.up (by omega)⟩
    · rw [if_neg c1]
      by_cases c2 : r2 = 2
      · rw [if_pos c2]
        obtain ⟨r3, a3, s3, e3, _, o3⟩ := raw_ok hl o2 (by omega)
        rw [e3]
        simp only [Option.bind_some]
        obtain ⟨r4, a4, s4, e4, k4, k5, _, o4⟩ := pick_ok hl o3 (by omega) 2
        rw [e4]
        simp only [Option.bind_some]
        have h4 := k5 (by omega)
        rw [if_pos k4, if_pos (by simpa using h4)]
        exact ⟨_, _, _, _, _, _, rfl, by omega, o4.up (by omega)⟩
      · rw [if_neg c2]
        by_cases c3 : r2 = 3
        · rw [if_pos c3]
          obtain ⟨w, a3, s3, e3, hw, o3⟩ := badWord_ok hl o2 (by omega) k hk
          rw [e3]
          exact ⟨_, _, _, _, _, _, rfl, hw, o3.up (by omega)⟩
        · rw [if_neg c3]
          exact ⟨_, _, _, _, _, _, rfl, by omega, o2.up (by omega)⟩
theorem recs_j1 {l : List Int} (hl : Bytes l) (k : Nat) (x : List S25) (d : Nat) (flag : Bool) {a s b : Int} (h : Ok a s b) (hb : b ≤ 500000000000) (x0 : Bool) (x1 x2 : Int) (x3 : ByteArray) (h3 : x3.size ≤ 32) (hf : fine 32 x) (hx : x.length ≤ 200) (hd : d ≤ 200)
    (hflag : flag = true → 0 < x.length) :
    ∃ y a' s', spec_l01Cur_recs.j1 (k + 1) x ((d + 1 : Nat) : Int) flag l a s x0 x1 x2 x3 = spec_l01Cur_recs.l0 k (x ++ [y]) (d : Int) l a' s' ∧ y.f3.size ≤ 32 ∧ Ok a' s' (b + 1) := by
  have ew : wrap64 (((d + 1 : Nat) : Int) - 1) = (d : Int) := by unfold wrap64; omega
  simp only [spec_l01Cur_recs.j1]
  rw [ew]
  cases flag with
  | false =>
    rw [if_neg (by decide), if_pos (by omega)]
    exact ⟨⟨x0, x1, x2, x3⟩, a, s, rfl, h3, h.up (by omega)⟩
  | true =>
    have hp := hflag rfl
    rw [if_pos rfl]
    obtain ⟨r, a1, s1, e1, k1, k2, k3, o1⟩ := pick_ok hl h (by omega) (x.length : Int)
    rw [e1]
    simp only [Option.bind_some]
    have hr : r < (x.length : Int) := by
      by_cases c : 2 ≤ (x.length : Int)
      · exact k2 c
      · have := k3 (by omega); omega
    rw [if_pos k1, if_pos hr]
    have hm : (rd_T25 x r).f3.size ≤ 32 := by
      obtain ⟨i, rfl⟩ := Int.eq_ofNat_of_zero_le k1
      rw [rd25 x i (by omega)]
      exact hf _ (List.getElem_mem _)
    cases c1 : (rd_T25 x r).f0 with
    | false =>
      rw [if_neg (by decide), if_pos (by omega)]
      exact ⟨⟨false, _, _, _⟩, a1, s1, rfl, hm, o1⟩
    | true =>
      rw [if_pos rfl]
      cases x0 with
      | true =>
        rw [if_pos rfl, if_pos (by omega)]
        exact ⟨⟨true, _, _, x3⟩, a1, s1, rfl, h3, o1⟩
      | false =>
        rw [if_neg (by decide), if_pos (by omega)]
        exact ⟨⟨true, _, _, _⟩, a1, s1, rfl, hm, o1⟩
theorem fine_snoc (N : Nat) (x : List S25) (y : S25) (hf : fine N x) (hy : y.f3.size ≤ N) : fine N (x ++ [y]) := by
  intro z hz
  rcases List.mem_append.1 hz with h | h
  · exact hf z h
  · rw [List.mem_singleton.1 h]; exact hy
theorem recs_l0 {l : List Int} (hl : Bytes l) : ∀ (d k : Nat) (x : List S25) (a s b : Int), Ok a s b → b + 200 * (d : Int) ≤ 400000000000 → x.length + d ≤ 100 → fine 32 x → 2 * d + 72 < k →
    ∃ r a' s', spec_l01Cur_recs.l0 k x (d : Int) l a s = some (r, a', s') ∧ r.length ≤ x.length + d ∧ fine 32 r ∧ Ok a' s' (b + 200 * (d : Int)) := by
  intro d
  induction d with
  | zero =>
    intro k x a s b h hb hx hf hk
    obtain ⟨k, rfl⟩ : ∃ m, k = m + 1 := ⟨k - 1, by omega⟩
    simp only [spec_l01Cur_recs.l0]
    rw [if_neg (by omega)]
    exact ⟨_, _, _, rfl, by omega, hf, h.up (by omega)⟩
  | succ d ih =>
    intro k x a s b h hb hx hf hk
    obtain ⟨k, rfl⟩ : ∃ m, k = m + 2 := ⟨k - 2, by omega⟩
    rw [show k + 2 = (k + 1) + 1 from rfl]
    simp only [spec_l01Cur_recs.l0]
    rw [if_pos (by omega)]
    obtain ⟨x0, x1, x2, x3, a1, s1, e1, h3, o1⟩ := drec_ok hl h (by omega) (k + 1) (by omega)
    rw [e1]
    simp only [Option.bind_some]
    have step : ∀ (flag : Bool) (a2 s2 b2 : Int), Ok a2 s2 b2 → b2 ≤ b + 101 → (flag = true → 0 < x.length) → ∃ r a' s', spec_l01Cur_recs.j1 (k + 1) x ((d + 1 : Nat) : Int) flag l a2 s2 x0 x1 x2 x3 = some (r, a', s') ∧ r.length ≤ x.length + (d + 1) ∧ fine 32 r ∧ Ok a' s' (b + 200 * ((d + 1 : Nat) : Int)) := by
      intro flag a2 s2 b2 o2 hb2 hflag
      obtain ⟨y, a3, s3, e3, hy, o3⟩ := recs_j1 hl k x d flag o2 (by omega) x0 x1 x2 x3 h3 hf (by omega) (by omega) hflag
      obtain ⟨r, a4, s4, e4, hr, hfr, o4⟩ := ih k (x ++ [y]) a3 s3 (b2 + 1) o3 (by omega) (by simp; omega) (fine_snoc 32 x y hf hy) (by omega)
      refine ⟨r, a4, s4, e3.trans e4, ?_, hfr, o4.up (by omega)⟩
      rw [List.length_append, List.length_singleton] at hr
      omega
    by_cases c : (x.length : Int) > 0
    · rw [if_pos c]
      obtain ⟨r2, a2, s2, e2, o2⟩ := once_ok hl o1 (by omega) 4
      rw [e2]
      simp only [Option.bind_some]
      exact step r2 a2 s2 _ o2 (by omega) (fun _ => by omega)
    · rw [if_neg c]
      exact step false a1 s1 _ o1 (by omega) (fun h => by cases h)
theorem size_ok {l : List Int} (hl : Bytes l) {a s b : Int} (h : Ok a s b) (hb : b ≤ 900000000000) :
    ∃ (n : Nat) (a' s' : Int), spec_l01Cur_size.f l a s 16 = some ((n : Int), a', s') ∧ n ≤ 16 ∧ Ok a' s' (b + 1) := by
  unfold spec_l01Cur_size.f
  have hlen := hl.1
  have hd : 0 ≤ (l.length : Int) / 8 ∧ (l.length : Int) / 8 ≤ 1048576 := by omega
  generalize (l.length : Int) / 8 = q at hd
  rw [show wrap64 q = q from by unfold wrap64; omega, show wrap64 (1 + q) = 1 + q from by unfold wrap64; omega]
  have hm : 1 ≤ mn 16 (1 + q) ∧ mn 16 (1 + q) ≤ 16 := by unfold mn; split <;> omega
  generalize mn 16 (1 + q) = m at hm
  rw [show wrap64 (m + 1) = m + 1 from by unfold wrap64; omega]
  obtain ⟨r, a1, s1, e1, k1, k2, k3, o1⟩ := pick_ok hl h (by omega) (m + 1)
  rw [e1]
  simp only [Option.bind_some]
  have := k2 (by omega)
  obtain ⟨n, rfl⟩ := Int.eq_ofNat_of_zero_le k1
  exact ⟨n, a1, s1, rfl, by omega, o1⟩
theorem recs_ok {l : List Int} (hl : Bytes l) {a s b : Int} (h : Ok a s b) (hb : b ≤ 300000000000) (k : Nat) (hk : 200 < k) :
    ∃ r a' s', spec_l01Cur_recs.f k l a s 16 = some (r, a', s') ∧ r.length ≤ 16 ∧ fine 32 r ∧ Ok a' s' (b + 4000) := by
  unfold spec_l01Cur_recs.f
  obtain ⟨n, a1, s1, e1, hn, o1⟩ := size_ok hl h (by omega)
  rw [e1]
  simp only [Option.bind_some]
  obtain ⟨r, a2, s2, e2, hr, hf, o2⟩ := recs_l0 hl n k [] a1 s1 _ o1 (by omega) (by simp; omega) (fun y hy => absurd hy (by simp)) (by omega)
  exact ⟨r, a2, s2, e2, by simp at hr; omega, hf, o2.up (by omega)⟩
theorem badRecs_l0 {l : List Int} (hl : Bytes l) : ∀ (d k : Nat) (x : List S25) (a s b : Int), Ok a s b → b + 200 * (d : Int) ≤ 300000000000 → 66 - x.length = d → x.length ≤ 100 → fine 32 x → d + 72 < k →
    ∃ r a' s', spec_l01Cur_badRecs.l0 k x l a s = some (r, a', s') ∧ r.length ≤ 100 ∧ fine 32 r ∧ Ok a' s' (b + 200 * (d : Int) + 10) := by
  intro d
  induction d with
  | zero =>
    intro k x a s b h hb hd hx hf hk
    obtain ⟨k, rfl⟩ : ∃ m, k = m + 1 := ⟨k - 1, by omega⟩
    simp only [spec_l01Cur_badRecs.l0]
    obtain ⟨r, a1, s1, e1, k1, k2, _, o1⟩ := pick_ok hl h (by omega) 2
    rw [e1]
    simp only [Option.bind_some]
    have := k2 (by omega)
    rw [show wrap64 (64 + r) = 64 + r from by unfold wrap64; omega, if_neg (by omega)]
    exact ⟨_, _, _, rfl, by omega, hf, o1.up (by omega)⟩
  | succ d ih =>
    intro k x a s b h hb hd hx hf hk
    obtain ⟨k, rfl⟩ : ∃ m, k = m + 1 := ⟨k - 1, by omega⟩
    simp only [spec_l01Cur_badRecs.l0]
    obtain ⟨r, a1, s1, e1, k1, k2, _, o1⟩ := pick_ok hl h (by omega) 2
    rw [e1]
    simp only [Option.bind_some]
    have := k2 (by omega)
    rw [show wrap64 (64 + r) = 64 + r from by unfold wrap64; omega]
    by_cases c : (x.length : Int) < 64 + r
    · rw [if_pos c]
      obtain ⟨x0, x1, x2, x3, a2, s2, e2, h3, o2⟩ := drec_ok hl o1 (by omega) k (by omega)
      rw [e2]
      simp only [Option.bind_some]
      rw [if_pos (by omega)]
      obtain ⟨q, a3, s3, e3, hq, hfq, o3⟩ := ih k (x ++ [⟨x0, x1, x2, x3⟩]) a2 s2 _ o2 (by omega) (by simp; omega) (by simp; omega) (fine_snoc 32 x _ hf h3) (by omega)
      exact ⟨q, a3, s3, e3, hq, hfq, o3.up (by omega)⟩
    · rw [if_neg c]
      exact ⟨_, _, _, rfl, by omega, hf, o1.up (by omega)⟩
theorem fine_up {N M : Nat} {x : List S25} (h : fine N x) (hm : N ≤ M) : fine M x := fun y hy => Nat.le_trans (h y hy) hm
theorem badRecs_ok {l : List Int} (hl : Bytes l) {a s b : Int} (h : Ok a s b) (hb : b ≤ 200000000000) (k : Nat) (hk : 200 < k) :
    ∃ r a' s', spec_l01Cur_badRecs.f k l a s = some (r, a', s') ∧ r.length ≤ 100 ∧ fine 100 r ∧ Ok a' s' (b + 20000) := by
  unfold spec_l01Cur_badRecs.f
  obtain ⟨x, a1, s1, e1, hx, hf, o1⟩ := recs_ok hl h (by omega) k hk
  rw [e1]
  simp only [Option.bind_some]
  obtain ⟨r2, a2, s2, e2, _, _, _, o2⟩ := pick_ok hl o1 (by omega) 12
  rw [e2]
  simp only [Option.bind_some]
  by_cases c0 : r2 = 0
  · rw [if_pos c0]
    obtain ⟨x0, x1, x2, x3, a3, s3, e3, h3, o3⟩ := badRec_ok hl o2 (by omega) k (by omega)
    rw [e3]
    simp only [Option.bind_some]
    rw [if_pos (by omega)]
    exact ⟨_, _, _, rfl, by simp; omega, fine_snoc 100 x _ (fine_up hf (by omega)) h3, o3.up (by omega)⟩
  · rw [if_neg c0]
    by_cases c1 : r2 = 1
    · rw [if_pos c1]
      obtain ⟨q, a3, s3, e3, hq, hfq, o3⟩ := badRecs_l0 hl _ k x a2 s2 _ o2 (by omega) rfl (by omega) hf (by omega)
      exact ⟨q, a3, s3, e3, hq, fine_up hfq (by omega), o3.up (by omega)⟩
    · rw [if_neg c1]
      exact ⟨_, _, _, rfl, by omega, fine_up hf (by omega), o2.up (by omega)⟩
theorem same_l0 (r : List S25) (hr : r.length ≤ 100) : ∀ (d k i : Nat), i ≤ r.length → r.length - i = d → d < k → laws_sameRecs.l0 k r r (i : Int) = some true := by
  intro d
  induction d with
  | zero =>
    intro k i hi hd hk
    obtain ⟨k, rfl⟩ : ∃ m, k = m + 1 := ⟨k - 1, by omega⟩
    simp only [laws_sameRecs.l0]
    rw [if_neg (by omega)]
  | succ d ih =>
    intro k i hi hd hk
    obtain ⟨k, rfl⟩ : ∃ m, k = m + 1 := ⟨k - 1, by omega⟩
    simp only [laws_sameRecs.l0]
    rw [if_pos (by omega), if_pos (by omega), if_pos (by omega), if_neg (by simp), wr1w i (by omega)]
    exact ih k (i + 1) (by omega) (by omega) (by omega)
theorem same_eq (r : List S25) (hr : r.length ≤ 100) (k : Nat) (hk : 100 < k) : laws_sameRecs.f k r r = some true := by
  unfold laws_sameRecs.f
  rw [if_pos rfl]
  exact same_l0 r hr r.length k 0 (by omega) (by omega) (by omega)
theorem drawRank_ok {l : List Int} (hl : Bytes l) (k : Nat) (hk : 200 < k) : ∃ r, spec_DrawRank.f k l = some r ∧ r.length ≤ 100 ∧ fine 100 r := by
  unfold spec_DrawRank.f
  obtain ⟨s, e0, o0⟩ := open_ok hl
  rw [e0, Option.bind_some]
  obtain ⟨r, a1, s1, e1, hr, hf, o1⟩ := badRecs_ok hl o0 (by omega) k hk
  dsimp only
  rw [e1, Option.bind_some]
  exact ⟨_, rfl, hr, hf⟩
def eqR (y x : S25) : Bool := x.f0 == y.f0 && (x.f1 == y.f1 && (x.f2 == y.f2 && (x.f3.toList == y.f3.toList)))
theorem cnt_l0 (r : List S25) (hr : r.length ≤ 100) (y : S25) : ∀ (d k i n : Nat), i ≤ r.length → r.length - i = d → n ≤ i → d < k → laws_timesIn.l0 k r (n : Int) (i : Int) y.f0 y.f1 y.f2 y.f3 = some ((n + (r.drop i).countP (eqR y) : Nat) : Int) := by
  intro d
  induction d with
  | zero =>
    intro k i n hi hd hn hk
    obtain ⟨k, rfl⟩ : ∃ m, k = m + 1 := ⟨k - 1, by omega⟩
    simp only [laws_timesIn.l0]
    rw [if_neg (by omega), List.drop_eq_nil_of_le (by omega)]
    rfl
  | succ d ih =>
    intro k i n hi hd hn hk
    obtain ⟨k, rfl⟩ : ∃ m, k = m + 1 := ⟨k - 1, by omega⟩
    have hlt : i < r.length := by omega
    simp only [laws_timesIn.l0]
    rw [if_pos (by omega), if_pos (by omega), rd25 r i hlt, wr1w i (by omega), wr1w n (by omega), List.drop_eq_getElem_cons hlt, List.countP_cons]
    cases c : ((r[i]).f0 == y.f0 && ((r[i]).f1 == y.f1 && ((r[i]).f2 == y.f2 && ((r[i]).f3.toList == y.f3.toList)))) with
    | true =>
      rw [if_pos rfl, if_pos (show eqR y r[i] = true from c), ih k (i + 1) (n + 1) (by omega) (by omega) (by omega) (by omega)]
      congr 2
      omega
    | false =>
      rw [if_neg (by decide), if_neg (show ¬ eqR y r[i] = true from by rw [show eqR y r[i] = false from c]; decide), ih k (i + 1) n (by omega) (by omega) (by omega) (by omega)]
      rfl
theorem cnt_eq (r : List S25) (hr : r.length ≤ 100) (y : S25) (k : Nat) (hk : 100 < k) : laws_timesIn.f k r y.f0 y.f1 y.f2 y.f3 = some ((r.countP (eqR y) : Nat) : Int) := by
  unfold laws_timesIn.f
  have := cnt_l0 r hr y r.length k 0 0 (by omega) (by omega) (by omega) (by omega)
  simpa using this
def canonO (k : Nat) : List S55 := (NetMath.oeNet k).flatten.map wireOf
set_option maxRecDepth 100000 in
theorem oe_impl : ∀ k, k < 6 → is (2 ^ k) (canonO k) (impl_OddEven.f 3000 ((2 ^ k : Nat) : Int)) = true := by decide +kernel
set_option maxRecDepth 100000 in
theorem oe_impl6 : is 64 (canonO 6) (impl_OddEven.f 3000 64) = true := by decide +kernel
theorem oe_in : ∀ k, k < 7 → (NetMath.oeNet k).flatten.all (fun w => decide (w.1 < w.2) && decide (w.2 < 2 ^ k)) = true := by decide +kernel
theorem oddEven_at (j : Nat) (hj : j < 7) (k : Nat) (hk : 3000 ≤ k) : impl_OddEven.f k ((2 ^ j : Nat) : Int) = some (((2 ^ j : Nat) : Int), canonO j) := by
  refine at_rounds (impl_OddEven.mono _) hk ?_
  by_cases c : j = 6
  · subst c
    exact is_eq _ _ _ oe_impl6
  · exact is_eq _ _ _ (oe_impl j (by omega))
theorem power_at : ∀ j, j < 7 → impl_isPower.f ((2 ^ j : Nat) : Int) = some true := by decide +kernel
theorem bitonicI_at (j : Nat) (hj : j < 7) (k : Nat) (hk : 3000 ≤ k) : impl_Bitonic.f k ((2 ^ j : Nat) : Int) = some (((2 ^ j : Nat) : Int), canon j) := by
  unfold impl_Bitonic.f
  rw [power_at j hj, Option.bind_some, if_pos rfl, bitonic_at j hj k hk]
  rfl
theorem net_at : ∀ j, j < 7 → impl_isNet.f ((2 ^ j : Nat) : Int) (canon j) = some true := by decide +kernel
theorem netO_at : ∀ j, j < 7 → impl_isNet.f ((2 ^ j : Nat) : Int) (canonO j) = some true := by decide +kernel
theorem rankOE (l : List S25) (N : Nat) (hx : okL N l) (j : Nat) (hj : j < 7) (hl : l.length ≤ 2 ^ j) : impl_rankBy.f ((2 ^ j : Nat) : Int) (canonO j) (l ++ List.replicate (2 ^ j - l.length) z25) = some (RankMath.sort ahR l ++ List.replicate (2 ^ j - l.length) z25) := by
  have hall := oe_in j hj
  rw [List.all_eq_true] at hall
  have hlen : (l ++ List.replicate (2 ^ j - l.length) z25).length = 2 ^ j := by simp; omega
  have h64 : 2 ^ j ≤ 64 := Nat.pow_le_pow_right (n := 2) (by omega) (show j ≤ 6 by omega)
  have hw : ∀ p, p ∈ (NetMath.oeNet j).flatten → p.1 < p.2 ∧ p.2 < 2 ^ j := by
    intro p hp
    have := hall p hp
    simpa using this
  unfold impl_rankBy.f canonO
  rw [if_pos (by rw [hlen]; omega), runR_runs _ _ (fun p hp => by rw [hlen]; have := hw p hp; omega)]
  congr 1
  refine RankMath.net_sort ahR_ord z25 z25 _ l (2 ^ j - l.length) (fun w h => ?_) (fun g => ?_) (fun x _ => z26_last x) (fun x y h1 h2 => ?_)
  · have := hw w h
    omega
  · rw [show l.length + (2 ^ j - l.length) = 2 ^ j by omega]
    exact NetMath.sorts_of_check (2 ^ j) (NetMath.oeNet j) (NetMath.oe_ok j hj) g
  · have hz : ∀ x, x ∈ l ++ List.replicate (2 ^ j - l.length) z25 → recR x = true := by
      intro x hx2
      rcases List.mem_append.1 hx2 with h | h
      · exact (hx x h).1
      · rw [(List.mem_replicate.1 h).2]; exact recR_z
    exact ahR_tri x y (hz x h1) (hz y h2)
/-- A list of records with empty ones behind it, ranked by a net of its size. -/
theorem padded (r : List S25) (hx : okL 100 r) (j : Nat) (hj : j < 7) (hl : r.length ≤ 2 ^ j) (ws : List S55) (hn : impl_isNet.f ((2 ^ j : Nat) : Int) ws = some true)
    (hr : impl_rankBy.f ((2 ^ j : Nat) : Int) ws (r ++ List.replicate (2 ^ j - r.length) z25) = some (RankMath.sort ahR r ++ List.replicate (2 ^ j - r.length) z25)) :
    impl_RankBy.f ((2 ^ j : Nat) : Int) ws (r ++ List.replicate (2 ^ j - r.length) z25) = some (RankMath.sort ahR r ++ List.replicate (2 ^ j - r.length) z25) := by
  have h64 : 2 ^ j ≤ 64 := Nat.pow_le_pow_right (n := 2) (by omega) (show j ≤ 6 by omega)
  have hlen : (r ++ List.replicate (2 ^ j - r.length) z25).length = 2 ^ j := by simp; omega
  have hz : ∀ x, x ∈ r ++ List.replicate (2 ^ j - r.length) z25 → recR x = true ∧ x.f3.size ≤ 100 := by
    intro x hx2
    rcases List.mem_append.1 hx2 with h | h
    · exact hx x h
    · rw [(List.mem_replicate.1 h).2]; exact ⟨recR_z, Nat.zero_le _⟩
  have hf : fine 100 (r ++ List.replicate (2 ^ j - r.length) z25) := fun y hy => (hz y hy).2
  have hb : recsB (r ++ List.replicate (2 ^ j - r.length) z25) = true := by
    unfold recsB
    rw [hlen, decide_eq_true h64]
    simp only [Bool.true_and, List.all_eq_true]
    exact fun y hy => (hz y hy).1
  unfold impl_RankBy.f
  rw [hn, Option.bind_some, if_pos rfl, areRecs_eq _ 100 (by omega) hf, Option.bind_some, if_pos hb, if_pos (by rw [hlen]), hr]
  rfl
theorem rankSize_all (n : Nat) (hn : n ≤ 64) : ∃ j, j < 7 ∧ n ≤ 2 ^ j ∧ ∀ k, 10 ≤ k → impl_rankSize.f k (n : Int) = some ((2 ^ j : Nat) : Int) := by
  have := size_at ⟨n, by omega⟩
  rw [List.any_eq_true] at this
  obtain ⟨j, hj, h⟩ := this
  unfold sizeB at h
  simp only [Bool.and_eq_true, decide_eq_true_eq] at h
  exact ⟨j, List.mem_range.1 hj, h.2, fun k hk => at_rounds (impl_rankSize.mono _) hk h.1⟩
theorem last (r : List S25) (hx : okL 100 r) (h64 : r.length ≤ 64) (j : Nat) (hj : j < 7) (hl : r.length ≤ 2 ^ j) (hs : ∀ k, 10 ≤ k → impl_rankSize.f k (r.length : Int) = some ((2 ^ j : Nat) : Int)) (k : Nat) (hk : 3100 < k) :
    laws_FnRanked.l1 k r (RankMath.sort ahR r) ((2 ^ j : Nat) : Int) (r ++ List.replicate (2 ^ j - r.length) z25) = some true := by
  obtain ⟨k, rfl⟩ : ∃ m, k = m + 2 := ⟨k - 2, by omega⟩
  have hlen : (r ++ List.replicate (2 ^ j - r.length) z25).length = 2 ^ j := by simp; omega
  have hg := RankMath.sort_length ahR r
  have hlen2 : (RankMath.sort ahR r ++ List.replicate (2 ^ j - r.length) z25).length = 2 ^ j := by rw [List.length_append, List.length_replicate, hg]; omega
  have htk : (RankMath.sort ahR r ++ List.replicate (2 ^ j - r.length) z25).take r.length = RankMath.sort ahR r := by
    rw [List.take_append_of_le_length (by omega), List.take_of_length_le (by omega)]
  have p1 := padded r hx j hj hl (canon j) (net_at j hj) (rankBit r 100 hx j hj hl)
  have p2 := padded r hx j hj hl (canonO j) (netO_at j hj) (rankOE r 100 hx j hj hl)
  rw [show k + 2 = (k + 1) + 1 from rfl]
  simp only [laws_FnRanked.l1]
  rw [if_neg (by rw [hlen]; omega), bitonicI_at j hj _ (by omega), Option.bind_some]
  dsimp only
  rw [p1, Option.bind_some, oddEven_at j hj _ (by omega), Option.bind_some]
  dsimp only
  rw [p2, Option.bind_some]
  generalize RankMath.sort ahR r ++ List.replicate (2 ^ j - r.length) z25 = q at hlen2 htk
  rw [if_pos (by rw [hlen2]), if_pos (by rw [hlen2]), decide_eq_false (by omega)]
  simp only [laws_FnRanked.j2]
  rw [if_neg (by decide), if_pos (by omega), if_pos (by omega), Int.toNat_natCast, htk, same_eq _ (by omega) _ (by omega), Option.bind_some, if_pos rfl, if_pos (by omega), Option.bind_some, if_pos rfl]
  unfold impl_RankSteps.f impl_within.f
  rw [if_pos (show (r.length : Int) ≥ 0 by omega), decide_eq_true (show (r.length : Int) ≤ 64 by omega), Option.bind_some, if_pos rfl, hs k (by omega), Option.bind_some, bitonic_at j hj k (by omega), Option.bind_some, Option.bind_some, bitonicI_at j hj k (by omega), Option.bind_some]
  dsimp only
  rw [beq_self_eq_true]
theorem pads (r : List S25) (hx : okL 100 r) (h64 : r.length ≤ 64) (j : Nat) (hj : j < 7) (hl : r.length ≤ 2 ^ j) (hs : ∀ k, 10 ≤ k → impl_rankSize.f k (r.length : Int) = some ((2 ^ j : Nat) : Int)) :
    ∀ (d k m : Nat), 2 ^ j - r.length - m = d → m ≤ 2 ^ j - r.length → d + 3200 < k → laws_FnRanked.l1 k r (RankMath.sort ahR r) ((2 ^ j : Nat) : Int) (r ++ List.replicate m z25) = some true := by
  have hp : 2 ^ j ≤ 64 := Nat.pow_le_pow_right (n := 2) (by omega) (show j ≤ 6 by omega)
  intro d
  induction d with
  | zero =>
    intro k m hd hm hk
    rw [show m = 2 ^ j - r.length by omega]
    exact last r hx h64 j hj hl hs k (by omega)
  | succ d ih =>
    intro k m hd hm hk
    obtain ⟨k, rfl⟩ : ∃ m, k = m + 1 := ⟨k - 1, by omega⟩
    have hlen : (r ++ List.replicate m z25).length = r.length + m := by simp
    simp only [laws_FnRanked.l1]
    rw [if_pos (by rw [hlen]; omega), if_pos (by rw [hlen]; omega), List.append_assoc, show List.replicate m z25 ++ [(⟨false, 0, 0, ⟨#[]⟩⟩ : S25)] = List.replicate (m + 1) z25 from (List.replicate_succ' ..).symm]
    exact ih k (m + 1) (by omega) (by omega) (by omega)
theorem loop (r : List S25) (hx : okL 100 r) (h64 : r.length ≤ 64) : ∀ (d k i : Nat), i ≤ r.length → r.length - i = d → d + 4000 < k → laws_FnRanked.l0 k r (RankMath.sort ahR r) (i : Int) = some true := by
  have hg := RankMath.sort_length ahR r
  have hp := RankMath.sort_perm ahR r
  have hso := RankMath.sort_sorted ahR_ord r
  have hy : okL 100 (RankMath.sort ahR r) := fun y h => hx y (hp.mem_iff.1 h)
  intro d
  induction d with
  | zero =>
    intro k i hi hd hk
    obtain ⟨k, rfl⟩ : ∃ m, k = m + 1 := ⟨k - 1, by omega⟩
    obtain ⟨j, hj, hl, hs⟩ := rankSize_all r.length h64
    simp only [laws_FnRanked.l0]
    rw [if_neg (by omega)]
    unfold impl_RankSize.f
    rw [hs k (by omega), Option.bind_some, Option.bind_some, Option.bind_some, if_pos (by simp; omega), List.nil_append]
    have := pads r hx h64 j hj hl hs (2 ^ j - r.length) k 0 (by omega) (by omega) (by have : 2 ^ j ≤ 64 := Nat.pow_le_pow_right (n := 2) (by omega) (show j ≤ 6 by omega); omega)
    rw [List.replicate_zero, List.append_nil] at this
    exact this
  | succ d ih =>
    intro k i hi hd hk
    obtain ⟨k, rfl⟩ : ∃ m, k = m + 1 := ⟨k - 1, by omega⟩
    have hlt : i < (RankMath.sort ahR r).length := by omega
    have step := ih k (i + 1) (by omega) (by omega) (by omega)
    simp only [laws_FnRanked.l0]
    rw [if_pos (by omega), if_pos (by omega), rd25 _ i hlt, cnt_eq _ (by omega) _ _ (by omega), Option.bind_some, cnt_eq _ (by omega) _ _ (by omega), Option.bind_some, if_pos (by rw [hp.countP_eq]), wr1w i (by omega)]
    by_cases c : (i : Int) > 0
    · obtain ⟨q, rfl⟩ : ∃ q, i = q + 1 := ⟨i - 1, by omega⟩
      have ew : wrap64 (((q + 1 : Nat) : Int) - 1) = (q : Int) := by unfold wrap64; omega
      have hq : q < (RankMath.sort ahR r).length := by omega
      have hA : ahR (RankMath.sort ahR r)[q + 1] (RankMath.sort ahR r)[q] = false := List.pairwise_iff_getElem.1 hso q (q + 1) hq hlt (by omega)
      rw [if_pos c, ew, if_pos (by omega), if_pos (by omega), rd25 _ q hq, specAhR _ _ 100 (by omega) (hy _ (List.getElem_mem _)) (hy _ (List.getElem_mem _)) k (by omega), Option.bind_some, hA, if_neg (by decide)]
      exact step
    · rw [if_neg c]
      exact step
theorem FnRanked : laws_FnRanked.Pure := by
  intro l0 hl1 hl2 hb
  refine ⟨10000, ?_⟩
  unfold laws_FnRanked.f laws_big.f
  rw [Option.bind_some]
  by_cases c : (l0.length : Int) > 1048576
  · rw [if_pos (decide_eq_true c)]
  rw [if_neg (by simpa using c)]
  have hl : Bytes l0 := bytes_of (by omega) hb
  obtain ⟨r, e, hr, hf⟩ := drawRank_ok hl 10000 (by omega)
  rw [e, Option.bind_some, Option.bind_some, if_pos (by simp; omega), List.nil_append, iRank r 100 (by omega) hf 10000 (by omega), Option.bind_some, recsOk_eq r 100 (by omega) hf (by omega) 10000 (by omega), Option.bind_some]
  unfold ranked
  by_cases c1 : recsB r = true
  · rw [if_pos c1, if_pos c1, if_pos (by rw [RankMath.sort_length])]
    exact loop r (okL_of 100 r hf c1) (recsB_len r c1) r.length 10000 0 (by omega) (by omega) (by have := recsB_len r c1; omega)
  · rw [if_neg c1, if_neg c1]
    rfl

end Go.Proofs.Ytncnmgklnnpeeaa.Pure

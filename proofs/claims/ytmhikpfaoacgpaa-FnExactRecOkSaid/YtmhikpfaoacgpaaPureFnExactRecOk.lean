/- For every record, the program's RecOk returns what the reference's RecOk returns; conditions: none. -/
import Derived.Test.YtmhikpfaoacgpaaOpenFnExactRecOk
namespace Go.Proofs.Ytmhikpfaoacgpaa.Pure
open Go.RowKit Go.Proofs.Ytmhikpfaoacgpaa.OpenFnExactRecOk Go.Proofs.Ytmhikpfaoacgpaa.RowOpen Go.Proofs.Ytmhikpfaoacgpaa.PFnExactRecOk Go.Proofs.YtmhikpfaoacgpaaW.PrintWords Go.Proofs.YtmhikpfaoacgpaaW.PrintLast Go.Proofs.YtmhikpfaoacgpaaW.PrintMore
set_option linter.unusedVariables false
set_option linter.unusedSimpArgs false

def letB (c : Int) : Bool := decide (97 ≤ c) && decide (c ≤ 122)
/-- Are the d bytes from i on letters? -/
def lets (s : ByteArray) : Nat → Nat → Bool
  | 0, _ => true
  | d + 1, i => letB (bt s (i : Int)) && lets s d (i + 1)
theorem lets_succ (s : ByteArray) (d i : Nat) : lets s (d + 1) i = (letB (bt s (i : Int)) && lets s d (i + 1)) := rfl
def wordB (s : ByteArray) : Bool := decide (1 ≤ s.size) && (decide (s.size ≤ 32) && lets s s.size 0)
theorem wr1w (i : Nat) (h : i ≤ 1048576) : wrap64 ((i : Int) + 1) = ((i + 1 : Nat) : Int) := by unfold wrap64; omega
theorem wordOk_l0 (s : ByteArray) (hs : s.size ≤ 1048576) : ∀ (d k i : Nat), s.size = i + d → d < k → spec_WordOk.l0 k s (i : Int) = some (lets s d i) := by
  intro d
  induction d with
  | zero =>
    intro k i hi hk
    obtain ⟨k, rfl⟩ : ∃ m, k = m + 1 := ⟨k - 1, by omega⟩
    simp only [spec_WordOk.l0]
    rw [if_neg (by omega)]; rfl
  | succ d ih =>
    intro k i hi hk
    obtain ⟨k, rfl⟩ : ∃ m, k = m + 1 := ⟨k - 1, by omega⟩
    simp only [spec_WordOk.l0]
    rw [if_pos (by omega), if_pos (by omega), wr1w i (by omega), ih k (i + 1) (by omega) (by omega)]
    rw [lets_succ]
    unfold letB
    by_cases c1 : bt s (i : Int) < 97
    · rw [if_pos c1, decide_eq_false (by omega)]; rfl
    · rw [if_neg c1, decide_eq_true (show 97 ≤ bt s (i : Int) by omega)]
      by_cases c2 : bt s (i : Int) > 122
      · rw [if_pos c2, decide_eq_false (by omega)]; rfl
      · rw [if_neg c2, decide_eq_true (show bt s (i : Int) ≤ 122 by omega)]; rfl
theorem wordOk_eq (s : ByteArray) (hs : s.size ≤ 1048576) (k : Nat) (hk : s.size + 1 < k) : spec_WordOk.f k s = some (wordB s) := by
  obtain ⟨k, rfl⟩ : ∃ m, k = m + 1 := ⟨k - 1, by omega⟩
  unfold spec_WordOk.f wordB
  by_cases c1 : (s.size : Int) < 1
  · rw [if_pos c1, decide_eq_false (by omega)]
    simp [spec_WordOk.j0]
  · rw [if_neg c1, decide_eq_true (show 1 ≤ s.size by omega)]
    by_cases c2 : (s.size : Int) > 32
    · rw [decide_eq_true c2, decide_eq_false (show ¬ s.size ≤ 32 by omega)]
      simp [spec_WordOk.j0]
    · rw [decide_eq_false c2, decide_eq_true (show s.size ≤ 32 by omega)]
      simp only [spec_WordOk.j0]
      have := wordOk_l0 s hs s.size k 0 (by omega) (by omega)
      rw [show ((0 : Nat) : Int) = 0 from rfl] at this
      rw [if_neg (by decide), this]; rfl
theorem within_eq (a b c : Int) : impl_within.f a b c = some (decide (b ≤ a) && decide (a ≤ c)) := by
  unfold impl_within.f
  by_cases c1 : a ≥ b
  · rw [if_pos c1, decide_eq_true (show b ≤ a from c1)]; rfl
  · rw [if_neg c1, decide_eq_false (show ¬ b ≤ a from c1)]; rfl
theorem isWord_l0 (s : ByteArray) (hs : s.size ≤ 1048576) : ∀ (d k i : Nat), s.size = i + d → d < k → impl_isWord.l0 k s (s.size : Int) (i : Int) = some (lets s d i && (decide (1 ≤ s.size) && decide (s.size ≤ 32))) := by
  intro d
  induction d with
  | zero =>
    intro k i hi hk
    obtain ⟨k, rfl⟩ : ∃ m, k = m + 1 := ⟨k - 1, by omega⟩
    simp only [impl_isWord.l0]
    rw [if_neg (by omega), within_eq]
    simp only [Option.bind_some, lets, Bool.true_and]
    congr 2
    · exact decide_eq_decide.2 (by omega)
    · exact decide_eq_decide.2 (by omega)
  | succ d ih =>
    intro k i hi hk
    obtain ⟨k, rfl⟩ : ∃ m, k = m + 1 := ⟨k - 1, by omega⟩
    simp only [impl_isWord.l0]
    rw [if_pos (by omega), if_pos (by omega), if_pos (by omega), wr1w i (by omega), ih k (i + 1) (by omega) (by omega)]
    rw [lets_succ]
    unfold letB
    by_cases c1 : bt s (i : Int) < 97
    · rw [if_pos c1, decide_eq_false (by omega)]; rfl
    · rw [if_neg c1, decide_eq_true (show 97 ≤ bt s (i : Int) by omega)]
      by_cases c2 : bt s (i : Int) > 122
      · rw [if_pos c2, decide_eq_false (by omega)]; rfl
      · rw [if_neg c2, decide_eq_true (show bt s (i : Int) ≤ 122 by omega)]; rfl
theorem isWord_eq (s : ByteArray) (hs : s.size ≤ 1048576) (k : Nat) (hk : s.size < k) : impl_isWord.f k s = some (wordB s) := by
  unfold impl_isWord.f wordB
  have := isWord_l0 s hs s.size k 0 (by omega) hk
  rw [show ((0 : Nat) : Int) = 0 from rfl] at this
  rw [this]
  congr 1
  cases lets s s.size 0 <;> cases decide (1 ≤ s.size) <;> cases decide (s.size ≤ 32) <;> rfl
def zeroB (a : Bool) (d w : Int) (s : ByteArray) : Bool := !a && (d == 0 && (w == 0 && (s.toList == ([] : List UInt8))))
def recB (a : Bool) (d w : Int) (s : ByteArray) : Bool := zeroB a d w s || (a && ((decide (0 ≤ d) && decide (d ≤ 7)) && ((decide (0 ≤ w) && decide (w ≤ 65535)) && wordB s)))
theorem recOk_eq (a : Bool) (d w : Int) (s : ByteArray) (hs : s.size ≤ 1048576) (k : Nat) (hk : s.size + 1 < k) : spec_RecOk.f k a d w s = some (recB a d w s) := by
  unfold spec_RecOk.f spec_l09Empty.f recB
  simp only [Option.bind_some]
  rw [show (!a && (d == 0 && (w == 0 && (s.toList == ([] : List UInt8))))) = zeroB a d w s from rfl]
  cases zeroB a d w s with
  | true => rfl
  | false =>
    rw [if_neg (by decide)]
    cases a with
    | false => rfl
    | true =>
      rw [if_pos rfl]
      by_cases c1 : d ≥ 0
      · rw [if_pos c1, decide_eq_true (show 0 ≤ d from c1)]
        by_cases c2 : d ≤ 7
        · rw [if_pos c2, decide_eq_true c2]
          by_cases c3 : w ≥ 0
          · rw [if_pos c3, decide_eq_true (show 0 ≤ w from c3)]
            by_cases c4 : w ≤ 65535
            · rw [if_pos c4, decide_eq_true c4, wordOk_eq s hs k hk]; rfl
            · rw [if_neg c4, decide_eq_false c4]; rfl
          · rw [if_neg c3, decide_eq_false (show ¬ 0 ≤ w from c3)]; rfl
        · rw [if_neg c2, decide_eq_false c2]; rfl
      · rw [if_neg c1, decide_eq_false (show ¬ 0 ≤ d from c1)]; rfl
theorem isRec_eq (a : Bool) (d w : Int) (s : ByteArray) (hs : s.size ≤ 1048576) (k : Nat) (hk : s.size < k) : impl_isRec.f k a d w s = some (recB a d w s) := by
  unfold impl_isRec.f recB
  rw [show (!a && (d == 0 && (w == 0 && (s.toList == ([] : List UInt8))))) = zeroB a d w s from rfl]
  cases zeroB a d w s with
  | true => rfl
  | false =>
    rw [if_neg (by decide)]
    cases a with
    | false => rfl
    | true =>
      rw [if_pos rfl, within_eq, within_eq]
      simp only [Option.bind_some]
      cases (decide (0 ≤ d) && decide (d ≤ 7)) with
      | false => rfl
      | true =>
        rw [if_pos rfl]
        cases (decide (0 ≤ w) && decide (w ≤ 65535)) with
        | false => rfl
        | true =>
          rw [if_pos rfl, isWord_eq s hs k hk]; rfl
theorem sz_rec (a : Bool) (d w : Int) (s : ByteArray) (h : s.size ≤ maxLen) (left : Int) (h0 : 0 ≤ left) (h1 : left ≤ 1048576) : laws_szRec.f a d w s left = some (if left < (s.size : Int) then -1 else left - (s.size : Int)) := by
  unfold maxLen at h
  unfold laws_szRec.f
  rw [show wrap64 (left - (s.size : Int)) = left - (s.size : Int) from by unfold wrap64; omega]
  by_cases c : left < (s.size : Int)
  · rw [if_pos c, if_pos (by omega)]
  · rw [if_neg c, if_neg (by omega)]
theorem FnExactRecOk (x0 : S23) (w0 : ok23 x0) : ∃ k, laws_FnExactRecOk.f k x0.f0 x0.f1 x0.f2 x0.f3 = some true := by
  obtain ⟨a, d, w, s⟩ := x0
  obtain ⟨_, _, _, hl⟩ := w0
  simp only at hl ⊢
  refine ⟨s.size + 20, ?_⟩
  unfold laws_FnExactRecOk.f laws_toRec.f impl_RecOk.f
  rw [sz_rec a d w s hl 1048576 (by omega) (by omega)]
  simp only [Option.bind_some]
  by_cases c : (1048576 : Int) < (s.size : Int)
  · rw [if_pos c, if_pos (by omega)]
  · rw [if_neg c, if_neg (by omega), recOk_eq a d w s (by omega) _ (by omega), isRec_eq a d w s (by omega) _ (by omega)]
    simp

end Go.Proofs.Ytmhikpfaoacgpaa.Pure

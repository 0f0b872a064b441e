/- For every record, the program's RecOf returns the bytes that the reference's RecOf returns; conditions: none. -/
import Derived.Test.YtmhikpfaoacgpaaOpenFnExactRecOf
namespace Go.Proofs.Ytmhikpfaoacgpaa.Pure
open Go.RowKit Go.Proofs.Ytmhikpfaoacgpaa.OpenFnExactRecOf Go.Proofs.Ytmhikpfaoacgpaa.RowOpen Go.Proofs.Ytmhikpfaoacgpaa.PFnExactRecOf Go.Proofs.YtmhikpfaoacgpaaW.PrintWords Go.Proofs.YtmhikpfaoacgpaaW.PrintLast Go.Proofs.YtmhikpfaoacgpaaW.PrintMore
set_option linter.unusedVariables false
set_option linter.unusedSimpArgs false

def letB (c : Int) : Bool := decide (97 ≤ c) && decide (c ≤ 122)
/-- Are the d bytes from i on letters? -/
def lets (s : ByteArray) : Nat → Nat → Bool
  | 0, _ => true
  | d + 1, i => letB (bt s (i : Int)) && lets s d (i + 1)
theorem lets_succ (s : ByteArray) (d i : Nat) : lets s (d + 1) i = (letB (bt s (i : Int)) && lets s d (i + 1)) := rfl
def wordB (s : ByteArray) : Bool := decide (1 ≤ s.size) && (decide (s.size ≤ 32) && lets s s.size 0)
theorem wr1w (i : Nat) (h : i ≤ 1048576) : wrap64 ((i : Int) + 1) = ((i + 1 : Nat) : Int) := by unfold wrap64; omega
theorem wordOk_l0 (s : ByteArray) (hs : s.size ≤ 1048576) : ∀ (d k i : Nat), s.size = i + d → d < k → spec_WordOk.l0 k s (i : Int) = some (lets s d i) := by
  intro d
  induction d with
  | zero =>
    intro k i hi hk
    obtain ⟨k, rfl⟩ : ∃ m, k = m + 1 := ⟨k - 1, by omega⟩
    simp only [spec_WordOk.l0]
    rw [if_neg (by omega)]; rfl
  | succ d ih =>
    intro k i hi hk
    obtain ⟨k, rfl⟩ : ∃ m, k = m + 1 := ⟨k - 1, by omega⟩
    simp only [spec_WordOk.l0]
    rw [if_pos (by omega), if_pos (by omega), wr1w i (by omega), ih k (i + 1) (by omega) (by omega)]
    rw [lets_succ]
    unfold letB
    by_cases c1 : bt s (i : Int) < 97
    · rw [if_pos c1, decide_eq_false (by omega)]; rfl
    · rw [if_neg c1, decide_eq_true (show 97 ≤ bt s (i : Int) by omega)]
      by_cases c2 : bt s (i : Int) > 122
      · rw [if_pos c2, decide_eq_false (by omega)]; rfl
      · rw [if_neg c2, decide_eq_true (show bt s (i : Int) ≤ 122 by omega)]; rfl
theorem wordOk_eq (s : ByteArray) (hs : s.size ≤ 1048576) (k : Nat) (hk : s.size + 1 < k) : spec_WordOk.f k s = some (wordB s) := by
  obtain ⟨k, rfl⟩ : ∃ m, k = m + 1 := ⟨k - 1, by omega⟩
  unfold spec_WordOk.f wordB
  by_cases c1 : (s.size : Int) < 1
  · rw [if_pos c1, decide_eq_false (by omega)]
    simp [spec_WordOk.j0]
  · rw [if_neg c1, decide_eq_true (show 1 ≤ s.size by omega)]
    by_cases c2 : (s.size : Int) > 32
    · rw [decide_eq_true c2, decide_eq_false (show ¬ s.size ≤ 32 by omega)]
      simp [spec_WordOk.j0]
    · rw [decide_eq_false c2, decide_eq_true (show s.size ≤ 32 by omega)]
      simp only [spec_WordOk.j0]
      have := wordOk_l0 s hs s.size k 0 (by omega) (by omega)
      rw [show ((0 : Nat) : Int) = 0 from rfl] at this
      rw [if_neg (by decide), this]; rfl
theorem within_eq (a b c : Int) : impl_within.f a b c = some (decide (b ≤ a) && decide (a ≤ c)) := by
  unfold impl_within.f
  by_cases c1 : a ≥ b
  · rw [if_pos c1, decide_eq_true (show b ≤ a from c1)]; rfl
  · rw [if_neg c1, decide_eq_false (show ¬ b ≤ a from c1)]; rfl
theorem isWord_l0 (s : ByteArray) (hs : s.size ≤ 1048576) : ∀ (d k i : Nat), s.size = i + d → d < k → impl_isWord.l0 k s (s.size : Int) (i : Int) = some (lets s d i && (decide (1 ≤ s.size) && decide (s.size ≤ 32))) := by
  intro d
  induction d with
  | zero =>
    intro k i hi hk
    obtain ⟨k, rfl⟩ : ∃ m, k = m + 1 := ⟨k - 1, by omega⟩
    simp only [impl_isWord.l0]
    rw [if_neg (by omega), within_eq]
    simp only [Option.bind_some, lets, Bool.true_and]
    congr 2
    · exact decide_eq_decide.2 (by omega)
    · exact decide_eq_decide.2 (by omega)
  | succ d ih =>
    intro k i hi hk
    obtain ⟨k, rfl⟩ : ∃ m, k = m + 1 := ⟨k - 1, by omega⟩
    simp only [impl_isWord.l0]
    rw [if_pos (by omega), if_pos (by omega), if_pos (by omega), wr1w i (by omega), ih k (i + 1) (by omega) (by omega)]
    rw [lets_succ]
    unfold letB
    by_cases c1 : bt s (i : Int) < 97
    · rw [if_pos c1, decide_eq_false (by omega)]; rfl
    · rw [if_neg c1, decide_eq_true (show 97 ≤ bt s (i : Int) by omega)]
      by_cases c2 : bt s (i : Int) > 122
      · rw [if_pos c2, decide_eq_false (by omega)]; rfl
      · rw [if_neg c2, decide_eq_true (show bt s (i : Int) ≤ 122 by omega)]; rfl
theorem isWord_eq (s : ByteArray) (hs : s.size ≤ 1048576) (k : Nat) (hk : s.size < k) : impl_isWord.f k s = some (wordB s) := by
  unfold impl_isWord.f wordB
  have := isWord_l0 s hs s.size k 0 (by omega) hk
  rw [show ((0 : Nat) : Int) = 0 from rfl] at this
  rw [this]
  congr 1
  cases lets s s.size 0 <;> cases decide (1 ≤ s.size) <;> cases decide (s.size ≤ 32) <;> rfl
def zeroB (a : Bool) (d w : Int) (s : ByteArray) : Bool := !a && (d == 0 && (w == 0 && (s.toList == ([] : List UInt8))))
def recB (a : Bool) (d w : Int) (s : ByteArray) : Bool := zeroB a d w s || (a && ((decide (0 ≤ d) && decide (d ≤ 7)) && ((decide (0 ≤ w) && decide (w ≤ 65535)) && wordB s)))
theorem recOk_eq (a : Bool) (d w : Int) (s : ByteArray) (hs : s.size ≤ 1048576) (k : Nat) (hk : s.size + 1 < k) : spec_RecOk.f k a d w s = some (recB a d w s) := by
  unfold spec_RecOk.f spec_l09Empty.f recB
  simp only [Option.bind_some]
  rw [show (!a && (d == 0 && (w == 0 && (s.toList == ([] : List UInt8))))) = zeroB a d w s from rfl]
  cases zeroB a d w s with
  | true => rfl
  | false =>
    rw [if_neg (by decide)]
    cases a with
    | false => rfl
    | true =>
      rw [if_pos rfl]
      by_cases c1 : d ≥ 0
      · rw [if_pos c1, decide_eq_true (show 0 ≤ d from c1)]
        by_cases c2 : d ≤ 7
        · rw [if_pos c2, decide_eq_true c2]
          by_cases c3 : w ≥ 0
          · rw [if_pos c3, decide_eq_true (show 0 ≤ w from c3)]
            by_cases c4 : w ≤ 65535
            · rw [if_pos c4, decide_eq_true c4, wordOk_eq s hs k hk]; rfl
            · rw [if_neg c4, decide_eq_false c4]; rfl
          · rw [if_neg c3, decide_eq_false (show ¬ 0 ≤ w from c3)]; rfl
        · rw [if_neg c2, decide_eq_false c2]; rfl
      · rw [if_neg c1, decide_eq_false (show ¬ 0 ≤ d from c1)]; rfl
theorem isRec_eq (a : Bool) (d w : Int) (s : ByteArray) (hs : s.size ≤ 1048576) (k : Nat) (hk : s.size < k) : impl_isRec.f k a d w s = some (recB a d w s) := by
  unfold impl_isRec.f recB
  rw [show (!a && (d == 0 && (w == 0 && (s.toList == ([] : List UInt8))))) = zeroB a d w s from rfl]
  cases zeroB a d w s with
  | true => rfl
  | false =>
    rw [if_neg (by decide)]
    cases a with
    | false => rfl
    | true =>
      rw [if_pos rfl, within_eq, within_eq]
      simp only [Option.bind_some]
      cases (decide (0 ≤ d) && decide (d ≤ 7)) with
      | false => rfl
      | true =>
        rw [if_pos rfl]
        cases (decide (0 ≤ w) && decide (w ≤ 65535)) with
        | false => rfl
        | true =>
          rw [if_pos rfl, isWord_eq s hs k hk]; rfl
theorem sz_rec (a : Bool) (d w : Int) (s : ByteArray) (h : s.size ≤ maxLen) (left : Int) (h0 : 0 ≤ left) (h1 : left ≤ 1048576) : laws_szRec.f a d w s left = some (if left < (s.size : Int) then -1 else left - (s.size : Int)) := by
  unfold maxLen at h
  unfold laws_szRec.f
  rw [show wrap64 (left - (s.size : Int)) = left - (s.size : Int) from by unfold wrap64; omega]
  by_cases c : left < (s.size : Int)
  · rw [if_pos c, if_pos (by omega)]
  · rw [if_neg c, if_neg (by omega)]
theorem eqByteS_l0 (a : List Int) (ha : a.length ≤ 1048576) : ∀ (d k i : Nat), i ≤ a.length → a.length - i = d → d < k → laws_eqByteS.l0 k a a (i : Int) = some true := by
  intro d
  induction d with
  | zero =>
    intro k i hi hd hk
    obtain ⟨k, rfl⟩ : ∃ m, k = m + 1 := ⟨k - 1, by omega⟩
    simp only [laws_eqByteS.l0]
    rw [if_neg (by omega)]
  | succ d ih =>
    intro k i hi hd hk
    obtain ⟨k, rfl⟩ : ∃ m, k = m + 1 := ⟨k - 1, by omega⟩
    simp only [laws_eqByteS.l0]
    rw [if_pos (by omega), if_pos (by omega), if_pos (by omega), if_pos trivial, show wrap64 ((i : Int) + 1) = ((i + 1 : Nat) : Int) from by unfold wrap64; omega]
    exact ih k (i + 1) (by omega) (by omega) (by omega)
theorem eqByteS_eq (a : List Int) (ha : a.length ≤ 1048576) (k : Nat) (hk : a.length < k) : laws_eqByteS.f k a a = some true := by
  unfold laws_eqByteS.f
  rw [if_pos rfl]
  exact eqByteS_l0 a ha a.length k 0 (by omega) (by omega) hk
def mkB (a : Int) (n : Nat) : List Int := (List.range n).map fun (i : Nat) => (a + (i : Int)) % 256
theorem mkB_length (a : Int) (n : Nat) : (mkB a n).length = n := by simp [mkB]
theorem mkB_step (a : Int) (x : List Int) (n i : Nat) (hi : i < n) (hx : x.length = n) (h : x.take i = (mkB a n).take i) : (x.set i ((a + (i : Int)) % 256)).take (i + 1) = (mkB a n).take (i + 1) := by
  rw [List.take_add_one, List.take_add_one, List.take_set_of_le (Nat.le_refl _), h]
  simp [hi, hx, mkB]
theorem markB_l0 (a : Int) (n : Nat) (hn : n ≤ 1048576) (ha0 : 0 ≤ a) (ha : a ≤ 4194304) : ∀ (d k i : Nat) (x : List Int), x.length = n → i ≤ n → n - i = d → d < k → x.take i = (mkB a n).take i →
    laws_markByteS.l0 k x (a + (i : Int)) (i : Int) = some (a + (n : Int), mkB a n) := by
  intro d
  induction d with
  | zero =>
    intro k i x hx hi hd hk h
    obtain ⟨k, rfl⟩ : ∃ m, k = m + 1 := ⟨k - 1, by omega⟩
    simp only [laws_markByteS.l0]
    rw [if_neg (by omega)]
    rw [List.take_of_length_le (by omega), List.take_of_length_le (by rw [mkB_length]; omega)] at h
    rw [h, show i = n by omega]
  | succ d ih =>
    intro k i x hx hi hd hk h
    obtain ⟨k, rfl⟩ : ∃ m, k = m + 1 := ⟨k - 1, by omega⟩
    simp only [laws_markByteS.l0]
    rw [if_pos (by omega), if_pos (by omega), show wrap64 (a + (i : Int) + 1) = a + ((i + 1 : Nat) : Int) from by unfold wrap64; omega, show wrap64 ((i : Int) + 1) = ((i + 1 : Nat) : Int) from by unfold wrap64; omega, Int.toNat_natCast]
    exact ih k (i + 1) _ (by simp [hx]) (by omega) (by omega) (by omega) (mkB_step a x n i (by omega) hx h)
theorem markB_eq (a : Int) (l : List Int) (hl : l.length ≤ 1048576) (ha0 : 0 ≤ a) (ha : a ≤ 4194304) (k : Nat) (hk : l.length < k) : laws_markByteS.f k l a = some (a + (l.length : Int), mkB a l.length) := by
  unfold laws_markByteS.f
  have := markB_l0 a l.length hl ha0 ha l.length k 0 l rfl (by omega) (by omega) hk rfl
  simpa using this
theorem heldB_l0 (n : Nat) (hn : n ≤ 1048576) : ∀ (d k i : Nat), i ≤ n → n - i = d → d < k → laws_heldByteS.l0 k (mkB 1 n) (1 + (i : Int)) (i : Int) = some (1 + (n : Int)) := by
  intro d
  induction d with
  | zero =>
    intro k i hi hd hk
    obtain ⟨k, rfl⟩ : ∃ m, k = m + 1 := ⟨k - 1, by omega⟩
    simp only [laws_heldByteS.l0]
    rw [if_neg (by rw [mkB_length]; omega), show i = n by omega]
  | succ d ih =>
    intro k i hi hd hk
    obtain ⟨k, rfl⟩ : ∃ m, k = m + 1 := ⟨k - 1, by omega⟩
    simp only [laws_heldByteS.l0]
    have e : rd (mkB 1 n) (i : Int) = (1 + (i : Int)) % 256 := by
      have : i < n := by omega
      simp [rd, mkB, this]
    rw [if_pos (by rw [mkB_length]; omega), if_pos (by omega), if_pos e, show wrap64 (1 + (i : Int) + 1) = 1 + ((i + 1 : Nat) : Int) from by unfold wrap64; omega, show wrap64 ((i : Int) + 1) = ((i + 1 : Nat) : Int) from by unfold wrap64; omega]
    exact ih k (i + 1) (by omega) (by omega) (by omega)
theorem heldB_eq (n : Nat) (hn : n ≤ 1048576) (k : Nat) (hk : n < k) : laws_heldByteS.f k (mkB 1 n) 1 = some (1 + (n : Int)) := by
  unfold laws_heldByteS.f
  have := heldB_l0 n hn n k 0 (by omega) (by omega) hk
  simpa using this
theorem wordB_size {s : ByteArray} (h : wordB s = true) : 1 ≤ s.size ∧ s.size ≤ 32 := by
  simp only [wordB, Bool.and_eq_true, decide_eq_true_eq] at h
  exact ⟨h.1, h.2.1⟩
def padW (s : ByteArray) : List Int := if wordB s = true then padL s else List.replicate 33 0
theorem padW_length (s : ByteArray) : (padW s).length = 33 := by
  unfold padW
  cases h : wordB s with
  | true =>
    have := wordB_size h
    simp [padL, bytesOf_length]; omega
  | false => rfl
theorem implPad_eq (s : ByteArray) (hs : s.size ≤ 1048576) : impl_pad.f s = some (padW s) := by
  unfold impl_pad.f padW
  rw [isWord_eq s hs _ (by omega)]
  simp only [Option.bind_some]
  cases h : wordB s with
  | true => rw [if_pos rfl, if_pos (wordB_size h).2, if_pos rfl]
  | false => rfl
theorem drop_bytes (s : ByteArray) (i : Nat) (h : i < s.size) : (bytesOf s).drop i = bt s (i : Int) :: (bytesOf s).drop (i + 1) := by
  rw [List.drop_eq_getElem_cons (by rw [bytesOf_length]; exact h), ← rd_bytesOf]
  congr 1
  have : i < (bytesOf s).length := by rw [bytesOf_length]; exact h
  simp [rd, this]
theorem specPad_l0 (s : ByteArray) (hs : s.size ≤ 32) : ∀ (d k i : Nat) (x : List Int), s.size = i + d → d < k → x.length = 33 →
    spec_Pad.l0 k s x (i : Int) = some (x.take (i + 1) ++ ((bytesOf s).drop i ++ x.drop (s.size + 1))) := by
  intro d
  induction d with
  | zero =>
    intro k i x hi hk hx
    obtain ⟨k, rfl⟩ : ∃ m, k = m + 1 := ⟨k - 1, by omega⟩
    simp only [spec_Pad.l0]
    rw [if_neg (by omega), List.drop_eq_nil_of_le (by rw [bytesOf_length]; omega), List.nil_append, show s.size + 1 = i + 1 by omega, List.take_append_drop]
  | succ d ih =>
    intro k i x hi hk hx
    obtain ⟨k, rfl⟩ : ∃ m, k = m + 1 := ⟨k - 1, by omega⟩
    simp only [spec_Pad.l0]
    rw [if_pos (by omega), if_pos (by omega), wr1w i (by omega), if_pos (by omega), if_pos (by omega), Int.toNat_natCast, ih k (i + 1) _ (by omega) (by omega) (by simp [hx]), drop_bytes s i (by omega)]
    have e1 : (x.set (i + 1) (bt s (i : Int))).take (i + 1 + 1) = x.take (i + 1) ++ [bt s (i : Int)] := by
      rw [List.take_add_one, List.take_set_of_le (Nat.le_refl _)]
      have : i + 1 < x.length := by omega
      simp [this]
    have e2 : (x.set (i + 1) (bt s (i : Int))).drop (s.size + 1) = x.drop (s.size + 1) := List.drop_set_of_lt (by omega)
    rw [e1, e2]
    simp
theorem specPad_eq (s : ByteArray) (hs : s.size ≤ 1048576) (k : Nat) (hk : s.size + 1 < k) : spec_Pad.f k s = some (padW s) := by
  unfold spec_Pad.f padW
  rw [if_pos (by omega)]
  simp only [Option.bind_some]
  rw [wordOk_eq s hs k hk]
  simp only [Option.bind_some]
  cases h : wordB s with
  | false => rfl
  | true =>
    have hz := wordB_size h
    rw [if_pos rfl, if_pos (by simp), if_pos rfl]
    have := specPad_l0 s hz.2 s.size k 0 ((List.replicate 33 0).set (0 : Int).toNat (((s.size : Int)) % 256)) (by omega) (by omega) (by simp)
    rw [show ((0 : Nat) : Int) = 0 from rfl] at this
    rw [this]
    congr 1
    have e0 : (s.size : Int) % 256 = (s.size : Int) := by omega
    rw [e0]
    have e1 : ((List.replicate 33 (0 : Int)).set (0 : Int).toNat (s.size : Int)) = (s.size : Int) :: List.replicate 32 0 := rfl
    rw [e1]
    show List.take 1 ((s.size : Int) :: List.replicate 32 0) ++ (bytesOf s ++ List.drop (s.size + 1) ((s.size : Int) :: List.replicate 32 0)) = padL s
    rw [List.drop_succ_cons, List.drop_replicate]; rfl
/-- The bytes of a record. -/
def recL (a : Bool) (d w : Int) (s : ByteArray) : List Int := [if a = true then 1 else 0, d % 256, w / 256 % 256, w % 256] ++ padW s
theorem recL_length (a : Bool) (d w : Int) (s : ByteArray) : (recL a d w s).length = 37 := by simp [recL, padW_length]
theorem implRec_eq (a : Bool) (d w : Int) (s : ByteArray) (hs : s.size ≤ 1048576) : impl_recOf.f a d w s = some (recL a d w s) := by
  unfold impl_recOf.f recL
  have hp := padW_length s
  rw [implPad_eq s hs]
  simp only [Option.bind_some]
  cases a with
  | true => rw [if_pos rfl, if_pos (by simp [hp])]; rfl
  | false => rw [if_neg (by decide), if_pos (by simp [hp])]; rfl
theorem recB_range {a : Bool} {d w : Int} {s : ByteArray} (h : recB a d w s = true) : 0 ≤ d ∧ d ≤ 7 ∧ 0 ≤ w ∧ w ≤ 65535 := by
  simp only [recB, zeroB, Bool.or_eq_true, Bool.and_eq_true, beq_iff_eq, decide_eq_true_eq] at h
  rcases h with h | h
  · obtain ⟨_, h1, h2, _⟩ := h; omega
  · obtain ⟨_, h1, h2, _⟩ := h; omega
theorem specRec_eq (a : Bool) (d w : Int) (s : ByteArray) (hs : s.size ≤ 1048576) (k : Nat) (hk : s.size + 1 < k) : spec_RecOf.f k a d w s = some (if recB a d w s = true then recL a d w s else []) := by
  unfold spec_RecOf.f
  rw [recOk_eq a d w s hs k hk]
  simp only [Option.bind_some]
  cases h : recB a d w s with
  | false => rfl
  | true =>
    have hr := recB_range h
    have hp := padW_length s
    rw [if_pos rfl, if_pos rfl]
    unfold spec_l09Two.f recL
    rw [specPad_eq s hs k hk]
    simp only [Option.bind_some]
    have e1 : wrap64 (Int.tdiv w 256) % 256 = w / 256 % 256 := by
      rw [Int.tdiv_eq_ediv_of_nonneg hr.2.2.1]; unfold wrap64; omega
    have e2 : Int.tmod w 256 % 256 = w % 256 := by
      rw [Int.tmod_eq_emod_of_nonneg hr.2.2.1]; omega
    rw [e1, e2]
    cases a with
    | true => rw [if_pos rfl, if_pos (by simp), if_pos (by simp), if_pos (by simp [hp])]; rfl
    | false => rw [if_neg (by decide), if_pos (by simp), if_pos (by simp [hp])]; rfl
theorem implRecOf_eq (a : Bool) (d w : Int) (s : ByteArray) (hs : s.size ≤ 1048576) (k : Nat) (hk : s.size < k) : impl_RecOf.f k a d w s = some (if recB a d w s = true then recL a d w s else []) := by
  unfold impl_RecOf.f
  rw [isRec_eq a d w s hs k hk, implRec_eq a d w s hs]
  cases recB a d w s <;> rfl
theorem FnExactRecOf (x0 : S23) (w0 : ok23 x0) : ∃ k, laws_FnExactRecOf.f k x0.f0 x0.f1 x0.f2 x0.f3 = some true := by
  obtain ⟨a, d, w, s⟩ := x0
  obtain ⟨_, _, _, hl⟩ := w0
  simp only at hl ⊢
  refine ⟨s.size + 100, ?_⟩
  unfold laws_FnExactRecOf.f laws_toRec.f
  rw [sz_rec a d w s hl 1048576 (by omega) (by omega)]
  simp only [Option.bind_some]
  by_cases c : (1048576 : Int) < (s.size : Int)
  · rw [if_pos c, if_pos (by omega)]
  · rw [if_neg c, if_neg (by omega), specRec_eq a d w s (by omega) _ (by omega), implRecOf_eq a d w s (by omega) _ (by omega)]
    simp only [Option.bind_some]
    generalize hg : (if recB a d w s = true then recL a d w s else []) = l
    have hL : l.length ≤ 37 := by
      subst hg
      cases recB a d w s with
      | true => rw [if_pos rfl, recL_length]; exact Nat.le_refl _
      | false => exact Nat.zero_le _
    rw [eqByteS_eq l (by omega) _ (by omega)]
    simp only [Option.bind_some, if_true]
    rw [markB_eq 1 l (by omega) (by omega) (by omega) _ (by omega)]
    simp only [Option.bind_some]
    rw [heldB_eq _ (by omega) _ (by omega)]
    simp only [Option.bind_some]
    rw [if_neg (by omega), if_pos trivial]
    rw [if_neg (by omega), if_pos trivial]

end Go.Proofs.Ytmhikpfaoacgpaa.Pure

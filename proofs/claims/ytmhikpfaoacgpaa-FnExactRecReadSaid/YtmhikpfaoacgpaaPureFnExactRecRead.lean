/- For every sequence of bytes, the program's RecRead returns the record and the flag that the reference's RecRead returns; conditions: none. -/
import Derived.Test.YtmhikpfaoacgpaaPFnExactRecReadx10
import Derived.Lib.Strings
namespace Go.Proofs.Ytmhikpfaoacgpaa.Pure
open Go.RowKit Go.Proofs.Ytmhikpfaoacgpaa.PFnExactRecRead Go.Proofs.YtmhikpfaoacgpaaW.PrintWords Go.Proofs.YtmhikpfaoacgpaaW.PrintLast Go.Proofs.YtmhikpfaoacgpaaW.PrintMore
set_option linter.unusedVariables false
set_option linter.unusedSimpArgs false

def letB (c : Int) : Bool := decide (97 ≤ c) && decide (c ≤ 122)
/-- Are the d bytes from i on letters? -/
def lets (s : ByteArray) : Nat → Nat → Bool
  | 0, _ => true
  | d + 1, i => letB (bt s (i : Int)) && lets s d (i + 1)
theorem lets_succ (s : ByteArray) (d i : Nat) : lets s (d + 1) i = (letB (bt s (i : Int)) && lets s d (i + 1)) := rfl
def wordB (s : ByteArray) : Bool := decide (1 ≤ s.size) && (decide (s.size ≤ 32) && lets s s.size 0)
theorem wr1w (i : Nat) (h : i ≤ 1048576) : wrap64 ((i : Int) + 1) = ((i + 1 : Nat) : Int) := by unfold wrap64; omega
theorem wordOk_l0 (s : ByteArray) (hs : s.size ≤ 1048576) : ∀ (d k i : Nat), s.size = i + d → d < k → spec_WordOk.l0 k s (i : Int) = some (lets s d i) := by
  intro d
  induction d with
  | zero =>
    intro k i hi hk
    obtain ⟨k, rfl⟩ : ∃ m, k = m + 1 := ⟨k - 1, by omega⟩
    simp only [spec_WordOk.l0]
    rw [if_neg (by omega)]; rfl
  | succ d ih =>
    intro k i hi hk
    obtain ⟨k, rfl⟩ : ∃ m, k = m + 1 := ⟨k - 1, by omega⟩
    simp only [spec_WordOk.l0]
    rw [if_pos (by omega), if_pos (by omega), wr1w i (by omega), ih k (i + 1) (by omega) (by omega)]
    rw [lets_succ]
    unfold letB
    by_cases c1 : bt s (i : Int) < 97
    · rw [if_pos c1, decide_eq_false (by omega)]; rfl
    · rw [if_neg c1, decide_eq_true (show 97 ≤ bt s (i : Int) by omega)]
      by_cases c2 : bt s (i : Int) > 122
      · rw [if_pos c2, decide_eq_false (by omega)]; rfl
      · rw [if_neg c2, decide_eq_true (show bt s (i : Int) ≤ 122 by omega)]; rfl
theorem wordOk_eq (s : ByteArray) (hs : s.size ≤ 1048576) (k : Nat) (hk : s.size + 1 < k) : spec_WordOk.f k s = some (wordB s) := by
  obtain ⟨k, rfl⟩ : ∃ m, k = m + 1 := ⟨k - 1, by omega⟩
  unfold spec_WordOk.f wordB
  by_cases c1 : (s.size : Int) < 1
  · rw [if_pos c1, decide_eq_false (by omega)]
    simp [spec_WordOk.j0]
  · rw [if_neg c1, decide_eq_true (show 1 ≤ s.size by omega)]
    by_cases c2 : (s.size : Int) > 32
    · rw [decide_eq_true c2, decide_eq_false (show ¬ s.size ≤ 32 by omega)]
      simp [spec_WordOk.j0]
    · rw [decide_eq_false c2, decide_eq_true (show s.size ≤ 32 by omega)]
      simp only [spec_WordOk.j0]
      have := wordOk_l0 s hs s.size k 0 (by omega) (by omega)
      rw [show ((0 : Nat) : Int) = 0 from rfl] at this
      rw [if_neg (by decide), this]; rfl
theorem within_eq (a b c : Int) : impl_within.f a b c = some (decide (b ≤ a) && decide (a ≤ c)) := by
  unfold impl_within.f
  by_cases c1 : a ≥ b
  · rw [if_pos c1, decide_eq_true (show b ≤ a from c1)]; rfl
  · rw [if_neg c1, decide_eq_false (show ¬ b ≤ a from c1)]; rfl
theorem isWord_l0 (s : ByteArray) (hs : s.size ≤ 1048576) : ∀ (d k i : Nat), s.size = i + d → d < k → impl_isWord.l0 k s (s.size : Int) (i : Int) = some (lets s d i && (decide (1 ≤ s.size) && decide (s.size ≤ 32))) := by
  intro d
  induction d with
  | zero =>
    intro k i hi hk
    obtain ⟨k, rfl⟩ : ∃ m, k = m + 1 := ⟨k - 1, by omega⟩
    simp only [impl_isWord.l0]
    rw [if_neg (by omega), within_eq]
    simp only [Option.bind_some, lets, Bool.true_and]
    congr 2
    · exact decide_eq_decide.2 (by omega)
    · exact decide_eq_decide.2 (by omega)
  | succ d ih =>
    intro k i hi hk
    obtain ⟨k, rfl⟩ : ∃ m, k = m + 1 := ⟨k - 1, by omega⟩
    simp only [impl_isWord.l0]
    rw [if_pos (by omega), if_pos (by omega), if_pos (by omega), wr1w i (by omega), ih k (i + 1) (by omega) (by omega)]
    rw [lets_succ]
    unfold letB
    by_cases c1 : bt s (i : Int) < 97
    · rw [if_pos c1, decide_eq_false (by omega)]; rfl
    · rw [if_neg c1, decide_eq_true (show 97 ≤ bt s (i : Int) by omega)]
      by_cases c2 : bt s (i : Int) > 122
      · rw [if_pos c2, decide_eq_false (by omega)]; rfl
      · rw [if_neg c2, decide_eq_true (show bt s (i : Int) ≤ 122 by omega)]; rfl
theorem isWord_eq (s : ByteArray) (hs : s.size ≤ 1048576) (k : Nat) (hk : s.size < k) : impl_isWord.f k s = some (wordB s) := by
  unfold impl_isWord.f wordB
  have := isWord_l0 s hs s.size k 0 (by omega) hk
  rw [show ((0 : Nat) : Int) = 0 from rfl] at this
  rw [this]
  congr 1
  cases lets s s.size 0 <;> cases decide (1 ≤ s.size) <;> cases decide (s.size ≤ 32) <;> rfl
def zeroB (a : Bool) (d w : Int) (s : ByteArray) : Bool := !a && (d == 0 && (w == 0 && (s.toList == ([] : List UInt8))))
def recB (a : Bool) (d w : Int) (s : ByteArray) : Bool := zeroB a d w s || (a && ((decide (0 ≤ d) && decide (d ≤ 7)) && ((decide (0 ≤ w) && decide (w ≤ 65535)) && wordB s)))
theorem recOk_eq (a : Bool) (d w : Int) (s : ByteArray) (hs : s.size ≤ 1048576) (k : Nat) (hk : s.size + 1 < k) : spec_RecOk.f k a d w s = some (recB a d w s) := by
  unfold spec_RecOk.f spec_l09Empty.f recB
  simp only [Option.bind_some]
  rw [show (!a && (d == 0 && (w == 0 && (s.toList == ([] : List UInt8))))) = zeroB a d w s from rfl]
  cases zeroB a d w s with
  | true => rfl
  | false =>
    rw [if_neg (by decide)]
    cases a with
    | false => rfl
    | true =>
      rw [if_pos rfl]
      by_cases c1 : d ≥ 0
      · rw [if_pos c1, decide_eq_true (show 0 ≤ d from c1)]
        by_cases c2 : d ≤ 7
        · rw [if_pos c2, decide_eq_true c2]
          by_cases c3 : w ≥ 0
          · rw [if_pos c3, decide_eq_true (show 0 ≤ w from c3)]
            by_cases c4 : w ≤ 65535
            · rw [if_pos c4, decide_eq_true c4, wordOk_eq s hs k hk]; rfl
            · rw [if_neg c4, decide_eq_false c4]; rfl
          · rw [if_neg c3, decide_eq_false (show ¬ 0 ≤ w from c3)]; rfl
        · rw [if_neg c2, decide_eq_false c2]; rfl
      · rw [if_neg c1, decide_eq_false (show ¬ 0 ≤ d from c1)]; rfl
theorem isRec_eq (a : Bool) (d w : Int) (s : ByteArray) (hs : s.size ≤ 1048576) (k : Nat) (hk : s.size < k) : impl_isRec.f k a d w s = some (recB a d w s) := by
  unfold impl_isRec.f recB
  rw [show (!a && (d == 0 && (w == 0 && (s.toList == ([] : List UInt8))))) = zeroB a d w s from rfl]
  cases zeroB a d w s with
  | true => rfl
  | false =>
    rw [if_neg (by decide)]
    cases a with
    | false => rfl
    | true =>
      rw [if_pos rfl, within_eq, within_eq]
      simp only [Option.bind_some]
      cases (decide (0 ≤ d) && decide (d ≤ 7)) with
      | false => rfl
      | true =>
        rw [if_pos rfl]
        cases (decide (0 ≤ w) && decide (w ≤ 65535)) with
        | false => rfl
        | true =>
          rw [if_pos rfl, isWord_eq s hs k hk]; rfl
theorem take_set_ByteS (x l : List Int) (i : Nat) (hi : i < l.length) (hx : x.length = l.length) (h : x.take i = l.take i) : (x.set i (rd l (i : Int))).take (i + 1) = l.take (i + 1) := by
  have hr : rd l (i : Int) = l[i] := by simp [rd, hi]
  rw [hr, List.take_add_one, List.take_add_one, List.take_set_of_le (Nat.le_refl _), h]
  simp [hi, hx]
theorem toByteS_l0 (l : List Int) (hl : l.length ≤ 1048576) : ∀ (d k i : Nat) (x : List Int), x.length = l.length → i ≤ l.length → l.length - i = d → d < k → x.take i = l.take i → laws_toByteS.l0 k l x (i : Int) = some l := by
  intro d
  induction d with
  | zero =>
    intro k i x hx hi hd hk h
    obtain ⟨k, rfl⟩ : ∃ m, k = m + 1 := ⟨k - 1, by omega⟩
    simp only [laws_toByteS.l0]
    rw [if_neg (by omega)]
    rw [List.take_of_length_le (by omega), List.take_of_length_le (by omega)] at h
    rw [h]
  | succ d ih =>
    intro k i x hx hi hd hk h
    obtain ⟨k, rfl⟩ : ∃ m, k = m + 1 := ⟨k - 1, by omega⟩
    simp only [laws_toByteS.l0]
    rw [if_pos (by omega), if_pos (by omega), if_pos (by omega), show wrap64 ((i : Int) + 1) = ((i + 1 : Nat) : Int) from by unfold wrap64; omega, Int.toNat_natCast]
    exact ih k (i + 1) _ (by simp [hx]) (by omega) (by omega) (by omega) (take_set_ByteS x l i (by omega) hx h)
theorem toByteS_eq (l : List Int) (hl : l.length ≤ 1048576) (k : Nat) (hk : l.length < k) : laws_toByteS.f k l = some l := by
  unfold laws_toByteS.f
  rw [if_pos (by omega), if_pos (by omega)]
  exact toByteS_l0 l hl l.length k 0 _ (by simp) (by omega) (by omega) hk rfl
theorem eqByteS_l0 (a : List Int) (ha : a.length ≤ 1048576) : ∀ (d k i : Nat), i ≤ a.length → a.length - i = d → d < k → laws_eqByteS.l0 k a a (i : Int) = some true := by
  intro d
  induction d with
  | zero =>
    intro k i hi hd hk
    obtain ⟨k, rfl⟩ : ∃ m, k = m + 1 := ⟨k - 1, by omega⟩
    simp only [laws_eqByteS.l0]
    rw [if_neg (by omega)]
  | succ d ih =>
    intro k i hi hd hk
    obtain ⟨k, rfl⟩ : ∃ m, k = m + 1 := ⟨k - 1, by omega⟩
    simp only [laws_eqByteS.l0]
    rw [if_pos (by omega), if_pos (by omega), if_pos (by omega), if_pos trivial, show wrap64 ((i : Int) + 1) = ((i + 1 : Nat) : Int) from by unfold wrap64; omega]
    exact ih k (i + 1) (by omega) (by omega) (by omega)
theorem eqByteS_eq (a : List Int) (ha : a.length ≤ 1048576) (k : Nat) (hk : a.length < k) : laws_eqByteS.f k a a = some true := by
  unfold laws_eqByteS.f
  rw [if_pos rfl]
  exact eqByteS_l0 a ha a.length k 0 (by omega) (by omega) hk
theorem wordB_size {s : ByteArray} (h : wordB s = true) : 1 ≤ s.size ∧ s.size ≤ 32 := by
  simp only [wordB, Bool.and_eq_true, decide_eq_true_eq] at h
  exact ⟨h.1, h.2.1⟩
def padW (s : ByteArray) : List Int := if wordB s = true then padL s else List.replicate 33 0
theorem padW_length (s : ByteArray) : (padW s).length = 33 := by
  unfold padW
  cases h : wordB s with
  | true =>
    have := wordB_size h
    simp [padL, bytesOf_length]; omega
  | false => rfl
theorem implPad_eq (s : ByteArray) (hs : s.size ≤ 1048576) : impl_pad.f s = some (padW s) := by
  unfold impl_pad.f padW
  rw [isWord_eq s hs _ (by omega)]
  simp only [Option.bind_some]
  cases h : wordB s with
  | true => rw [if_pos rfl, if_pos (wordB_size h).2, if_pos rfl]
  | false => rfl
theorem drop_bytes (s : ByteArray) (i : Nat) (h : i < s.size) : (bytesOf s).drop i = bt s (i : Int) :: (bytesOf s).drop (i + 1) := by
  rw [List.drop_eq_getElem_cons (by rw [bytesOf_length]; exact h), ← rd_bytesOf]
  congr 1
  have : i < (bytesOf s).length := by rw [bytesOf_length]; exact h
  simp [rd, this]
theorem specPad_l0 (s : ByteArray) (hs : s.size ≤ 32) : ∀ (d k i : Nat) (x : List Int), s.size = i + d → d < k → x.length = 33 →
    spec_Pad.l0 k s x (i : Int) = some (x.take (i + 1) ++ ((bytesOf s).drop i ++ x.drop (s.size + 1))) := by
  intro d
  induction d with
  | zero =>
    intro k i x hi hk hx
    obtain ⟨k, rfl⟩ : ∃ m, k = m + 1 := ⟨k - 1, by omega⟩
    simp only [spec_Pad.l0]
    rw [if_neg (by omega), List.drop_eq_nil_of_le (by rw [bytesOf_length]; omega), List.nil_append, show s.size + 1 = i + 1 by omega, List.take_append_drop]
  | succ d ih =>
    intro k i x hi hk hx
    obtain ⟨k, rfl⟩ : ∃ m, k = m + 1 := ⟨k - 1, by omega⟩
    simp only [spec_Pad.l0]
    rw [if_pos (by omega), if_pos (by omega), wr1w i (by omega), if_pos (by omega), if_pos (by omega), Int.toNat_natCast, ih k (i + 1) _ (by omega) (by omega) (by simp [hx]), drop_bytes s i (by omega)]
    have e1 : (x.set (i + 1) (bt s (i : Int))).take (i + 1 + 1) = x.take (i + 1) ++ [bt s (i : Int)] := by
      rw [List.take_add_one, List.take_set_of_le (Nat.le_refl _)]
      have : i + 1 < x.length := by omega
      simp [this]
    have e2 : (x.set (i + 1) (bt s (i : Int))).drop (s.size + 1) = x.drop (s.size + 1) := List.drop_set_of_lt (by omega)
    rw [e1, e2]
    simp
theorem specPad_eq (s : ByteArray) (hs : s.size ≤ 1048576) (k : Nat) (hk : s.size + 1 < k) : spec_Pad.f k s = some (padW s) := by
  unfold spec_Pad.f padW
  rw [if_pos (by omega)]
  simp only [Option.bind_some]
  rw [wordOk_eq s hs k hk]
  simp only [Option.bind_some]
  cases h : wordB s with
  | false => rfl
  | true =>
    have hz := wordB_size h
    rw [if_pos rfl, if_pos (by simp), if_pos rfl]
    have := specPad_l0 s hz.2 s.size k 0 ((List.replicate 33 0).set (0 : Int).toNat (((s.size : Int)) % 256)) (by omega) (by omega) (by simp)
    rw [show ((0 : Nat) : Int) = 0 from rfl] at this
    rw [this]
    congr 1
    have e0 : (s.size : Int) % 256 = (s.size : Int) := by omega
    rw [e0]
    have e1 : ((List.replicate 33 (0 : Int)).set (0 : Int).toNat (s.size : Int)) = (s.size : Int) :: List.replicate 32 0 := rfl
    rw [e1]
    show List.take 1 ((s.size : Int) :: List.replicate 32 0) ++ (bytesOf s ++ List.drop (s.size + 1) ((s.size : Int) :: List.replicate 32 0)) = padL s
    rw [List.drop_succ_cons, List.drop_replicate]; rfl
/-- The bytes of a record. -/
def recL (a : Bool) (d w : Int) (s : ByteArray) : List Int := [if a = true then 1 else 0, d % 256, w / 256 % 256, w % 256] ++ padW s
theorem recL_length (a : Bool) (d w : Int) (s : ByteArray) : (recL a d w s).length = 37 := by simp [recL, padW_length]
theorem implRec_eq (a : Bool) (d w : Int) (s : ByteArray) (hs : s.size ≤ 1048576) : impl_recOf.f a d w s = some (recL a d w s) := by
  unfold impl_recOf.f recL
  have hp := padW_length s
  rw [implPad_eq s hs]
  simp only [Option.bind_some]
  cases a with
  | true => rw [if_pos rfl, if_pos (by simp [hp])]; rfl
  | false => rw [if_neg (by decide), if_pos (by simp [hp])]; rfl
theorem recB_range {a : Bool} {d w : Int} {s : ByteArray} (h : recB a d w s = true) : 0 ≤ d ∧ d ≤ 7 ∧ 0 ≤ w ∧ w ≤ 65535 := by
  simp only [recB, zeroB, Bool.or_eq_true, Bool.and_eq_true, beq_iff_eq, decide_eq_true_eq] at h
  rcases h with h | h
  · obtain ⟨_, h1, h2, _⟩ := h; omega
  · obtain ⟨_, h1, h2, _⟩ := h; omega
theorem specRec_eq (a : Bool) (d w : Int) (s : ByteArray) (hs : s.size ≤ 1048576) (k : Nat) (hk : s.size + 1 < k) : spec_RecOf.f k a d w s = some (if recB a d w s = true then recL a d w s else []) := by
  unfold spec_RecOf.f
  rw [recOk_eq a d w s hs k hk]
  simp only [Option.bind_some]
  cases h : recB a d w s with
  | false => rfl
  | true =>
    have hr := recB_range h
    have hp := padW_length s
    rw [if_pos rfl, if_pos rfl]
    unfold spec_l09Two.f recL
    rw [specPad_eq s hs k hk]
    simp only [Option.bind_some]
    have e1 : wrap64 (Int.tdiv w 256) % 256 = w / 256 % 256 := by
      rw [Int.tdiv_eq_ediv_of_nonneg hr.2.2.1]; unfold wrap64; omega
    have e2 : Int.tmod w 256 % 256 = w % 256 := by
      rw [Int.tmod_eq_emod_of_nonneg hr.2.2.1]; omega
    rw [e1, e2]
    cases a with
    | true => rw [if_pos rfl, if_pos (by simp), if_pos (by simp), if_pos (by simp [hp])]; rfl
    | false => rw [if_neg (by decide), if_pos (by simp), if_pos (by simp [hp])]; rfl
def Byts (l : List Int) : Prop := ∀ x, x ∈ l → 0 ≤ x ∧ x ≤ 255
theorem Byts.at_ {l : List Int} (h : Byts l) (i : Int) : 0 ≤ rd l i ∧ rd l i ≤ 255 := by
  unfold rd
  rw [List.getD_eq_getElem?_getD]
  cases e : l[i.toNat]? with
  | none => simp
  | some x => exact h x (List.mem_of_getElem? e)
theorem Byts.drop {l : List Int} (h : Byts l) (n : Nat) : Byts (l.drop n) := fun x hx => h x (List.mem_of_mem_drop hx)
/-- The word that padded bytes tell. -/
def wd (l : List Int) : ByteArray := strOfNums ((l.take (1 + rd l 0).toNat).drop 1)
def unpadC (l : List Int) : Prop := l.length = 33 ∧ 1 ≤ rd l 0 ∧ rd l 0 ≤ 32 ∧ wordB (wd l) = true ∧ (strOfNums (padW (wd l))).toList = (strOfNums l).toList
instance (l : List Int) : Decidable (unpadC l) := by unfold unpadC; infer_instance
def unpadF (l : List Int) : ByteArray × Bool := if unpadC l then (wd l, true) else ((⟨#[]⟩ : ByteArray), false)
theorem unpad_no {l : List Int} (h : ¬ unpadC l) : unpadF l = ((⟨#[]⟩ : ByteArray), false) := if_neg h
theorem wd_size (l : List Int) (h : l.length = 33) : (wd l).size ≤ 33 := by
  unfold wd
  rw [strOfNums_size, List.length_drop, List.length_take]; omega
theorem specUnpad_eq (l : List Int) (hb : Byts l) (k : Nat) (hk : 60 < k) : spec_Unpad.f k l = some (unpadF l) := by
  obtain ⟨k, rfl⟩ : ∃ m, k = m + 1 := ⟨k - 1, by omega⟩
  unfold spec_Unpad.f
  by_cases c1 : (l.length : Int) = 33
  · have hl : l.length = 33 := by omega
    have h0 := hb.at_ 0
    rw [if_pos c1, if_pos (by omega)]
    by_cases c2 : rd l 0 < 1
    · rw [if_pos c2, unpad_no (fun h => by have := h.2.1; omega)]
      simp [spec_Unpad.j0]
    · rw [if_neg c2]
      by_cases c3 : rd l 0 > 32
      · rw [decide_eq_true c3, unpad_no (fun h => by have := h.2.2.1; omega)]
        simp [spec_Unpad.j0]
      · rw [decide_eq_false c3]
        simp only [spec_Unpad.j0]
        have w1 : wrap64 (rd l 0) = rd l 0 := by unfold wrap64; omega
        have w2 : wrap64 (1 + rd l 0) = 1 + rd l 0 := by unfold wrap64; omega
        rw [w1, w2]
        have hs := wd_size l hl
        rw [if_neg (by decide), if_pos (by omega), if_pos (by omega), if_pos (by omega)]
        show ((spec_WordOk.f k (wd l)).bind fun t => if t = true then ((spec_Pad.f k (wd l)).bind fun t153 => if (strOfNums t153).toList = (strOfNums l).toList then some (wd l, true) else some ((⟨#[]⟩ : ByteArray), false)) else some ((⟨#[]⟩ : ByteArray), false)) = _
        rw [wordOk_eq _ (by omega) k (by omega), specPad_eq _ (by omega) k (by omega)]
        simp only [Option.bind_some]
        cases hw : wordB (wd l) with
        | false =>
          rw [if_neg (by decide), unpad_no (fun h => by have := h.2.2.2.1; rw [hw] at this; cases this)]
        | true =>
          rw [if_pos rfl]
          by_cases c4 : (strOfNums (padW (wd l))).toList = (strOfNums l).toList
          · rw [if_pos c4]; unfold unpadF; rw [if_pos ⟨hl, by omega, by omega, hw, c4⟩]
          · rw [if_neg c4, unpad_no (fun h => c4 h.2.2.2.2)]
  · rw [if_neg c1, unpad_no (fun h => by have := h.1; omega)]
    simp [spec_Unpad.j0]
theorem bytesEqual_eq (a b : List Int) : bytes_Equal.f a b = some (decide ((strOfNums a).toList = (strOfNums b).toList)) := by
  unfold bytes_Equal.f
  congr 1
  exact Bool.eq_iff_iff.2 (by simp)
theorem implUnpad_eq (l : List Int) (hb : Byts l) (k : Nat) (hk : 60 < k) : impl_Unpad.f k l = some (unpadF l) := by
  obtain ⟨k, rfl⟩ : ∃ m, k = m + 1 := ⟨k - 1, by omega⟩
  unfold impl_Unpad.f
  by_cases c1 : (l.length : Int) = 33
  · have hl : l.length = 33 := by omega
    have h0 := hb.at_ 0
    rw [if_pos c1, if_pos (by omega)]
    by_cases c3 : rd l 0 > 32
    · rw [decide_eq_true c3, unpad_no (fun h => by have := h.2.2.1; omega)]
      simp [impl_Unpad.j0]
    · rw [decide_eq_false c3]
      simp only [impl_Unpad.j0]
      have w2 : (1 + rd l 0) % 256 = 1 + rd l 0 := by omega
      rw [w2]
      have hs := wd_size l hl
      rw [if_neg (by decide), if_pos (by omega), if_pos (by omega), if_pos (by omega)]
      show ((impl_isWord.f k (wd l)).bind fun t => if t = true then ((impl_pad.f (wd l)).bind fun t202 => (bytes_Equal.f t202 l).bind fun t205 => if t205 = true then some (wd l, true) else some ((⟨#[]⟩ : ByteArray), false)) else some ((⟨#[]⟩ : ByteArray), false)) = _
      rw [isWord_eq _ (by omega) k (by omega), implPad_eq _ (by omega)]
      simp only [Option.bind_some]
      cases hw : wordB (wd l) with
      | false =>
        rw [if_neg (by decide), unpad_no (fun h => by have := h.2.2.2.1; rw [hw] at this; cases this)]
      | true =>
        rw [if_pos rfl, bytesEqual_eq]
        simp only [Option.bind_some]
        by_cases c2 : rd l 0 < 1
        · have e : rd l 0 = 0 := by omega
          have hz : (wd l).size = 0 := by
            unfold wd
            rw [strOfNums_size, e, List.length_drop, List.length_take]; omega
          have := wordB_size hw
          omega
        · by_cases c4 : (strOfNums (padW (wd l))).toList = (strOfNums l).toList
          · rw [decide_eq_true c4, if_pos rfl]; unfold unpadF; rw [if_pos ⟨hl, by omega, by omega, hw, c4⟩]
          · rw [decide_eq_false c4, if_neg (by decide), unpad_no (fun h => c4 h.2.2.2.2)]
  · rw [if_neg c1, unpad_no (fun h => by have := h.1; omega)]
    simp [impl_Unpad.j0]
theorem strOf_inj (a b : List Int) (ha : Byts a) (hb : Byts b) (h : (strOfNums a).toList = (strOfNums b).toList) : a = b := by
  rw [ByteArray.toList_eq, ByteArray.toList_eq, strOfNums_data, strOfNums_data] at h
  have hl : a.length = b.length := by simpa using congrArg List.length h
  apply List.ext_getElem hl
  intro i h1 h2
  have := congrArg (fun l => l[i]?) h
  simp only [List.getElem?_map, List.getElem?_eq_getElem h1, List.getElem?_eq_getElem h2, Option.map_some, Option.some.injEq] at this
  have x := ha _ (List.getElem_mem h1)
  have y := hb _ (List.getElem_mem h2)
  have t := congrArg UInt8.toNat this
  simp only [UInt8.toNat_ofNat'] at t
  omega
theorem or_all (a b : Nat) (ha : a < 256) (hb : b < 256) : Go.bits .or .i64 ((a : Int) * 256) (b : Int) = ((a * 256 + b : Nat) : Int) := by
  have e : (BitVec.ofInt 64 ((a * 256 : Nat) : Int) ||| BitVec.ofInt 64 (b : Int)).toNat = a * 256 + b := by
    rw [BitVec.toNat_or, BitVec.ofInt_natCast, BitVec.ofInt_natCast, BitVec.toNat_ofNat, BitVec.toNat_ofNat, Nat.mod_eq_of_lt (by omega), Nat.mod_eq_of_lt (by omega)]
    have := Nat.shiftLeft_add_eq_or_of_lt (i := 8) (b := b) (by omega) a
    rw [Nat.shiftLeft_eq] at this
    exact this.symm
  have e2 : ((a : Int) * 256) = ((a * 256 : Nat) : Int) := by omega
  show IntKind.i64.wrap ((BitVec.ofInt 64 ((a : Int) * 256) ||| BitVec.ofInt 64 (b : Int)).toNat : Int) = _
  rw [e2, e]
  simp only [IntKind.wrap, IntKind.bits, IntKind.signed]
  simp
  omega
theorem or_eq (x y : Int) (hx : 0 ≤ x ∧ x ≤ 255) (hy : 0 ≤ y ∧ y ≤ 255) : Go.bits .or .i64 (x * 256) y = x * 256 + y := by
  obtain ⟨a, rfl⟩ := Int.eq_ofNat_of_zero_le hx.1
  obtain ⟨b, rfl⟩ := Int.eq_ofNat_of_zero_le hy.1
  rw [or_all a b (by omega) (by omega)]; omega
abbrev RT := Bool × Int × Int × ByteArray × Bool
def noRec : RT := (false, 0, 0, (⟨#[]⟩ : ByteArray), false)
def readC (l : List Int) : Prop := recB (rd l 0 == 1) (rd l 1) (rd l 2 * 256 + rd l 3) (unpadF (l.drop 4)).1 = true ∧ (strOfNums (recL (rd l 0 == 1) (rd l 1) (rd l 2 * 256 + rd l 3) (unpadF (l.drop 4)).1)).toList = (strOfNums l).toList
instance (l : List Int) : Decidable (readC l) := by unfold readC; infer_instance
def readF (l : List Int) : RT := if l.length = 37 then (if readC l then (rd l 0 == 1, rd l 1, rd l 2 * 256 + rd l 3, (unpadF (l.drop 4)).1, true) else noRec) else noRec
theorem unpad_size (l : List Int) : (unpadF l).1.size ≤ 33 := by
  unfold unpadF
  by_cases c : unpadC l
  · rw [if_pos c]; exact wd_size l c.1
  · rw [if_neg c]; exact Nat.zero_le _
theorem implRead_eq (l : List Int) (hb : Byts l) (k : Nat) (hk : 70 < k) : impl_RecRead.f k l = some (readF l) := by
  unfold impl_RecRead.f readF
  by_cases c : (l.length : Int) = 37
  · have h1 := hb.at_ 1
    have h2 := hb.at_ 2
    have h3 := hb.at_ 3
    have hu := unpad_size (l.drop 4)
    rw [if_pos c, if_pos (show l.length = 37 by omega), if_pos (by omega), if_pos (by omega), if_pos (by omega), if_pos (by omega), if_pos (by omega), implUnpad_eq _ (hb.drop 4) k (by omega)]
    rw [show wrap64 (rd l 1) = rd l 1 from by unfold wrap64; omega, show wrap64 (rd l 2) = rd l 2 from by unfold wrap64; omega, show wrap64 (rd l 3) = rd l 3 from by unfold wrap64; omega, show wrap64 (rd l 2 * 256) = rd l 2 * 256 from by unfold wrap64; omega, or_eq _ _ h2 h3]
    simp only [Option.bind_some]
    rw [isRec_eq _ _ _ _ (by omega) k (by omega), implRec_eq _ _ _ _ (by omega)]
    simp only [Option.bind_some]
    rw [bytesEqual_eq]
    simp only [Option.bind_some]
    cases hr : recB (rd l 0 == 1) (rd l 1) (rd l 2 * 256 + rd l 3) (unpadF (l.drop 4)).1 with
    | false =>
      rw [if_neg (by decide), if_neg (fun h => by have := h.1; rw [hr] at this; cases this)]; rfl
    | true =>
      rw [if_pos rfl]
      by_cases c4 : (strOfNums (recL (rd l 0 == 1) (rd l 1) (rd l 2 * 256 + rd l 3) (unpadF (l.drop 4)).1)).toList = (strOfNums l).toList
      · rw [decide_eq_true c4, if_pos rfl, if_pos ⟨hr, c4⟩]
      · rw [decide_eq_false c4, if_neg (by decide), if_neg (fun h => c4 h.2)]; rfl
  · rw [if_neg c, if_neg (show ¬ l.length = 37 by omega)]; rfl
theorem read_zero : readF (List.replicate 37 0) = (false, 0, 0, (⟨#[]⟩ : ByteArray), true) := by
  have hu : unpadF ((List.replicate 37 (0 : Int)).drop 4) = ((⟨#[]⟩ : ByteArray), false) := unpad_no (fun h => by have := h.2.1; revert this; decide)
  have e0 : (rd (List.replicate 37 (0 : Int)) 0 == 1) = false := rfl
  have e1 : rd (List.replicate 37 (0 : Int)) 1 = 0 := rfl
  have e2 : rd (List.replicate 37 (0 : Int)) 2 * 256 + rd (List.replicate 37 (0 : Int)) 3 = 0 := rfl
  have hz : recB false 0 0 (⟨#[]⟩ : ByteArray) = true := by
    unfold recB zeroB
    rw [ByteArray.toList_eq]; rfl
  have hc : readC (List.replicate 37 0) := by
    unfold readC
    rw [hu, e0, e1, e2]
    exact ⟨hz, rfl⟩
  unfold readF
  rw [if_pos (show (List.replicate 37 (0 : Int)).length = 37 from rfl), if_pos hc, hu, e0, e1, e2]
theorem specRead_j0 (l : List Int) (k : Nat) (a : Bool) (d w : Int) (s : ByteArray) (hs : s.size ≤ 1048576) (hk : s.size + 3 < k) : spec_RecRead.j0 k l a d w s = some (if recB a d w s = true ∧ (strOfNums (recL a d w s)).toList = (strOfNums l).toList then (a, d, w, s, true) else noRec) := by
  obtain ⟨k, rfl⟩ : ∃ m, k = m + 1 := ⟨k - 1, by omega⟩
  simp only [spec_RecRead.j0]
  rw [recOk_eq _ _ _ _ hs k (by omega), specRec_eq _ _ _ _ hs k (by omega)]
  simp only [Option.bind_some]
  cases hr : recB a d w s with
  | false => rw [if_neg (by decide), if_neg (fun h => by have := h.1; cases this)]; rfl
  | true =>
    rw [if_pos rfl, if_pos rfl]
    by_cases c4 : (strOfNums (recL a d w s)).toList = (strOfNums l).toList
    · rw [if_pos c4, if_pos ⟨rfl, c4⟩]
    · rw [if_neg c4, if_neg (fun h => c4 h.2)]; rfl
theorem zero_rec {d w : Int} {s : ByteArray} (h : recB false d w s = true) : d = 0 ∧ w = 0 ∧ s = (⟨#[]⟩ : ByteArray) := by
  simp only [recB, zeroB, Bool.false_and, Bool.or_false, Bool.not_false, Bool.true_and, Bool.and_eq_true, beq_iff_eq] at h
  refine ⟨h.1, h.2.1, ?_⟩
  have := h.2.2
  rw [ByteArray.toList_eq] at this
  cases s with
  | mk data =>
    simp only at this
    congr 1
    exact Array.toList_inj.1 this
theorem specRead_eq (l : List Int) (hb : Byts l) (k : Nat) (hk : 70 < k) : spec_RecRead.f k l = some (readF l) := by
  unfold spec_RecRead.f
  by_cases c : (l.length : Int) = 37
  · have hl : l.length = 37 := by omega
    have h1 := hb.at_ 1
    have h2 := hb.at_ 2
    have h3 := hb.at_ 3
    rw [if_pos c, if_pos (by omega)]
    by_cases c1 : rd l 0 = 1
    · have hu := unpad_size (l.drop 4)
      rw [if_pos c1, if_pos (by omega), if_pos (by omega), if_pos (by omega), if_pos (by omega), specUnpad_eq _ (hb.drop 4) k (by omega)]
      simp only [Option.bind_some]
      rw [show wrap64 (rd l 1) = rd l 1 from by unfold wrap64; omega, show wrap64 (rd l 2) = rd l 2 from by unfold wrap64; omega, show wrap64 (rd l 3) = rd l 3 from by unfold wrap64; omega, show wrap64 (256 * rd l 2) = rd l 2 * 256 from by unfold wrap64; omega, show wrap64 (rd l 2 * 256 + rd l 3) = rd l 2 * 256 + rd l 3 from by unfold wrap64; omega]
      rw [specRead_j0 l k _ _ _ _ (by omega) (by omega)]
      unfold readF
      have e : (rd l 0 == 1) = true := by simpa using c1
      have hiff : readC l ↔ (recB true (rd l 1) (rd l 2 * 256 + rd l 3) (unpadF (l.drop 4)).1 = true ∧ (strOfNums (recL true (rd l 1) (rd l 2 * 256 + rd l 3) (unpadF (l.drop 4)).1)).toList = (strOfNums l).toList) := by
        unfold readC; rw [e]
      rw [if_pos hl]
      by_cases hc : readC l
      · rw [if_pos (hiff.1 hc), if_pos hc, e]
      · rw [if_neg (fun h => hc (hiff.2 h)), if_neg hc]
    · rw [if_neg c1, specRead_j0 l k _ _ _ _ (by show (0 : Nat) ≤ _; omega) (by show (0 : Nat) + 3 < k; omega)]
      have hz : recB false 0 0 (⟨#[]⟩ : ByteArray) = true := by
        unfold recB zeroB
        rw [ByteArray.toList_eq]; rfl
      have hL : recL false 0 0 (⟨#[]⟩ : ByteArray) = List.replicate 37 0 := rfl
      have e1 : (rd l 0 == 1) = false := by simpa using c1
      by_cases c4 : (strOfNums (recL false 0 0 (⟨#[]⟩ : ByteArray))).toList = (strOfNums l).toList
      · rw [if_pos ⟨hz, c4⟩]
        have hl2 : List.replicate 37 (0 : Int) = l := strOf_inj _ _ (fun x hx => by have := List.eq_of_mem_replicate hx; omega) hb (by rw [← hL]; exact c4)
        rw [← hl2, read_zero]
      · rw [if_neg (fun h => c4 h.2)]
        unfold readF
        rw [if_pos hl, if_neg]
        intro h
        unfold readC at h
        rw [e1] at h
        obtain ⟨z1, z2, z3⟩ := zero_rec h.1
        rw [z1, z2, z3] at h
        exact c4 h.2
  · rw [if_neg c]
    unfold readF
    rw [if_neg (show ¬ l.length = 37 by omega)]; rfl
theorem eqRec_eq (a0 : Bool) (a1 a2 : Int) (a3 : ByteArray) : laws_eqRec.f a0 a1 a2 a3 a0 a1 a2 a3 = some true := by
  unfold laws_eqRec.f
  simp
theorem byts_of {l : List Int} (h2 : ∀ x, x ∈ l → (Lit.int .u8 x).wf = true) : Byts l := by
  intro x hx
  have := h2 x hx
  simp [Lit.wf, IntKind.min, IntKind.max, IntKind.signed, IntKind.bits] at this
  omega
theorem FnExactRecRead : laws_FnExactRecRead.Pure := by
  intro l0 _ _ hw
  refine ⟨l0.length + 100, ?_⟩
  have hb := byts_of hw
  unfold laws_FnExactRecRead.f
  by_cases c : (l0.length : Int) > 1048576
  · rw [if_pos c]
  rw [if_neg c, toByteS_eq l0 (by omega) _ (by omega)]
  simp only [Option.bind_some]
  rw [specRead_eq l0 hb _ (by omega), implRead_eq l0 hb _ (by omega)]
  simp only [Option.bind_some]
  rw [eqRec_eq]
  simp only [Option.bind_some, if_true, bne_self_eq_false]
  show laws_FnExactRecRead.j0 (l0.length + 99 + 1) l0 l0 false = some true
  simp only [laws_FnExactRecRead.j0]
  rw [if_neg (by decide), toByteS_eq l0 (by omega) _ (by omega)]
  simp only [Option.bind_some]
  rw [eqByteS_eq l0 (by omega) _ (by omega)]
  rfl

end Go.Proofs.Ytmhikpfaoacgpaa.Pure

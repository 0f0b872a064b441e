/- For every drawn record, the record is recovered from its bytes, and all records have the same number of bytes; conditions: none. -/
import Derived.Test.YtmhikpfaoacgpaaPFnRecBackx8
import Derived.Lib.Strings
namespace Go.Proofs.Ytmhikpfaoacgpaa.Pure
open Go.RowKit Go.Proofs.Ytmhikpfaoacgpaa.PFnRecBack Go.Proofs.YtmhikpfaoacgpaaW.PrintWords Go.Proofs.YtmhikpfaoacgpaaW.PrintLast Go.Proofs.YtmhikpfaoacgpaaW.PrintMore
set_option linter.unusedVariables false
set_option linter.unusedSimpArgs false

def letB (c : Int) : Bool := decide (97 ≤ c) && decide (c ≤ 122)
/-- Are the d bytes from i on letters? -/
def lets (s : ByteArray) : Nat → Nat → Bool
  | 0, _ => true
  | d + 1, i => letB (bt s (i : Int)) && lets s d (i + 1)
theorem lets_succ (s : ByteArray) (d i : Nat) : lets s (d + 1) i = (letB (bt s (i : Int)) && lets s d (i + 1)) := rfl
def wordB (s : ByteArray) : Bool := decide (1 ≤ s.size) && (decide (s.size ≤ 32) && lets s s.size 0)
theorem wr1w (i : Nat) (h : i ≤ 1048576) : wrap64 ((i : Int) + 1) = ((i + 1 : Nat) : Int) := by unfold wrap64; omega
theorem wordOk_l0 (s : ByteArray) (hs : s.size ≤ 1048576) : ∀ (d k i : Nat), s.size = i + d → d < k → spec_WordOk.l0 k s (i : Int) = some (lets s d i) := by
  intro d
  induction d with
  | zero =>
    intro k i hi hk
    obtain ⟨k, rfl⟩ : ∃ m, k = m + 1 := ⟨k - 1, by omega⟩
    simp only [spec_WordOk.l0]
    rw [if_neg (by omega)]; rfl
  | succ d ih =>
    intro k i hi hk
    obtain ⟨k, rfl⟩ : ∃ m, k = m + 1 := ⟨k - 1, by omega⟩
    simp only [spec_WordOk.l0]
    rw [if_pos (by omega), if_pos (by omega), wr1w i (by omega), ih k (i + 1) (by omega) (by omega)]
    rw [lets_succ]
    unfold letB
    by_cases c1 : bt s (i : Int) < 97
    · rw [if_pos c1, decide_eq_false (by omega)]; rfl
    · rw [if_neg c1, decide_eq_true (show 97 ≤ bt s (i : Int) by omega)]
      by_cases c2 : bt s (i : Int) > 122
      · rw [if_pos c2, decide_eq_false (by omega)]; rfl
      · rw [if_neg c2, decide_eq_true (show bt s (i : Int) ≤ 122 by omega)]; rfl
theorem wordOk_eq (s : ByteArray) (hs : s.size ≤ 1048576) (k : Nat) (hk : s.size + 1 < k) : spec_WordOk.f k s = some (wordB s) := by
  obtain ⟨k, rfl⟩ : ∃ m, k = m + 1 := ⟨k - 1, by omega⟩
  unfold spec_WordOk.f wordB
  by_cases c1 : (s.size : Int) < 1
  · rw [if_pos c1, decide_eq_false (by omega)]
    simp [spec_WordOk.j0]
  · rw [if_neg c1, decide_eq_true (show 1 ≤ s.size by omega)]
    by_cases c2 : (s.size : Int) > 32
    · rw [decide_eq_true c2, decide_eq_false (show ¬ s.size ≤ 32 by omega)]
      simp [spec_WordOk.j0]
    · rw [decide_eq_false c2, decide_eq_true (show s.size ≤ 32 by omega)]
      simp only [spec_WordOk.j0]
      have := wordOk_l0 s hs s.size k 0 (by omega) (by omega)
      rw [show ((0 : Nat) : Int) = 0 from rfl] at this
      rw [if_neg (by decide), this]; rfl
theorem within_eq (a b c : Int) : impl_within.f a b c = some (decide (b ≤ a) && decide (a ≤ c)) := by
  unfold impl_within.f
  by_cases c1 : a ≥ b
  · rw [if_pos c1, decide_eq_true (show b ≤ a from c1)]; rfl
  · rw [if_neg c1, decide_eq_false (show ¬ b ≤ a from c1)]; rfl
theorem isWord_l0 (s : ByteArray) (hs : s.size ≤ 1048576) : ∀ (d k i : Nat), s.size = i + d → d < k → impl_isWord.l0 k s (s.size : Int) (i : Int) = some (lets s d i && (decide (1 ≤ s.size) && decide (s.size ≤ 32))) := by
  intro d
  induction d with
  | zero =>
    intro k i hi hk
    obtain ⟨k, rfl⟩ : ∃ m, k = m + 1 := ⟨k - 1, by omega⟩
    simp only [impl_isWord.l0]
    rw [if_neg (by omega), within_eq]
    simp only [Option.bind_some, lets, Bool.true_and]
    congr 2
    · exact decide_eq_decide.2 (by omega)
    · exact decide_eq_decide.2 (by omega)
  | succ d ih =>
    intro k i hi hk
    obtain ⟨k, rfl⟩ : ∃ m, k = m + 1 := ⟨k - 1, by omega⟩
    simp only [impl_isWord.l0]
    rw [if_pos (by omega), if_pos (by omega), if_pos (by omega), wr1w i (by omega), ih k (i + 1) (by omega) (by omega)]
    rw [lets_succ]
    unfold letB
    by_cases c1 : bt s (i : Int) < 97
    · rw [if_pos c1, decide_eq_false (by omega)]; rfl
    · rw [if_neg c1, decide_eq_true (show 97 ≤ bt s (i : Int) by omega)]
      by_cases c2 : bt s (i : Int) > 122
      · rw [if_pos c2, decide_eq_false (by omega)]; rfl
      · rw [if_neg c2, decide_eq_true (show bt s (i : Int) ≤ 122 by omega)]; rfl
theorem isWord_eq (s : ByteArray) (hs : s.size ≤ 1048576) (k : Nat) (hk : s.size < k) : impl_isWord.f k s = some (wordB s) := by
  unfold impl_isWord.f wordB
  have := isWord_l0 s hs s.size k 0 (by omega) hk
  rw [show ((0 : Nat) : Int) = 0 from rfl] at this
  rw [this]
  congr 1
  cases lets s s.size 0 <;> cases decide (1 ≤ s.size) <;> cases decide (s.size ≤ 32) <;> rfl
def zeroB (a : Bool) (d w : Int) (s : ByteArray) : Bool := !a && (d == 0 && (w == 0 && (s.toList == ([] : List UInt8))))
def recB (a : Bool) (d w : Int) (s : ByteArray) : Bool := zeroB a d w s || (a && ((decide (0 ≤ d) && decide (d ≤ 7)) && ((decide (0 ≤ w) && decide (w ≤ 65535)) && wordB s)))
theorem recOk_eq (a : Bool) (d w : Int) (s : ByteArray) (hs : s.size ≤ 1048576) (k : Nat) (hk : s.size + 1 < k) : spec_RecOk.f k a d w s = some (recB a d w s) := by
  unfold spec_RecOk.f spec_l09Empty.f recB
  simp only [Option.bind_some]
  rw [show (!a && (d == 0 && (w == 0 && (s.toList == ([] : List UInt8))))) = zeroB a d w s from rfl]
  cases zeroB a d w s with
  | true => rfl
  | false =>
    rw [if_neg (by decide)]
    cases a with
    | false => rfl
    | true =>
      rw [if_pos rfl]
      by_cases c1 : d ≥ 0
      · rw [if_pos c1, decide_eq_true (show 0 ≤ d from c1)]
        by_cases c2 : d ≤ 7
        · rw [if_pos c2, decide_eq_true c2]
          by_cases c3 : w ≥ 0
          · rw [if_pos c3, decide_eq_true (show 0 ≤ w from c3)]
            by_cases c4 : w ≤ 65535
            · rw [if_pos c4, decide_eq_true c4, wordOk_eq s hs k hk]; rfl
            · rw [if_neg c4, decide_eq_false c4]; rfl
          · rw [if_neg c3, decide_eq_false (show ¬ 0 ≤ w from c3)]; rfl
        · rw [if_neg c2, decide_eq_false c2]; rfl
      · rw [if_neg c1, decide_eq_false (show ¬ 0 ≤ d from c1)]; rfl
theorem isRec_eq (a : Bool) (d w : Int) (s : ByteArray) (hs : s.size ≤ 1048576) (k : Nat) (hk : s.size < k) : impl_isRec.f k a d w s = some (recB a d w s) := by
  unfold impl_isRec.f recB
  rw [show (!a && (d == 0 && (w == 0 && (s.toList == ([] : List UInt8))))) = zeroB a d w s from rfl]
  cases zeroB a d w s with
  | true => rfl
  | false =>
    rw [if_neg (by decide)]
    cases a with
    | false => rfl
    | true =>
      rw [if_pos rfl, within_eq, within_eq]
      simp only [Option.bind_some]
      cases (decide (0 ≤ d) && decide (d ≤ 7)) with
      | false => rfl
      | true =>
        rw [if_pos rfl]
        cases (decide (0 ≤ w) && decide (w ≤ 65535)) with
        | false => rfl
        | true =>
          rw [if_pos rfl, isWord_eq s hs k hk]; rfl
theorem wordB_size {s : ByteArray} (h : wordB s = true) : 1 ≤ s.size ∧ s.size ≤ 32 := by
  simp only [wordB, Bool.and_eq_true, decide_eq_true_eq] at h
  exact ⟨h.1, h.2.1⟩
def padW (s : ByteArray) : List Int := if wordB s = true then padL s else List.replicate 33 0
theorem padW_length (s : ByteArray) : (padW s).length = 33 := by
  unfold padW
  cases h : wordB s with
  | true =>
    have := wordB_size h
    simp [padL, bytesOf_length]; omega
  | false => rfl
theorem implPad_eq (s : ByteArray) (hs : s.size ≤ 1048576) : impl_pad.f s = some (padW s) := by
  unfold impl_pad.f padW
  rw [isWord_eq s hs _ (by omega)]
  simp only [Option.bind_some]
  cases h : wordB s with
  | true => rw [if_pos rfl, if_pos (wordB_size h).2, if_pos rfl]
  | false => rfl
/-- The bytes of a record. -/
def recL (a : Bool) (d w : Int) (s : ByteArray) : List Int := [if a = true then 1 else 0, d % 256, w / 256 % 256, w % 256] ++ padW s
theorem recL_length (a : Bool) (d w : Int) (s : ByteArray) : (recL a d w s).length = 37 := by simp [recL, padW_length]
theorem implRec_eq (a : Bool) (d w : Int) (s : ByteArray) (hs : s.size ≤ 1048576) : impl_recOf.f a d w s = some (recL a d w s) := by
  unfold impl_recOf.f recL
  have hp := padW_length s
  rw [implPad_eq s hs]
  simp only [Option.bind_some]
  cases a with
  | true => rw [if_pos rfl, if_pos (by simp [hp])]; rfl
  | false => rw [if_neg (by decide), if_pos (by simp [hp])]; rfl
theorem recB_range {a : Bool} {d w : Int} {s : ByteArray} (h : recB a d w s = true) : 0 ≤ d ∧ d ≤ 7 ∧ 0 ≤ w ∧ w ≤ 65535 := by
  simp only [recB, zeroB, Bool.or_eq_true, Bool.and_eq_true, beq_iff_eq, decide_eq_true_eq] at h
  rcases h with h | h
  · obtain ⟨_, h1, h2, _⟩ := h; omega
  · obtain ⟨_, h1, h2, _⟩ := h; omega
theorem implRecOf_eq (a : Bool) (d w : Int) (s : ByteArray) (hs : s.size ≤ 1048576) (k : Nat) (hk : s.size < k) : impl_RecOf.f k a d w s = some (if recB a d w s = true then recL a d w s else []) := by
  unfold impl_RecOf.f
  rw [isRec_eq a d w s hs k hk, implRec_eq a d w s hs]
  cases recB a d w s <;> rfl
def Byts (l : List Int) : Prop := ∀ x, x ∈ l → 0 ≤ x ∧ x ≤ 255
theorem Byts.at_ {l : List Int} (h : Byts l) (i : Int) : 0 ≤ rd l i ∧ rd l i ≤ 255 := by
  unfold rd
  rw [List.getD_eq_getElem?_getD]
  cases e : l[i.toNat]? with
  | none => simp
  | some x => exact h x (List.mem_of_getElem? e)
theorem Byts.drop {l : List Int} (h : Byts l) (n : Nat) : Byts (l.drop n) := fun x hx => h x (List.mem_of_mem_drop hx)
/-- The word that padded bytes tell. -/
def wd (l : List Int) : ByteArray := strOfNums ((l.take (1 + rd l 0).toNat).drop 1)
def unpadC (l : List Int) : Prop := l.length = 33 ∧ 1 ≤ rd l 0 ∧ rd l 0 ≤ 32 ∧ wordB (wd l) = true ∧ (strOfNums (padW (wd l))).toList = (strOfNums l).toList
instance (l : List Int) : Decidable (unpadC l) := by unfold unpadC; infer_instance
def unpadF (l : List Int) : ByteArray × Bool := if unpadC l then (wd l, true) else ((⟨#[]⟩ : ByteArray), false)
theorem unpad_no {l : List Int} (h : ¬ unpadC l) : unpadF l = ((⟨#[]⟩ : ByteArray), false) := if_neg h
theorem wd_size (l : List Int) (h : l.length = 33) : (wd l).size ≤ 33 := by
  unfold wd
  rw [strOfNums_size, List.length_drop, List.length_take]; omega
theorem bytesEqual_eq (a b : List Int) : bytes_Equal.f a b = some (decide ((strOfNums a).toList = (strOfNums b).toList)) := by
  unfold bytes_Equal.f
  congr 1
  exact Bool.eq_iff_iff.2 (by simp)
theorem implUnpad_eq (l : List Int) (hb : Byts l) (k : Nat) (hk : 60 < k) : impl_Unpad.f k l = some (unpadF l) := by
  obtain ⟨k, rfl⟩ : ∃ m, k = m + 1 := ⟨k - 1, by omega⟩
  unfold impl_Unpad.f
  by_cases c1 : (l.length : Int) = 33
  · have hl : l.length = 33 := by omega
    have h0 := hb.at_ 0
    rw [if_pos c1, if_pos (by omega)]
    by_cases c3 : rd l 0 > 32
    · rw [decide_eq_true c3, unpad_no (fun h => by have := h.2.2.1; omega)]
      simp [impl_Unpad.j0]
    · rw [decide_eq_false c3]
      simp only [impl_Unpad.j0]
      have w2 : (1 + rd l 0) % 256 = 1 + rd l 0 := by omega
      rw [w2]
      have hs := wd_size l hl
      rw [if_neg (by decide), if_pos (by omega), if_pos (by omega), if_pos (by omega)]
      show ((impl_isWord.f k (wd l)).bind fun t => if t = true then ((impl_pad.f (wd l)).bind fun t202 => (bytes_Equal.f t202 l).bind fun t205 => if t205 = true then some (wd l, true) else some ((⟨#[]⟩ : ByteArray), false)) else some ((⟨#[]⟩ : ByteArray), false)) = _
      rw [isWord_eq _ (by omega) k (by omega), implPad_eq _ (by omega)]
      simp only [Option.bind_some]
      cases hw : wordB (wd l) with
      | false =>
        rw [if_neg (by decide), unpad_no (fun h => by have := h.2.2.2.1; rw [hw] at this; cases this)]
      | true =>
        rw [if_pos rfl, bytesEqual_eq]
        simp only [Option.bind_some]
        by_cases c2 : rd l 0 < 1
        · have e : rd l 0 = 0 := by omega
          have hz : (wd l).size = 0 := by
            unfold wd
            rw [strOfNums_size, e, List.length_drop, List.length_take]; omega
          have := wordB_size hw
          omega
        · by_cases c4 : (strOfNums (padW (wd l))).toList = (strOfNums l).toList
          · rw [decide_eq_true c4, if_pos rfl]; unfold unpadF; rw [if_pos ⟨hl, by omega, by omega, hw, c4⟩]
          · rw [decide_eq_false c4, if_neg (by decide), unpad_no (fun h => c4 h.2.2.2.2)]
  · rw [if_neg c1, unpad_no (fun h => by have := h.1; omega)]
    simp [impl_Unpad.j0]
theorem strOf_inj (a b : List Int) (ha : Byts a) (hb : Byts b) (h : (strOfNums a).toList = (strOfNums b).toList) : a = b := by
  rw [ByteArray.toList_eq, ByteArray.toList_eq, strOfNums_data, strOfNums_data] at h
  have hl : a.length = b.length := by simpa using congrArg List.length h
  apply List.ext_getElem hl
  intro i h1 h2
  have := congrArg (fun l => l[i]?) h
  simp only [List.getElem?_map, List.getElem?_eq_getElem h1, List.getElem?_eq_getElem h2, Option.map_some, Option.some.injEq] at this
  have x := ha _ (List.getElem_mem h1)
  have y := hb _ (List.getElem_mem h2)
  have t := congrArg UInt8.toNat this
  simp only [UInt8.toNat_ofNat'] at t
  omega
theorem or_all (a b : Nat) (ha : a < 256) (hb : b < 256) : Go.bits .or .i64 ((a : Int) * 256) (b : Int) = ((a * 256 + b : Nat) : Int) := by
  have e : (BitVec.ofInt 64 ((a * 256 : Nat) : Int) ||| BitVec.ofInt 64 (b : Int)).toNat = a * 256 + b := by
    rw [BitVec.toNat_or, BitVec.ofInt_natCast, BitVec.ofInt_natCast, BitVec.toNat_ofNat, BitVec.toNat_ofNat, Nat.mod_eq_of_lt (by omega), Nat.mod_eq_of_lt (by omega)]
    have := Nat.shiftLeft_add_eq_or_of_lt (i := 8) (b := b) (by omega) a
    rw [Nat.shiftLeft_eq] at this
    exact this.symm
  have e2 : ((a : Int) * 256) = ((a * 256 : Nat) : Int) := by omega
  show IntKind.i64.wrap ((BitVec.ofInt 64 ((a : Int) * 256) ||| BitVec.ofInt 64 (b : Int)).toNat : Int) = _
  rw [e2, e]
  simp only [IntKind.wrap, IntKind.bits, IntKind.signed]
  simp
  omega
theorem or_eq (x y : Int) (hx : 0 ≤ x ∧ x ≤ 255) (hy : 0 ≤ y ∧ y ≤ 255) : Go.bits .or .i64 (x * 256) y = x * 256 + y := by
  obtain ⟨a, rfl⟩ := Int.eq_ofNat_of_zero_le hx.1
  obtain ⟨b, rfl⟩ := Int.eq_ofNat_of_zero_le hy.1
  rw [or_all a b (by omega) (by omega)]; omega
abbrev RT := Bool × Int × Int × ByteArray × Bool
def noRec : RT := (false, 0, 0, (⟨#[]⟩ : ByteArray), false)
def readC (l : List Int) : Prop := recB (rd l 0 == 1) (rd l 1) (rd l 2 * 256 + rd l 3) (unpadF (l.drop 4)).1 = true ∧ (strOfNums (recL (rd l 0 == 1) (rd l 1) (rd l 2 * 256 + rd l 3) (unpadF (l.drop 4)).1)).toList = (strOfNums l).toList
instance (l : List Int) : Decidable (readC l) := by unfold readC; infer_instance
def readF (l : List Int) : RT := if l.length = 37 then (if readC l then (rd l 0 == 1, rd l 1, rd l 2 * 256 + rd l 3, (unpadF (l.drop 4)).1, true) else noRec) else noRec
theorem unpad_size (l : List Int) : (unpadF l).1.size ≤ 33 := by
  unfold unpadF
  by_cases c : unpadC l
  · rw [if_pos c]; exact wd_size l c.1
  · rw [if_neg c]; exact Nat.zero_le _
theorem implRead_eq (l : List Int) (hb : Byts l) (k : Nat) (hk : 70 < k) : impl_RecRead.f k l = some (readF l) := by
  unfold impl_RecRead.f readF
  by_cases c : (l.length : Int) = 37
  · have h1 := hb.at_ 1
    have h2 := hb.at_ 2
    have h3 := hb.at_ 3
    have hu := unpad_size (l.drop 4)
    rw [if_pos c, if_pos (show l.length = 37 by omega), if_pos (by omega), if_pos (by omega), if_pos (by omega), if_pos (by omega), if_pos (by omega), implUnpad_eq _ (hb.drop 4) k (by omega)]
    rw [show wrap64 (rd l 1) = rd l 1 from by unfold wrap64; omega, show wrap64 (rd l 2) = rd l 2 from by unfold wrap64; omega, show wrap64 (rd l 3) = rd l 3 from by unfold wrap64; omega, show wrap64 (rd l 2 * 256) = rd l 2 * 256 from by unfold wrap64; omega, or_eq _ _ h2 h3]
    simp only [Option.bind_some]
    rw [isRec_eq _ _ _ _ (by omega) k (by omega), implRec_eq _ _ _ _ (by omega)]
    simp only [Option.bind_some]
    rw [bytesEqual_eq]
    simp only [Option.bind_some]
    cases hr : recB (rd l 0 == 1) (rd l 1) (rd l 2 * 256 + rd l 3) (unpadF (l.drop 4)).1 with
    | false =>
      rw [if_neg (by decide), if_neg (fun h => by have := h.1; rw [hr] at this; cases this)]; rfl
    | true =>
      rw [if_pos rfl]
      by_cases c4 : (strOfNums (recL (rd l 0 == 1) (rd l 1) (rd l 2 * 256 + rd l 3) (unpadF (l.drop 4)).1)).toList = (strOfNums l).toList
      · rw [decide_eq_true c4, if_pos rfl, if_pos ⟨hr, c4⟩]
      · rw [decide_eq_false c4, if_neg (by decide), if_neg (fun h => c4 h.2)]; rfl
  · rw [if_neg c, if_neg (show ¬ l.length = 37 by omega)]; rfl
/-- The state of a reader of draws: where it stands, and its seed. -/
def Ok (at_ seed b : Int) : Prop := 0 ≤ at_ ∧ at_ ≤ b ∧ 0 ≤ seed ∧ seed < 65521
def Bytes (l : List Int) : Prop := l.length ≤ 1048576 ∧ ∀ x, x ∈ l → 0 ≤ x ∧ x ≤ 255
theorem Ok.up {a s b b' : Int} (h : Ok a s b) (hb : b ≤ b') : Ok a s b' := ⟨h.1, by have := h.2.1; omega, h.2.2⟩
theorem bytes_of {l : List Int} (h1 : l.length ≤ 1048576) (h2 : ∀ x, x ∈ l → (Lit.int .u8 x).wf = true) : Bytes l := by
  refine ⟨h1, fun x hx => ?_⟩
  have := h2 x hx
  simp [Lit.wf, IntKind.min, IntKind.max, IntKind.signed, IntKind.bits] at this
  omega
theorem rd_byte {l : List Int} (h : Bytes l) (i : Int) : 0 ≤ rd l i ∧ rd l i ≤ 255 := by
  unfold rd
  rw [List.getD_eq_getElem?_getD]
  cases e : l[i.toNat]? with
  | none => simp
  | some x => exact h.2 x (List.mem_of_getElem? e)
theorem tmod_pos {a n : Int} (h0 : 0 ≤ a) (hn : 0 < n) : 0 ≤ Int.tmod a n ∧ Int.tmod a n < n := by
  rw [Int.tmod_eq_emod_of_nonneg h0]
  exact ⟨Int.emod_nonneg _ (by omega), Int.emod_lt_of_pos _ hn⟩
theorem pick_ok {l : List Int} (hl : Bytes l) {a s b : Int} (h : Ok a s b) (hb : b ≤ 1000000000000) (n : Int) :
    ∃ r a' s', spec_l01Cur_pick.f l a s n = some (r, a', s') ∧ 0 ≤ r ∧ (2 ≤ n → r < n) ∧ (n < 2 → r = 0) ∧ Ok a' s' (b + 1) := by
  obtain ⟨h0, h1, h2, h3⟩ := h
  have hlen := hl.1
  unfold spec_l01Cur_pick.f
  by_cases c1 : n < 2
  · rw [if_pos c1]
    exact ⟨0, a, s, rfl, by omega, fun _ => by omega, fun _ => rfl, h0, by omega, h2, h3⟩
  · rw [if_neg c1]
    have w1 : wrap64 (a + 1) = a + 1 := by unfold wrap64; omega
    have w2 : wrap64 (s * 1103) = s * 1103 := by unfold wrap64; omega
    have w3 : wrap64 (s * 1103 + 12345) = s * 1103 + 12345 := by unfold wrap64; omega
    rw [w1, w2, w3]
    have hs := tmod_pos (a := s * 1103 + 12345) (n := 65521) (by omega) (by omega)
    generalize Int.tmod (s * 1103 + 12345) 65521 = s1 at hs
    have hok : Ok (a + 1) s1 (b + 1) := ⟨by omega, by omega, hs.1, hs.2⟩
    by_cases c2 : a < (l.length : Int)
    · rw [if_pos c2, if_pos h0, if_neg (by omega)]
      have hr := rd_byte hl a
      rw [show wrap64 (rd l a) = rd l a from by unfold wrap64; omega]
      have hm := tmod_pos (a := rd l a) (n := n) hr.1 (by omega)
      exact ⟨_, _, _, rfl, hm.1, fun _ => hm.2, fun h => absurd h c1, by omega, by omega, h2, h3⟩
    · rw [if_neg c2]
      by_cases c3 : (l.length : Int) > 0
      · rw [if_pos c3, if_neg (by omega)]
        have hi := tmod_pos (a := a) (n := (l.length : Int)) h0 c3
        rw [if_pos hi.1, if_pos hi.2, if_neg (by omega)]
        have hr := rd_byte hl (Int.tmod a (l.length : Int))
        generalize rd l (Int.tmod a (l.length : Int)) = y at hr
        have hd : 0 ≤ Int.tdiv s1 7 ∧ Int.tdiv s1 7 ≤ 65521 := by
          rw [Int.tdiv_eq_ediv_of_nonneg hs.1]; omega
        generalize Int.tdiv s1 7 = z at hd
        rw [show wrap64 z = z from by unfold wrap64; omega, show wrap64 y = y from by unfold wrap64; omega, show wrap64 (z + y) = z + y from by unfold wrap64; omega]
        have hm := tmod_pos (a := z + y) (n := n) (by omega) (by omega)
        exact ⟨_, _, _, rfl, hm.1, fun _ => hm.2, fun h => absurd h c1, hok⟩
      · rw [if_neg c3, if_neg (by omega)]
        have e : (0 : Int) % n = 0 := Int.zero_emod n
        rw [e]
        exact ⟨_, _, _, rfl, by omega, fun _ => by omega, fun h => absurd h c1, hok⟩
theorem raw_ok {l : List Int} (hl : Bytes l) {a s b : Int} (h : Ok a s b) (hb : b ≤ 900000000000) :
    ∃ r a' s', spec_l01Cur_raw.f l a s = some (r, a', s') ∧ (-9223372036854775808 ≤ r ∧ r ≤ 9223372036854775807) ∧ Ok a' s' (b + 2) := by
  obtain ⟨r1, a1, s1, e1, k1, k2, _, o1⟩ := pick_ok hl h (by omega) 8
  unfold spec_l01Cur_raw.f
  rw [e1]
  simp only [Option.bind_some]
  by_cases c1 : r1 = 0
  · rw [if_pos c1]
    obtain ⟨r2, a2, s2, e2, k3, k4, _, o2⟩ := pick_ok hl o1 (by omega) 256
    rw [e2]
    have := k4 (by omega)
    exact ⟨_, _, _, rfl, by rw [show wrap64 (r2 - 128) = r2 - 128 from by unfold wrap64; omega]; omega, o2.up (by omega)⟩
  · rw [if_neg c1]
    by_cases c2 : r1 = 1
    · rw [if_pos c2]
      obtain ⟨r2, a2, s2, e2, k3, k4, _, o2⟩ := pick_ok hl o1 (by omega) 8
      simp only [e2, Option.bind_some]
      rw [if_pos k3, if_pos (by have := k4 (by omega); simpa using this)]
      refine ⟨_, _, _, rfl, ?_, o2.up (by omega)⟩
      have k5 := k4 (by omega)
      have h8 : r2 = 0 ∨ r2 = 1 ∨ r2 = 2 ∨ r2 = 3 ∨ r2 = 4 ∨ r2 = 5 ∨ r2 = 6 ∨ r2 = 7 := by omega
      rcases h8 with rfl | rfl | rfl | rfl | rfl | rfl | rfl | rfl <;> decide
    · rw [if_neg c2]
      obtain ⟨r2, a2, s2, e2, k3, k4, _, o2⟩ := pick_ok hl o1 (by omega) 14
      rw [e2]
      have := k4 (by omega)
      exact ⟨_, _, _, rfl, by rw [show wrap64 (r2 - 3) = r2 - 3 from by unfold wrap64; omega]; omega, o2.up (by omega)⟩
theorem open_ok {l : List Int} (hl : Bytes l) : ∃ s, spec_l01Open.f l = some (l, 0, s) ∧ Ok 0 s 0 := by
  refine ⟨_, rfl, by omega, by omega, ?_, ?_⟩ <;> omega
theorem once_ok {l : List Int} (hl : Bytes l) {a s b : Int} (h : Ok a s b) (hb : b ≤ 900000000000) (n : Int) :
    ∃ r a' s', spec_l01Cur_once.f l a s n = some (r, a', s') ∧ Ok a' s' (b + 1) := by
  obtain ⟨r, a', s', e, _, _, _, o⟩ := pick_ok hl h (by omega) n
  unfold spec_l01Cur_once.f
  rw [e]
  exact ⟨_, _, _, rfl, o⟩
theorem wide_ok {l : List Int} (hl : Bytes l) {a s b : Int} (h : Ok a s b) (hb : b ≤ 900000000000) (n : Int) (hn : n ≠ 0) :
    ∃ r a' s', spec_l01Cur_wide.f l a s n = some (r, a', s') ∧ Ok a' s' (b + 3) := by
  obtain ⟨r1, a1, s1, e1, _, _, _, o1⟩ := pick_ok hl h (by omega) 256
  obtain ⟨r2, a2, s2, e2, _, _, _, o2⟩ := pick_ok hl o1 (by omega) 256
  obtain ⟨r3, a3, s3, e3, _, _, _, o3⟩ := pick_ok hl o2 (by omega) 256
  unfold spec_l01Cur_wide.f
  simp only [e1, e2, e3, Option.bind_some]
  rw [if_neg hn]
  exact ⟨_, _, _, rfl, o3.up (by omega)⟩
theorem word_l0 {l : List Int} (hl : Bytes l) : ∀ (d k : Nat) (x : List Int) (a s b : Int) (n : Int), Ok a s b → b + 2 * (d : Int) ≤ 900000000000 → x.length ≤ 64 → n = (x.length : Int) + d → n ≤ 64 → d < k →
    ∃ w a' s', spec_l01Cur_word.l0 k n x l a s = some (w, a', s') ∧ (w.size : Int) = n ∧ Ok a' s' (b + 2 * (d : Int)) := by
  intro d
  induction d with
  | zero =>
    intro k x a s b n h hb hx hn hn2 hk
    obtain ⟨k, rfl⟩ : ∃ m, k = m + 1 := ⟨k - 1, by omega⟩
    simp only [spec_l01Cur_word.l0]
    rw [if_neg (by omega)]
    exact ⟨_, _, _, rfl, by rw [strOfNums_size]; omega, h.up (by omega)⟩
  | succ d ih =>
    intro k x a s b n h hb hx hn hn2 hk
    obtain ⟨k, rfl⟩ : ∃ m, k = m + 1 := ⟨k - 1, by omega⟩
    simp only [spec_l01Cur_word.l0]
    rw [if_pos (by omega)]
    simp only [Option.bind_some]
    obtain ⟨r1, a1, s1, e1, k1, k2, _, o1⟩ := pick_ok hl h (by omega) 3
    rw [e1]
    simp only [Option.bind_some]
    rw [if_pos k1, if_pos (by have := k2 (by omega); simpa using this)]
    obtain ⟨r2, a2, s2, e2, _, _, _, o2⟩ := pick_ok hl o1 (by omega) (rd [2, 3, 26] r1)
    rw [e2]
    simp only [Option.bind_some]
    rw [if_pos (by omega)]
    obtain ⟨w, a', s', e, hw, o⟩ := ih k (x ++ [wrap64 (97 + r2) % 256]) a2 s2 (b + 1 + 1) n o2 (by omega) (by simp; omega) (by simp; omega) hn2 (by omega)
    exact ⟨w, a', s', e, hw, o.up (by omega)⟩
theorem word_ok {l : List Int} (hl : Bytes l) {a s b : Int} (h : Ok a s b) (hb : b ≤ 800000000000) (k : Nat) (hk : 70 < k) :
    ∃ w a' s', spec_l01Cur_word.f k l a s = some (w, a', s') ∧ w.size ≤ 32 ∧ Ok a' s' (b + 70) := by
  unfold spec_l01Cur_word.f
  simp only [Option.bind_some]
  obtain ⟨r1, a1, s1, e1, k1, k2, _, o1⟩ := pick_ok hl h (by omega) 4
  rw [e1]
  simp only [Option.bind_some]
  have hr := k2 (by omega)
  rw [if_pos k1, if_pos (by simpa using hr)]
  have hm : 2 ≤ rd [3, 5, 8, 32] r1 ∧ rd [3, 5, 8, 32] r1 ≤ 32 := by
    have h4 : r1 = 0 ∨ r1 = 1 ∨ r1 = 2 ∨ r1 = 3 := by omega
    rcases h4 with rfl | rfl | rfl | rfl <;> decide
  obtain ⟨r2, a2, s2, e2, k3, k4, _, o2⟩ := pick_ok hl o1 (by omega) (rd [3, 5, 8, 32] r1)
  rw [e2]
  simp only [Option.bind_some]
  have hr2 := k4 hm.1
  rw [show wrap64 (1 + r2) = 1 + r2 from by unfold wrap64; omega]
  obtain ⟨n, rfl⟩ := Int.eq_ofNat_of_zero_le k3
  obtain ⟨w, a', s', e, hw, o⟩ := word_l0 hl (n + 1) k [] a2 s2 _ (1 + (n : Int)) o2 (by omega) (by simp) (by simp; omega) (by omega) (by omega)
  exact ⟨w, a', s', e, by omega, o.up (by omega)⟩
theorem badWord_ok {l : List Int} (hl : Bytes l) {a s b : Int} (h : Ok a s b) (hb : b ≤ 700000000000) (k : Nat) (hk : 70 < k) :
    ∃ w a' s', spec_l01Cur_badWord.f k l a s = some (w, a', s') ∧ w.size ≤ 100 ∧ Ok a' s' (b + 80) := by
  unfold spec_l01Cur_badWord.f
  obtain ⟨w, a0, s0, e0, hw, o0⟩ := word_ok hl h (by omega) k hk
  rw [e0]
  simp only [Option.bind_some]
  obtain ⟨r1, a1, s1, e1, _, _, _, o1⟩ := pick_ok hl o0 (by omega) 9
  rw [e1]
  simp only [Option.bind_some]
  by_cases c0 : r1 = 0
  · rw [if_pos c0]
    rw [show wrap64 ((w.size : Int) + 1) = (w.size : Int) + 1 from by unfold wrap64; omega]
    obtain ⟨r2, a2, s2, e2, k3, k4, k5, o2⟩ := pick_ok hl o1 (by omega) ((w.size : Int) + 1)
    rw [e2]
    simp only [Option.bind_some]
    have h2 : r2 ≤ (w.size : Int) := by
      by_cases c : 2 ≤ (w.size : Int) + 1
      · have := k4 c; omega
      · have := k5 (by omega); omega
    rw [if_pos k3, if_pos h2]
    obtain ⟨r3, a3, s3, e3, k6, k7, _, o3⟩ := pick_ok hl o2 (by omega) 6
    rw [e3]
    simp only [Option.bind_some]
    have h3 := k7 (by omega)
    rw [if_pos k6, if_pos (by simpa using h3)]
    have hq : (rdOf ByteArray.empty [(⟨#[]⟩ : ByteArray), (⟨#[65]⟩ : ByteArray), (⟨#[45]⟩ : ByteArray), (⟨#[0]⟩ : ByteArray), (⟨#[122, 122]⟩ : ByteArray), (⟨#[123]⟩ : ByteArray)] r3).size ≤ 2 := by
      have h6 : r3 = 0 ∨ r3 = 1 ∨ r3 = 2 ∨ r3 = 3 ∨ r3 = 4 ∨ r3 = 5 := by omega
      rcases h6 with rfl | rfl | rfl | rfl | rfl | rfl <;> decide
    generalize rdOf ByteArray.empty [(⟨#[]⟩ : ByteArray), (⟨#[65]⟩ : ByteArray), (⟨#[45]⟩ : ByteArray), (⟨#[0]⟩ : ByteArray), (⟨#[122, 122]⟩ : ByteArray), (⟨#[123]⟩ : ByteArray)] r3 = z at hq
    have hs1 : (w.extract 0 r2.toNat).size ≤ 32 := by rw [ByteArray.size_extract]; omega
    have hs2 : (w.extract r2.toNat w.size).size ≤ 32 := by rw [ByteArray.size_extract]; omega
    have hs3 : (w.extract 0 r2.toNat ++ z).size ≤ 34 := by rw [ByteArray.size_append]; omega
    rw [if_pos (by omega), if_pos (by omega)]
    exact ⟨_, _, _, rfl, by rw [ByteArray.size_append]; omega, o3.up (by omega)⟩
  · rw [if_neg c0]
    by_cases c1 : r1 = 1
    · rw [if_pos c1]
      exact ⟨_, _, _, rfl, Nat.zero_le _, o1.up (by omega)⟩
    · rw [if_neg c1]
      by_cases c2 : r1 = 2
      · rw [if_pos c2, if_pos (by omega)]
        obtain ⟨r2, a2, s2, e2, k3, k4, _, o2⟩ := pick_ok hl o1 (by omega) 33
        rw [e2]
        simp only [Option.bind_some]
        have h2 := k4 (by omega)
        rw [if_pos k3, if_pos (by omega)]
        have hs1 : (w ++ w).size ≤ 64 := by rw [ByteArray.size_append]; omega
        have hs2 : ((⟨#[97, 97, 97, 97, 97, 97, 97, 97, 97, 97, 97, 97, 97, 97, 97, 97, 97, 97, 97, 97, 97, 97, 97, 97, 97, 97, 97, 97, 97, 97, 97, 97]⟩ : ByteArray).extract 0 (r2 : Int).toNat).size ≤ 32 := by
          rw [ByteArray.size_extract]; omega
        generalize ((⟨#[97, 97, 97, 97, 97, 97, 97, 97, 97, 97, 97, 97, 97, 97, 97, 97, 97, 97, 97, 97, 97, 97, 97, 97, 97, 97, 97, 97, 97, 97, 97, 97]⟩ : ByteArray).extract 0 (r2 : Int).toNat) = z at hs2
        rw [if_pos (by omega)]
        exact ⟨_, _, _, rfl, by rw [ByteArray.size_append]; omega, o2.up (by omega)⟩
      · rw [if_neg c2]
        exact ⟨_, _, _, rfl, by omega, o1.up (by omega)⟩
theorem drec_ok {l : List Int} (hl : Bytes l) {a s b : Int} (h : Ok a s b) (hb : b ≤ 600000000000) (k : Nat) (hk : 70 < k) :
    ∃ x0 x1 x2 x3 a' s', spec_l01Cur_rec.f k l a s = some (x0, x1, x2, x3, a', s') ∧ x3.size ≤ 32 ∧ Ok a' s' (b + 100) := by
  unfold spec_l01Cur_rec.f
  obtain ⟨r1, a1, s1, e1, o1⟩ := once_ok hl h (by omega) 5
  rw [e1]
  simp only [Option.bind_some]
  cases r1 with
  | true => exact ⟨_, _, _, _, _, _, rfl, Nat.zero_le _, o1.up (by omega)⟩
  | false =>
    rw [if_neg (by decide)]
    obtain ⟨r2, a2, s2, e2, k3, k4, _, o2⟩ := pick_ok hl o1 (by omega) 2
    rw [e2]
    simp only [Option.bind_some]
    have h2 := k4 (by omega)
    rw [if_pos k3, if_pos (by simpa using h2)]
    obtain ⟨r3, a3, s3, e3, _, _, _, o3⟩ := pick_ok hl o2 (by omega) (rd [3, 8] r2)
    rw [e3]
    simp only [Option.bind_some]
    obtain ⟨r4, a4, s4, e4, _, _, _, o4⟩ := pick_ok hl o3 (by omega) 3
    rw [e4]
    simp only [Option.bind_some]
    obtain ⟨r5, a5, s5, e5, o5⟩ := wide_ok hl o4 (by omega) 65536 (by decide)
    rw [e5]
    simp only [Option.bind_some]
    obtain ⟨r6, a6, s6, e6, k6, k7, _, o6⟩ := pick_ok hl o5 (by omega) 3
    rw [e6]
    simp only [Option.bind_some]
    have h6 := k7 (by omega)
    rw [if_pos k6, if_pos (by simpa using h6)]
    obtain ⟨w, a7, s7, e7, hw, o7⟩ := word_ok hl o6 (by omega) k hk
    rw [e7]
    exact ⟨_, _, _, _, _, _, rfl, hw, o7.up (by omega)⟩
theorem badRec_ok {l : List Int} (hl : Bytes l) {a s b : Int} (h : Ok a s b) (hb : b ≤ 500000000000) (k : Nat) (hk : 70 < k) :
    ∃ x0 x1 x2 x3 a' s', spec_l01Cur_badRec.f k l a s = some (x0, x1, x2, x3, a', s') ∧ x3.size ≤ 100 ∧ Ok a' s' (b + 200) := by
  unfold spec_l01Cur_badRec.f
  obtain ⟨x0, x1, x2, x3, a1, s1, e1, hx, o1⟩ := drec_ok hl h (by omega) k hk
  rw [e1]
  simp only [Option.bind_some]
  obtain ⟨r2, a2, s2, e2, _, _, _, o2⟩ := pick_ok hl o1 (by omega) 12
  rw [e2]
  simp only [Option.bind_some]
  by_cases c0 : r2 = 0
  · rw [if_pos c0]; exact ⟨_, _, _, _, _, _, rfl, by omega, o2.up (by omega)⟩
  · rw [if_neg c0]
    by_cases c1 : r2 = 1
    · rw [if_pos c1]
      obtain ⟨r3, a3, s3, e3, _, o3⟩ := raw_ok hl o2 (by omega)
      rw [e3]
      simp only [Option.bind_some]
      obtain ⟨r4, a4, s4, e4, k4, k5, _, o4⟩ := pick_ok hl o3 (by omega) 3
      rw [e4]
      simp only [Option.bind_some]
      have h4 := k5 (by omega)
      rw [if_pos k4, if_pos (by simpa using h4)]
      exact ⟨_, _, _, _, _, _, rfl, by omega, o4.up (by omega)⟩
    · rw [if_neg c1]
      by_cases c2 : r2 = 2
      · rw [if_pos c2]
        obtain ⟨r3, a3, s3, e3, _, o3⟩ := raw_ok hl o2 (by omega)
        rw [e3]
        simp only [Option.bind_some]
        obtain ⟨r4, a4, s4, e4, k4, k5, _, o4⟩ := pick_ok hl o3 (by omega) 2
        rw [e4]
        simp only [Option.bind_some]
        have h4 := k5 (by omega)
        rw [if_pos k4, if_pos (by simpa using h4)]
        exact ⟨_, _, _, _, _, _, rfl, by omega, o4.up (by omega)⟩
      · rw [if_neg c2]
        by_cases c3 : r2 = 3
        · rw [if_pos c3]
          obtain ⟨w, a3, s3, e3, hw, o3⟩ := badWord_ok hl o2 (by omega) k hk
          rw [e3]
          exact ⟨_, _, _, _, _, _, rfl, hw, o3.up (by omega)⟩
        · rw [if_neg c3]
          exact ⟨_, _, _, _, _, _, rfl, by omega, o2.up (by omega)⟩
theorem str_bytes (s : ByteArray) : strOfNums (bytesOf s) = s := by
  cases s with
  | mk data =>
    unfold strOfNums bytesOf
    congr 1
    apply Array.toList_inj.1
    have e : (fun n : Int => UInt8.ofNat n.toNat) ∘ (fun b : UInt8 => (b.toNat : Int)) = id := funext fun b => by simp
    show List.map _ (List.map _ data.toList) = data.toList
    rw [List.map_map, e, List.map_id]
theorem unpad_pad (a : Bool) (d w : Int) (s : ByteArray) (h : recB a d w s = true) : (unpadF (padW s)).1 = s := by
  cases hw : wordB s with
  | true =>
    have hz := wordB_size hw
    have e : padW s = padL s := by unfold padW; rw [if_pos hw]
    have e0 : rd (padL s) 0 = (s.size : Int) := rfl
    have ew : wd (padL s) = s := by
      unfold wd
      rw [e0, show (1 + (s.size : Int)).toNat = s.size + 1 by omega]
      show strOfNums ((((s.size : Int) :: (bytesOf s ++ List.replicate (32 - s.size) 0)).take (s.size + 1)).drop 1) = s
      rw [List.take_succ_cons, List.drop_succ_cons, List.drop_zero, List.take_append_of_le_length (by rw [bytesOf_length]; omega), List.take_of_length_le (by rw [bytesOf_length]; omega)]
      exact str_bytes s
    have hc : unpadC (padL s) := ⟨by rw [← e]; exact padW_length s, by rw [e0]; omega, by rw [e0]; omega, by rw [ew]; exact hw, by rw [ew, e]⟩
    rw [e]
    unfold unpadF
    rw [if_pos hc]
    exact ew
  | false =>
    have e : padW s = List.replicate 33 0 := by unfold padW; rw [hw]; rfl
    have hz : zeroB a d w s = true := by
      unfold recB at h
      rw [hw] at h
      simpa using h
    have hs : s.toList = [] := by
      simp only [zeroB, Bool.and_eq_true, beq_iff_eq] at hz
      exact hz.2.2.2
    rw [e, unpad_no (fun h => by have := h.2.1; revert this; decide)]
    rw [ByteArray.toList_eq] at hs
    cases s with
    | mk data =>
      simp only at hs
      show (⟨#[]⟩ : ByteArray) = ⟨data⟩
      congr 1
      exact Array.toList_inj.1 hs.symm
theorem read_of (a : Bool) (d w : Int) (s : ByteArray) (h : recB a d w s = true) : readF (recL a d w s) = (a, d, w, s, true) := by
  have hr := recB_range h
  have e0 : (rd (recL a d w s) 0 == 1) = a := by cases a <;> rfl
  have e1 : rd (recL a d w s) 1 = d := by show d % 256 = d; omega
  have e2 : rd (recL a d w s) 2 * 256 + rd (recL a d w s) 3 = w := by show w / 256 % 256 * 256 + w % 256 = w; omega
  have e3 : (recL a d w s).drop 4 = padW s := rfl
  have e4 := unpad_pad a d w s h
  have hc : readC (recL a d w s) := by
    unfold readC
    rw [e0, e1, e2, e3, e4]
    exact ⟨h, rfl⟩
  unfold readF
  rw [if_pos (recL_length a d w s), if_pos hc, e0, e1, e2, e3, e4]
theorem recL_byts (a : Bool) (d w : Int) (s : ByteArray) (h : recB a d w s = true) : Byts (recL a d w s) := by
  intro x hx
  unfold recL at hx
  rcases List.mem_append.1 hx with hx | hx
  · simp only [List.mem_cons, List.not_mem_nil, or_false] at hx
    rcases hx with rfl | rfl | rfl | rfl
    · cases a <;> decide
    · omega
    · omega
    · omega
  · unfold padW at hx
    cases hw : wordB s with
    | false =>
      rw [hw] at hx
      have := List.eq_of_mem_replicate (show x ∈ List.replicate 33 (0 : Int) from hx)
      omega
    | true =>
      have hz := wordB_size hw
      rw [hw, if_pos rfl] at hx
      unfold padL at hx
      rcases List.mem_cons.1 hx with rfl | hx
      · omega
      · rcases List.mem_append.1 hx with hx | hx
        · unfold bytesOf at hx
          obtain ⟨y, _, rfl⟩ := List.mem_map.1 hx
          have := y.toNat_lt
          omega
        · have := List.eq_of_mem_replicate hx
          omega
theorem FnRecBack : laws_FnRecBack.Pure := by
  intro l0 _ _ hw
  refine ⟨200, ?_⟩
  unfold laws_FnRecBack.f laws_big.f
  simp only [Option.bind_some]
  by_cases c : (l0.length : Int) > 1048576
  · rw [decide_eq_true c]; rfl
  · rw [decide_eq_false c, if_neg (by decide)]
    have hb := bytes_of (show l0.length ≤ 1048576 by omega) hw
    obtain ⟨s0, e0, o0⟩ := open_ok hb
    obtain ⟨a, d, w, s, a1, s1, e1, hs, _⟩ := badRec_ok hb o0 (by omega) 200 (by omega)
    unfold spec_DrawRecOf.f
    rw [e0]
    simp only [Option.bind_some]
    rw [e1]
    simp only [Option.bind_some]
    rw [implRecOf_eq a d w s (by omega) 200 (by omega), recOk_eq a d w s (by omega) 200 (by omega)]
    simp only [Option.bind_some]
    cases h : recB a d w s with
    | false => rfl
    | true =>
      rw [if_pos rfl, if_pos rfl]
      unfold laws_bytesOf.f
      simp only [Option.bind_some, List.nil_append, List.length_nil, Nat.zero_add]
      rw [if_pos (by rw [recL_length]; omega)]
      simp only [Option.bind_some]
      rw [implRead_eq _ (recL_byts a d w s h) 200 (by omega), read_of a d w s h]
      simp only [Option.bind_some]
      rw [if_pos trivial, if_pos (by simp), recL_length]
      rfl

end Go.Proofs.Ytmhikpfaoacgpaa.Pure

/- FnExactRankBy: RankBy agrees with the reference: a net's run over records, each wire puts the record that precedes first. -/
import Derived.Test.YtmhikpfaoacgpaaOpenFnExactRankBy
namespace Go.Proofs.Ytmhikpfaoacgpaa.Pure
open Go.RowKit Go.Proofs.Ytmhikpfaoacgpaa.OpenFnExactRankBy Go.Proofs.Ytmhikpfaoacgpaa.RowOpen Go.Proofs.Ytmhikpfaoacgpaa.PFnExactRankBy Go.Proofs.YtmhikpfaoacgpaaW.PrintWords Go.Proofs.YtmhikpfaoacgpaaW.PrintLast Go.Proofs.YtmhikpfaoacgpaaW.PrintMore
set_option linter.unusedVariables false
set_option linter.unusedSimpArgs false

theorem wr1 (i : Nat) (h : i ≤ 4000000) : wrap64 ((i : Int) + 1) = ((i + 1 : Nat) : Int) := by unfold wrap64; omega
theorem rd87 (l : List S87) (i : Nat) (h : i < l.length) : rd_T87 l (i : Int) = l[i] := by simp [rd_T87, h]
theorem eqWireS_l0 (a : List S87) (ha : a.length ≤ 1048576) : ∀ (d k i : Nat), i ≤ a.length → a.length - i = d → d < k → laws_eqWireS.l0 k a a (i : Int) = some true := by
  intro d
  induction d with
  | zero =>
    intro k i hi hd hk
    obtain ⟨k, rfl⟩ : ∃ m, k = m + 1 := ⟨k - 1, by omega⟩
    simp only [laws_eqWireS.l0]
    rw [if_neg (by omega)]
  | succ d ih =>
    intro k i hi hd hk
    obtain ⟨k, rfl⟩ : ∃ m, k = m + 1 := ⟨k - 1, by omega⟩
    simp only [laws_eqWireS.l0]
    rw [if_pos (by omega), if_pos (by omega), if_pos (by omega)]
    unfold laws_eqWire.f
    rw [if_pos rfl, if_pos rfl]
    simp only [Option.bind_some, if_true]
    rw [wr1 i (by omega)]
    exact ih k (i + 1) (by omega) (by omega) (by omega)
theorem eqNet_eq (n : Int) (a : List S87) (ha : a.length ≤ 1048576) (k : Nat) (hk : a.length < k) : laws_eqNet.f k n a n a = some true := by
  unfold laws_eqNet.f laws_eqWireS.f
  rw [if_pos rfl, if_pos rfl]
  have := eqWireS_l0 a ha a.length k 0 (by omega) (by omega) hk
  rw [show ((0 : Nat) : Int) = 0 from rfl] at this
  rw [this]; rfl
def cvW (x : S102) : S87 := ⟨x.f0, x.f1⟩
theorem rd102 (l : List S102) (i : Nat) (h : i < l.length) : rd_T102 l (i : Int) = l[i] := by simp [rd_T102, h]
theorem szNet_eq (n : Int) (l : List S102) (h : l.length ≤ maxLen) (left : Int) (h0 : 0 ≤ left) (h1 : left ≤ 1048576) : laws_szNet.f n l left = some (if left < (l.length : Int) then -1 else left - (l.length : Int)) := by
  unfold maxLen at h
  unfold laws_szNet.f laws_szWireS.f
  rw [show wrap64 (left - (l.length : Int)) = left - (l.length : Int) from by unfold wrap64; omega]
  by_cases c : left < (l.length : Int)
  · rw [if_pos c, if_pos (by omega)]; rfl
  · rw [if_neg c, if_neg (by omega)]
    simp only [Option.bind_some]
    rw [if_neg (by omega)]
theorem take_setW (x : List S87) (l : List S102) (i : Nat) (hi : i < l.length) (hx : x.length = l.length) (h : x.take i = (l.map cvW).take i) : (x.set i (cvW l[i])).take (i + 1) = (l.map cvW).take (i + 1) := by
  rw [List.take_add_one, List.take_add_one, List.take_set_of_le (Nat.le_refl _), h]
  simp [hi, hx]
theorem toWireS_l0 (l : List S102) (hl : l.length ≤ 1048576) : ∀ (d k i : Nat) (x : List S87), x.length = l.length → i ≤ l.length → l.length - i = d → d < k → x.take i = (l.map cvW).take i →
    laws_toWireS.l0 k l x (i : Int) = some (l.map cvW) := by
  intro d
  induction d with
  | zero =>
    intro k i x hx hi hd hk h
    obtain ⟨k, rfl⟩ : ∃ m, k = m + 1 := ⟨k - 1, by omega⟩
    simp only [laws_toWireS.l0]
    rw [if_neg (by omega)]
    rw [List.take_of_length_le (by omega), List.take_of_length_le (by simp; omega)] at h
    rw [h]
  | succ d ih =>
    intro k i x hx hi hd hk h
    obtain ⟨k, rfl⟩ : ∃ m, k = m + 1 := ⟨k - 1, by omega⟩
    have hlt : i < l.length := by omega
    simp only [laws_toWireS.l0]
    rw [if_pos (by omega), if_pos (by omega), rd102 l i hlt]
    unfold laws_toWire.f
    simp only [Option.bind_some]
    rw [if_pos (by omega), wr1 i (by omega), Int.toNat_natCast]
    exact ih k (i + 1) _ (by simp [hx]) (by omega) (by omega) (by omega) (take_setW x l i hlt hx h)
theorem toNet_eq (n : Int) (l : List S102) (hl : l.length ≤ 1048576) (k : Nat) (hk : l.length < k) : laws_toNet.f k n l = some (n, l.map cvW) := by
  unfold laws_toNet.f laws_toWireS.f
  rw [if_pos (by omega), if_pos (by omega)]
  have := toWireS_l0 l hl l.length k 0 (List.replicate (l.length : Int).toNat z87) (by simp) (by omega) (by omega) hk rfl
  rw [show ((0 : Nat) : Int) = 0 from rfl] at this
  rw [this]; rfl
/-- Is it a net? -/
def netB (n : Int) (l : List S87) : Bool := decide (1 ≤ n ∧ n ≤ 64) && (decide (l.length ≤ 2100) && !(l.any (badW n)))
theorem netOk_l0 (n : Int) (l : List S87) (hl : l.length ≤ 1048576) : ∀ (d k i : Nat), i ≤ l.length → l.length - i = d → d < k → spec_NetOk.l0 k (i : Int) n l = some (!((l.drop i).any (badW n))) := by
  intro d
  induction d with
  | zero =>
    intro k i hi hd hk
    obtain ⟨k, rfl⟩ : ∃ m, k = m + 1 := ⟨k - 1, by omega⟩
    simp only [spec_NetOk.l0]
    rw [if_neg (by omega), List.drop_eq_nil_of_le (by omega)]; rfl
  | succ d ih =>
    intro k i hi hd hk
    obtain ⟨k, rfl⟩ : ∃ m, k = m + 1 := ⟨k - 1, by omega⟩
    have hlt : i < l.length := by omega
    simp only [spec_NetOk.l0]
    rw [if_pos (by omega), if_pos (by omega), rd87 l i hlt, wr1 i (by omega), ih k (i + 1) (by omega) (by omega) (by omega), List.drop_eq_getElem_cons hlt, List.any_cons]
    have e : badW n l[i] = (decide ((l[i]).f0 < 0) || (decide ((l[i]).f1 ≤ (l[i]).f0) || decide (n ≤ (l[i]).f1))) := rfl
    rw [e]
    by_cases c1 : (l[i]).f0 < 0
    · rw [if_pos c1, decide_eq_true c1]; rfl
    · rw [if_neg c1, decide_eq_false c1]
      by_cases c2 : (l[i]).f1 ≤ (l[i]).f0
      · rw [if_pos c2, decide_eq_true c2]; rfl
      · rw [if_neg c2, decide_eq_false c2]
        by_cases c3 : (l[i]).f1 ≥ n
        · rw [if_pos c3, decide_eq_true (show n ≤ (l[i]).f1 from c3)]; rfl
        · rw [if_neg c3, decide_eq_false (show ¬ n ≤ (l[i]).f1 from c3)]; rfl
theorem netOk_eq (n : Int) (l : List S87) (hl : l.length ≤ 1048576) (k : Nat) (hk : l.length + 1 < k) : spec_NetOk.f k n l = some (netB n l) := by
  obtain ⟨k, rfl⟩ : ∃ m, k = m + 1 := ⟨k - 1, by omega⟩
  unfold spec_NetOk.f netB
  by_cases c1 : n < 1
  · rw [if_pos c1, decide_eq_false (by omega)]
    simp [spec_NetOk.j0]
  · rw [if_neg c1]
    by_cases c2 : n > 64
    · rw [if_pos c2, decide_eq_false (show ¬ (1 ≤ n ∧ n ≤ 64) from by omega)]
      simp [spec_NetOk.j0]
    · rw [if_neg c2, decide_eq_true (show 1 ≤ n ∧ n ≤ 64 from by omega)]
      by_cases c3 : (l.length : Int) > 2100
      · rw [decide_eq_true c3, decide_eq_false (show ¬ l.length ≤ 2100 from by omega)]
        simp [spec_NetOk.j0]
      · rw [decide_eq_false c3, decide_eq_true (show l.length ≤ 2100 from by omega)]
        simp only [spec_NetOk.j0]
        have := netOk_l0 n l hl l.length k 0 (by omega) (by omega) (by omega)
        rw [show ((0 : Nat) : Int) = 0 from rfl] at this
        rw [if_neg (by decide), this]
        simp
theorem isNet_eq (n : Int) (l : List S87) : impl_isNet.f n l = some (netB n l) := rfl
def letB (c : Int) : Bool := decide (97 ≤ c) && decide (c ≤ 122)
/-- Are the d bytes from i on letters? -/
def lets (s : ByteArray) : Nat → Nat → Bool
  | 0, _ => true
  | d + 1, i => letB (bt s (i : Int)) && lets s d (i + 1)
theorem lets_succ (s : ByteArray) (d i : Nat) : lets s (d + 1) i = (letB (bt s (i : Int)) && lets s d (i + 1)) := rfl
def wordB (s : ByteArray) : Bool := decide (1 ≤ s.size) && (decide (s.size ≤ 32) && lets s s.size 0)
theorem wr1w (i : Nat) (h : i ≤ 1048576) : wrap64 ((i : Int) + 1) = ((i + 1 : Nat) : Int) := by unfold wrap64; omega
theorem wordOk_l0 (s : ByteArray) (hs : s.size ≤ 1048576) : ∀ (d k i : Nat), s.size = i + d → d < k → spec_WordOk.l0 k s (i : Int) = some (lets s d i) := by
  intro d
  induction d with
  | zero =>
    intro k i hi hk
    obtain ⟨k, rfl⟩ : ∃ m, k = m + 1 := ⟨k - 1, by omega⟩
    simp only [spec_WordOk.l0]
    rw [if_neg (by omega)]; rfl
  | succ d ih =>
    intro k i hi hk
    obtain ⟨k, rfl⟩ : ∃ m, k = m + 1 := ⟨k - 1, by omega⟩
    simp only [spec_WordOk.l0]
    rw [if_pos (by omega), if_pos (by omega), wr1w i (by omega), ih k (i + 1) (by omega) (by omega)]
    rw [lets_succ]
    unfold letB
    by_cases c1 : bt s (i : Int) < 97
    · rw [if_pos c1, decide_eq_false (by omega)]; rfl
    · rw [if_neg c1, decide_eq_true (show 97 ≤ bt s (i : Int) by omega)]
      by_cases c2 : bt s (i : Int) > 122
      · rw [if_pos c2, decide_eq_false (by omega)]; rfl
      · rw [if_neg c2, decide_eq_true (show bt s (i : Int) ≤ 122 by omega)]; rfl
theorem wordOk_eq (s : ByteArray) (hs : s.size ≤ 1048576) (k : Nat) (hk : s.size + 1 < k) : spec_WordOk.f k s = some (wordB s) := by
  obtain ⟨k, rfl⟩ : ∃ m, k = m + 1 := ⟨k - 1, by omega⟩
  unfold spec_WordOk.f wordB
  by_cases c1 : (s.size : Int) < 1
  · rw [if_pos c1, decide_eq_false (by omega)]
    simp [spec_WordOk.j0]
  · rw [if_neg c1, decide_eq_true (show 1 ≤ s.size by omega)]
    by_cases c2 : (s.size : Int) > 32
    · rw [decide_eq_true c2, decide_eq_false (show ¬ s.size ≤ 32 by omega)]
      simp [spec_WordOk.j0]
    · rw [decide_eq_false c2, decide_eq_true (show s.size ≤ 32 by omega)]
      simp only [spec_WordOk.j0]
      have := wordOk_l0 s hs s.size k 0 (by omega) (by omega)
      rw [show ((0 : Nat) : Int) = 0 from rfl] at this
      rw [if_neg (by decide), this]; rfl
theorem within_eq (a b c : Int) : impl_within.f a b c = some (decide (b ≤ a) && decide (a ≤ c)) := by
  unfold impl_within.f
  by_cases c1 : a ≥ b
  · rw [if_pos c1, decide_eq_true (show b ≤ a from c1)]; rfl
  · rw [if_neg c1, decide_eq_false (show ¬ b ≤ a from c1)]; rfl
theorem isWord_l0 (s : ByteArray) (hs : s.size ≤ 1048576) : ∀ (d k i : Nat), s.size = i + d → d < k → impl_isWord.l0 k s (s.size : Int) (i : Int) = some (lets s d i && (decide (1 ≤ s.size) && decide (s.size ≤ 32))) := by
  intro d
  induction d with
  | zero =>
    intro k i hi hk
    obtain ⟨k, rfl⟩ : ∃ m, k = m + 1 := ⟨k - 1, by omega⟩
    simp only [impl_isWord.l0]
    rw [if_neg (by omega), within_eq]
    simp only [Option.bind_some, lets, Bool.true_and]
    congr 2
    · exact decide_eq_decide.2 (by omega)
    · exact decide_eq_decide.2 (by omega)
  | succ d ih =>
    intro k i hi hk
    obtain ⟨k, rfl⟩ : ∃ m, k = m + 1 := ⟨k - 1, by omega⟩
    simp only [impl_isWord.l0]
    rw [if_pos (by omega), if_pos (by omega), if_pos (by omega), wr1w i (by omega), ih k (i + 1) (by omega) (by omega)]
    rw [lets_succ]
    unfold letB
    by_cases c1 : bt s (i : Int) < 97
    · rw [if_pos c1, decide_eq_false (by omega)]; rfl
    · rw [if_neg c1, decide_eq_true (show 97 ≤ bt s (i : Int) by omega)]
      by_cases c2 : bt s (i : Int) > 122
      · rw [if_pos c2, decide_eq_false (by omega)]; rfl
      · rw [if_neg c2, decide_eq_true (show bt s (i : Int) ≤ 122 by omega)]; rfl
theorem isWord_eq (s : ByteArray) (hs : s.size ≤ 1048576) (k : Nat) (hk : s.size < k) : impl_isWord.f k s = some (wordB s) := by
  unfold impl_isWord.f wordB
  have := isWord_l0 s hs s.size k 0 (by omega) hk
  rw [show ((0 : Nat) : Int) = 0 from rfl] at this
  rw [this]
  congr 1
  cases lets s s.size 0 <;> cases decide (1 ≤ s.size) <;> cases decide (s.size ≤ 32) <;> rfl
def zeroB (a : Bool) (d w : Int) (s : ByteArray) : Bool := !a && (d == 0 && (w == 0 && (s.toList == ([] : List UInt8))))
def recB (a : Bool) (d w : Int) (s : ByteArray) : Bool := zeroB a d w s || (a && ((decide (0 ≤ d) && decide (d ≤ 7)) && ((decide (0 ≤ w) && decide (w ≤ 65535)) && wordB s)))
theorem recOk_eq (a : Bool) (d w : Int) (s : ByteArray) (hs : s.size ≤ 1048576) (k : Nat) (hk : s.size + 1 < k) : spec_RecOk.f k a d w s = some (recB a d w s) := by
  unfold spec_RecOk.f spec_l09Empty.f recB
  simp only [Option.bind_some]
  rw [show (!a && (d == 0 && (w == 0 && (s.toList == ([] : List UInt8))))) = zeroB a d w s from rfl]
  cases zeroB a d w s with
  | true => rfl
  | false =>
    rw [if_neg (by decide)]
    cases a with
    | false => rfl
    | true =>
      rw [if_pos rfl]
      by_cases c1 : d ≥ 0
      · rw [if_pos c1, decide_eq_true (show 0 ≤ d from c1)]
        by_cases c2 : d ≤ 7
        · rw [if_pos c2, decide_eq_true c2]
          by_cases c3 : w ≥ 0
          · rw [if_pos c3, decide_eq_true (show 0 ≤ w from c3)]
            by_cases c4 : w ≤ 65535
            · rw [if_pos c4, decide_eq_true c4, wordOk_eq s hs k hk]; rfl
            · rw [if_neg c4, decide_eq_false c4]; rfl
          · rw [if_neg c3, decide_eq_false (show ¬ 0 ≤ w from c3)]; rfl
        · rw [if_neg c2, decide_eq_false c2]; rfl
      · rw [if_neg c1, decide_eq_false (show ¬ 0 ≤ d from c1)]; rfl
theorem isRec_eq (a : Bool) (d w : Int) (s : ByteArray) (hs : s.size ≤ 1048576) (k : Nat) (hk : s.size < k) : impl_isRec.f k a d w s = some (recB a d w s) := by
  unfold impl_isRec.f recB
  rw [show (!a && (d == 0 && (w == 0 && (s.toList == ([] : List UInt8))))) = zeroB a d w s from rfl]
  cases zeroB a d w s with
  | true => rfl
  | false =>
    rw [if_neg (by decide)]
    cases a with
    | false => rfl
    | true =>
      rw [if_pos rfl, within_eq, within_eq]
      simp only [Option.bind_some]
      cases (decide (0 ≤ d) && decide (d ≤ 7)) with
      | false => rfl
      | true =>
        rw [if_pos rfl]
        cases (decide (0 ≤ w) && decide (w ≤ 65535)) with
        | false => rfl
        | true =>
          rw [if_pos rfl, isWord_eq s hs k hk]; rfl
theorem sz_rec (a : Bool) (d w : Int) (s : ByteArray) (h : s.size ≤ maxLen) (left : Int) (h0 : 0 ≤ left) (h1 : left ≤ 1048576) : laws_szRec.f a d w s left = some (if left < (s.size : Int) then -1 else left - (s.size : Int)) := by
  unfold maxLen at h
  unfold laws_szRec.f
  rw [show wrap64 (left - (s.size : Int)) = left - (s.size : Int) from by unfold wrap64; omega]
  by_cases c : left < (s.size : Int)
  · rw [if_pos c, if_pos (by omega)]
  · rw [if_neg c, if_neg (by omega)]
def cv (x : S23) : S26 := ⟨x.f0, x.f1, x.f2, x.f3⟩
def dat (l : List S23) : Nat := (l.map fun x => x.f3.size).sum
theorem dat_cons (x : S23) (l : List S23) : dat (x :: l) = x.f3.size + dat l := by simp [dat]
theorem dat_mem : ∀ (l : List S23) (i : Nat) (h : i < l.length), (l[i]).f3.size ≤ dat l
  | x :: l, 0, _ => by rw [dat_cons]; simp
  | x :: l, i + 1, h => by
    rw [dat_cons]
    have := dat_mem l i (by simpa using h)
    simp only [List.getElem_cons_succ]
    omega
theorem rd23 (l : List S23) (i : Nat) (h : i < l.length) : rd_T23 l (i : Int) = l[i] := by simp [rd_T23, h]
theorem rd26 (l : List S26) (i : Nat) (h : i < l.length) : rd_T26 l (i : Int) = l[i] := by simp [rd_T26, h]
theorem szRecS_l0 (l : List S23) (hl : ∀ y, y ∈ l → y.f3.size ≤ maxLen) (hlen : l.length ≤ 1048576) : ∀ (d k i : Nat) (left : Int), i ≤ l.length → l.length - i = d → d < k → 0 ≤ left → left ≤ 1048576 →
    laws_szRecS.l0 k l left (i : Int) = some (if left < (dat (l.drop i) : Int) then -1 else left - (dat (l.drop i) : Int)) := by
  intro d
  induction d with
  | zero =>
    intro k i left hi hd hk h0 h1
    obtain ⟨k, rfl⟩ : ∃ m, k = m + 1 := ⟨k - 1, by omega⟩
    simp only [laws_szRecS.l0]
    rw [if_neg (by omega), List.drop_eq_nil_of_le (by omega)]
    have e : dat [] = 0 := rfl
    rw [e, if_neg (by omega)]
    simp
  | succ d ih =>
    intro k i left hi hd hk h0 h1
    obtain ⟨k, rfl⟩ : ∃ m, k = m + 1 := ⟨k - 1, by omega⟩
    have hlt : i < l.length := by omega
    simp only [laws_szRecS.l0]
    rw [if_pos (by omega), if_pos (by omega), rd23 l i hlt, sz_rec _ _ _ _ (hl _ (List.getElem_mem hlt)) left h0 h1, List.drop_eq_getElem_cons hlt, dat_cons]
    simp only [Option.bind_some]
    by_cases c : left < ((l[i]).f3.size : Int)
    · rw [if_pos c, if_pos (by omega), if_pos (by omega)]
    · rw [if_neg c, if_neg (by omega), wr1w i (by omega), ih k (i + 1) _ (by omega) (by omega) (by omega) (by omega) (by omega)]
      congr 1
      by_cases c2 : left - ((l[i]).f3.size : Int) < (dat (l.drop (i + 1)) : Int)
      · rw [if_pos c2, if_pos (by omega)]
      · rw [if_neg c2, if_neg (by omega)]; omega
theorem szRecS_eq (l : List S23) (hl : l.length ≤ maxLen ∧ ∀ y, y ∈ l → ok23 y) (k : Nat) (hk : l.length < k) (left : Int) (h0 : 0 ≤ left) (h9 : left ≤ 1048576) :
    laws_szRecS.f k l left = some (if left < ((l.length + dat l : Nat) : Int) then -1 else left - ((l.length + dat l : Nat) : Int)) := by
  have h1 := hl.1
  unfold maxLen at h1
  unfold laws_szRecS.f
  rw [show wrap64 (left - (l.length : Int)) = left - (l.length : Int) from by unfold wrap64; omega]
  by_cases c : left < (l.length : Int)
  · rw [if_pos (by omega), if_pos (by omega)]
  · rw [if_neg (by omega)]
    have := szRecS_l0 l (fun y hy => (hl.2 y hy).2.2.2) (by omega) l.length k 0 (left - (l.length : Int)) (by omega) (by omega) hk (by omega) (by omega)
    rw [List.drop_zero] at this
    rw [show ((0 : Nat) : Int) = 0 from rfl] at this
    rw [this]
    congr 1
    by_cases c2 : left < ((l.length + dat l : Nat) : Int)
    · rw [if_pos c2, if_pos (by omega)]
    · rw [if_neg c2, if_neg (by omega)]; omega
theorem take_setR (x : List S26) (l : List S23) (i : Nat) (hi : i < l.length) (hx : x.length = l.length) (h : x.take i = (l.map cv).take i) : (x.set i (cv l[i])).take (i + 1) = (l.map cv).take (i + 1) := by
  rw [List.take_add_one, List.take_add_one, List.take_set_of_le (Nat.le_refl _), h]
  simp [hi, hx]
theorem toRecS_l0 (l : List S23) (hl : l.length ≤ 1048576) : ∀ (d k i : Nat) (x : List S26), x.length = l.length → i ≤ l.length → l.length - i = d → d < k → x.take i = (l.map cv).take i →
    laws_toRecS.l0 k l x (i : Int) = some (l.map cv) := by
  intro d
  induction d with
  | zero =>
    intro k i x hx hi hd hk h
    obtain ⟨k, rfl⟩ : ∃ m, k = m + 1 := ⟨k - 1, by omega⟩
    simp only [laws_toRecS.l0]
    rw [if_neg (by omega)]
    rw [List.take_of_length_le (by omega), List.take_of_length_le (by simp; omega)] at h
    rw [h]
  | succ d ih =>
    intro k i x hx hi hd hk h
    obtain ⟨k, rfl⟩ : ∃ m, k = m + 1 := ⟨k - 1, by omega⟩
    have hlt : i < l.length := by omega
    simp only [laws_toRecS.l0]
    unfold laws_toRec.f
    simp only [Option.bind_some]
    rw [if_pos (by omega), if_pos (by omega), if_pos (by omega), rd23 l i hlt, wr1w i (by omega), Int.toNat_natCast]
    exact ih k (i + 1) _ (by simp [hx]) (by omega) (by omega) (by omega) (take_setR x l i hlt hx h)
theorem toRecS_eq (l : List S23) (hl : l.length ≤ 1048576) (k : Nat) (hk : l.length < k) : laws_toRecS.f k l = some (l.map cv) := by
  unfold laws_toRecS.f
  rw [if_pos (by omega), if_pos (by omega)]
  exact toRecS_l0 l hl l.length k 0 _ (by simp) (by omega) (by omega) hk rfl
theorem eqRec_eq (a0 : Bool) (a1 a2 : Int) (a3 : ByteArray) : laws_eqRec.f a0 a1 a2 a3 a0 a1 a2 a3 = some true := by
  unfold laws_eqRec.f
  simp
theorem eqRecS_l0 (l : List S26) (hl : l.length ≤ 1048576) : ∀ (d k i : Nat), i ≤ l.length → l.length - i = d → d < k → laws_eqRecS.l0 k l l (i : Int) = some true := by
  intro d
  induction d with
  | zero =>
    intro k i hi hd hk
    obtain ⟨k, rfl⟩ : ∃ m, k = m + 1 := ⟨k - 1, by omega⟩
    simp only [laws_eqRecS.l0]
    rw [if_neg (by omega)]
  | succ d ih =>
    intro k i hi hd hk
    obtain ⟨k, rfl⟩ : ∃ m, k = m + 1 := ⟨k - 1, by omega⟩
    have hlt : i < l.length := by omega
    simp only [laws_eqRecS.l0]
    rw [if_pos (by omega), if_pos (by omega), if_pos (by omega), eqRec_eq, wr1w i (by omega), ih k (i + 1) (by omega) (by omega) (by omega)]
    rfl
theorem eqRecS_eq (l : List S26) (hl : l.length ≤ 1048576) (k : Nat) (hk : l.length < k) : laws_eqRecS.f k l l = some true := by
  unfold laws_eqRecS.f
  rw [if_pos rfl]
  exact eqRecS_l0 l hl l.length k 0 (by omega) (by omega) hk
/-- The words of the records are short enough to be told. -/
def fine (N : Nat) (l : List S26) : Prop := ∀ x, x ∈ l → x.f3.size ≤ N
theorem fine_map (l : List S23) : fine (dat l) (l.map cv) := by
  intro x hx
  obtain ⟨y, hy, rfl⟩ := List.mem_map.1 hx
  obtain ⟨i, hi, rfl⟩ := List.getElem_of_mem hy
  exact dat_mem l i hi
def recR (x : S26) : Bool := recB x.f0 x.f1 x.f2 x.f3
def recsB (l : List S26) : Bool := decide (l.length ≤ 64) && l.all recR
theorem recsOk_l0 (l : List S26) (N : Nat) (hN : N ≤ 1048576) (hf : fine N l) (hl : l.length ≤ 1048576) : ∀ (d k i : Nat), i ≤ l.length → l.length - i = d → d + N + 2 < k → spec_RecsOk.l0 k l (i : Int) = some ((l.drop i).all recR) := by
  intro d
  induction d with
  | zero =>
    intro k i hi hd hk
    obtain ⟨k, rfl⟩ : ∃ m, k = m + 1 := ⟨k - 1, by omega⟩
    simp only [spec_RecsOk.l0]
    rw [if_neg (by omega), List.drop_eq_nil_of_le (by omega)]; rfl
  | succ d ih =>
    intro k i hi hd hk
    obtain ⟨k, rfl⟩ : ∃ m, k = m + 1 := ⟨k - 1, by omega⟩
    have hlt : i < l.length := by omega
    have hs := hf _ (List.getElem_mem hlt)
    simp only [spec_RecsOk.l0]
    rw [if_pos (by omega), if_pos (by omega), rd26 l i hlt, recOk_eq _ _ _ _ (by omega) k (by omega), List.drop_eq_getElem_cons hlt, List.all_cons]
    simp only [Option.bind_some]
    show (if recR l[i] = true then _ else _) = _
    cases recR l[i] with
    | false => rfl
    | true =>
      rw [if_pos rfl, wr1w i (by omega), ih k (i + 1) (by omega) (by omega) (by omega)]; rfl
theorem recsOk_eq (l : List S26) (N : Nat) (hN : N ≤ 1048576) (hf : fine N l) (hl : l.length ≤ 1048576) (k : Nat) (hk : l.length + N + 2 < k) : spec_RecsOk.f k l = some (recsB l) := by
  unfold spec_RecsOk.f recsB
  by_cases c : (l.length : Int) > 64
  · rw [if_pos c, decide_eq_false (by omega)]; rfl
  · rw [if_neg c, decide_eq_true (by omega)]
    have := recsOk_l0 l N hN hf hl l.length k 0 (by omega) (by omega) hk
    rw [show ((0 : Nat) : Int) = 0 from rfl, List.drop_zero] at this
    rw [this]; rfl
theorem badR_eq (x : S26) (h : x.f3.size ≤ 1048576) : badR x = some (!recR x) := by
  unfold badR recR
  rw [isRec_eq _ _ _ _ h _ (by omega)]; rfl
theorem idxR_eq (N : Nat) (hN : N ≤ 1048576) : ∀ (l : List S26) (i : Nat), fine N l → ∃ r, idxR l i = some r ∧ (!decide (0 ≤ r)) = l.all recR
  | [], i, _ => ⟨-1, rfl, rfl⟩
  | x :: l, i, hf => by
    have h1 := badR_eq x (by have := hf x (by simp); omega)
    obtain ⟨r, h2, h3⟩ := idxR_eq N hN l (i + 1) (fun y hy => hf y (by simp [hy]))
    unfold idxR
    rw [h1]
    simp only [Option.bind_some, List.all_cons]
    cases hr : recR x with
    | false =>
      refine ⟨(i : Int), rfl, ?_⟩
      rw [decide_eq_true (by omega)]; rfl
    | true => exact ⟨r, h2, by rw [h3]; rfl⟩
theorem areRecs_eq (l : List S26) (N : Nat) (hN : N ≤ 1048576) (hf : fine N l) : impl_areRecs.f l = some (recsB l) := by
  unfold impl_areRecs.f recsB
  by_cases c : l.length ≤ 64
  · obtain ⟨r, h2, h3⟩ := idxR_eq N hN l 0 hf
    rw [if_pos c, h2, decide_eq_true c]
    simp only [Option.bind_some]
    rw [h3]; rfl
  · rw [if_neg c, decide_eq_false c]; rfl
theorem markT_l0 : ∀ (d k : Nat) (n : Int) (s : ByteArray), 0 ≤ n → n ≤ 1000000000 → n < ((10 ^ d : Nat) : Int) → s.size + d ≤ 1000 → d < k → ∃ t, laws_markText.l0 k n s = some t := by
  intro d
  induction d with
  | zero =>
    intro k n s h0 h9 h1 hs hk
    obtain ⟨k, rfl⟩ : ∃ m, k = m + 1 := ⟨k - 1, by omega⟩
    simp only [laws_markText.l0]
    rw [if_neg (by simp at h1; omega), if_pos (by omega)]
    exact ⟨_, rfl⟩
  | succ d ih =>
    intro k n s h0 h9 h1 hs hk
    obtain ⟨k, rfl⟩ : ∃ m, k = m + 1 := ⟨k - 1, by omega⟩
    simp only [laws_markText.l0]
    by_cases c : n > 0
    · rw [if_pos c]
      simp only [Option.bind_some]
      have e : wrap64 (Int.tdiv n 10) = n / 10 := by
        rw [Int.tdiv_eq_ediv_of_nonneg h0]; unfold wrap64; omega
      rw [if_pos (by rw [strOfNums_size]; simp; omega), e]
      refine ih k _ _ (by omega) (by omega) ?_ ?_ (by omega)
      · rw [Nat.pow_succ] at h1; omega
      · rw [ByteArray.size_append, strOfNums_size]; simp; omega
    · rw [if_neg c, if_pos (by omega)]
      exact ⟨_, rfl⟩
def mtx (n : Int) : ByteArray := (laws_markText.f 30 n).getD (⟨#[]⟩ : ByteArray)
theorem markT_eq (n : Int) (h0 : 0 ≤ n) (h9 : n ≤ 1000000000) (k : Nat) (hk : 30 ≤ k) : laws_markText.f k n = some (mtx n) := by
  have h : ∃ t, laws_markText.f 30 n = some t := by
    unfold laws_markText.f
    by_cases c : n ≤ 0
    · rw [if_pos c]; exact ⟨_, rfl⟩
    · rw [if_neg c]
      exact markT_l0 10 30 n _ h0 h9 (by omega) (by decide) (by omega)
  obtain ⟨t, ht⟩ := h
  have e : mtx n = t := by unfold mtx; rw [ht]; rfl
  rw [e]
  exact at_rounds (g := fun k => laws_markText.f k n) (fun k => laws_markText.mono n k) hk ht
def mkE (a : Int) : S26 := ⟨Int.tmod a 3 == 0, a + 1, a + 2, mtx (a + 3)⟩
def mkR (a : Int) (n : Nat) : List S26 := (List.range n).map fun (i : Nat) => mkE (a + 4 * (i : Int))
theorem mkR_length (a : Int) (n : Nat) : (mkR a n).length = n := by simp [mkR]
theorem mkR_step (a : Int) (x : List S26) (n i : Nat) (hi : i < n) (hx : x.length = n) (h : x.take i = (mkR a n).take i) : (x.set i (mkE (a + 4 * (i : Int)))).take (i + 1) = (mkR a n).take (i + 1) := by
  rw [List.take_add_one, List.take_add_one, List.take_set_of_le (Nat.le_refl _), h]
  simp [hi, hx, mkR]
theorem rd_set26 (x : List S26) (i : Nat) (v : S26) (h : i < x.length) : rd_T26 (x.set i v) (i : Int) = v := by simp [rd_T26, h]
theorem markR_l0 (a : Int) (n : Nat) (hn : n ≤ 1048576) (ha0 : 0 ≤ a) (ha : a ≤ 16777216) : ∀ (d k i : Nat) (x : List S26), x.length = n → i ≤ n → n - i = d → d + 30 < k → x.take i = (mkR a n).take i →
    laws_markRecS.l0 k x (a + 4 * (i : Int)) (i : Int) = some (a + 4 * (n : Int), mkR a n) := by
  intro d
  induction d with
  | zero =>
    intro k i x hx hi hd hk h
    obtain ⟨k, rfl⟩ : ∃ m, k = m + 1 := ⟨k - 1, by omega⟩
    simp only [laws_markRecS.l0]
    rw [if_neg (by omega)]
    rw [List.take_of_length_le (by omega), List.take_of_length_le (by rw [mkR_length]; omega)] at h
    rw [h, show i = n by omega]
  | succ d ih =>
    intro k i x hx hi hd hk h
    obtain ⟨k, rfl⟩ : ∃ m, k = m + 1 := ⟨k - 1, by omega⟩
    simp only [laws_markRecS.l0]
    have hlx : i < x.length := by omega
    rw [if_pos (by omega), if_pos (by omega)]
    simp only [Option.bind_some, Int.toNat_natCast]
    have hs : ∀ v, rd_T26 (x.set i v) (i : Int) = v := fun v => rd_set26 x i v hlx
    simp only [hs, List.set_set]
    generalize hp : a + 4 * (i : Int) = p
    have w1 : wrap64 (p + 1) = p + 1 := by unfold wrap64; omega
    have w2 : wrap64 (p + 1 + 1) = p + 2 := by unfold wrap64; omega
    have w3 : wrap64 (p + 2 + 1) = p + 3 := by unfold wrap64; omega
    have w4 : wrap64 (p + 3 + 1) = a + 4 * ((i + 1 : Nat) : Int) := by unfold wrap64; omega
    rw [w1, w2, w3, w4, markT_eq (p + 3) (by omega) (by omega) k (by omega)]
    simp only [Option.bind_some]
    rw [wr1w i (by omega)]
    have hE : (⟨Int.tmod p 3 == 0, p + 1, p + 2, mtx (p + 3)⟩ : S26) = mkE (a + 4 * (i : Int)) := by rw [hp]; rfl
    rw [hE]
    exact ih k (i + 1) _ (by simp [hx]) (by omega) (by omega) (by omega) (mkR_step a x n i (by omega) hx h)
theorem markR_eq (a : Int) (l : List S26) (hl : l.length ≤ 1048576) (ha0 : 0 ≤ a) (ha : a ≤ 16777216) (k : Nat) (hk : l.length + 30 < k) : laws_markRecS.f k l a = some (a + 4 * (l.length : Int), mkR a l.length) := by
  unfold laws_markRecS.f
  have := markR_l0 a l.length hl ha0 ha l.length k 0 l rfl (by omega) (by omega) hk rfl
  simpa using this
theorem heldR_l0 (n : Nat) (hn : n ≤ 1048576) : ∀ (d k i : Nat), i ≤ n → n - i = d → d + 30 < k → laws_heldRecS.l0 k (mkR 1 n) (1 + 4 * (i : Int)) (i : Int) = some (1 + 4 * (n : Int)) := by
  intro d
  induction d with
  | zero =>
    intro k i hi hd hk
    obtain ⟨k, rfl⟩ : ∃ m, k = m + 1 := ⟨k - 1, by omega⟩
    simp only [laws_heldRecS.l0]
    rw [if_neg (by rw [mkR_length]; omega), show i = n by omega]
  | succ d ih =>
    intro k i hi hd hk
    obtain ⟨k, rfl⟩ : ∃ m, k = m + 1 := ⟨k - 1, by omega⟩
    simp only [laws_heldRecS.l0]
    have e : rd_T26 (mkR 1 n) (i : Int) = mkE (1 + 4 * (i : Int)) := by
      have : i < n := by omega
      simp [rd_T26, mkR, this]
    rw [e, if_pos (by rw [mkR_length]; omega), if_pos (by omega)]
    generalize hp : 1 + 4 * (i : Int) = p
    have w1 : wrap64 (p + 1) = p + 1 := by unfold wrap64; omega
    have w2 : wrap64 (p + 1 + 1) = p + 2 := by unfold wrap64; omega
    have w3 : wrap64 (p + 2 + 1) = p + 3 := by unfold wrap64; omega
    have w4 : wrap64 (p + 3 + 1) = 1 + 4 * ((i + 1 : Nat) : Int) := by unfold wrap64; omega
    rw [w1, w2, w3, w4, markT_eq (p + 3) (by omega) (by omega) k (by omega)]
    unfold mkE
    simp only [Option.bind_some, bne_self_eq_false]
    rw [if_neg (by decide), if_pos trivial, if_pos trivial, if_pos trivial, wr1w i (by omega)]
    exact ih k (i + 1) (by omega) (by omega) (by omega)
theorem heldR_eq (n : Nat) (hn : n ≤ 1048576) (k : Nat) (hk : n + 30 < k) : laws_heldRecS.f k (mkR 1 n) 1 = some (1 + 4 * (n : Int)) := by
  unfold laws_heldRecS.f
  have := heldR_l0 n hn n k 0 (by omega) (by omega) hk
  simpa using this

theorem wordCmp_l0 (a b : ByteArray) (ha : a.size ≤ 1048576) (hb : b.size ≤ 1048576) : ∀ (d k i : Nat), a.size = i + d → i ≤ b.size → 2 * d + 1 < k →
    ∃ r, spec_WordCmp.l0 k a b (i : Int) = some r ∧ decide (r < 0) = Op.bytesLess (a.data.toList.drop i) (b.data.toList.drop i) := by
  intro d
  induction d with
  | zero =>
    intro k i hi hj hk
    obtain ⟨k, rfl⟩ : ∃ m, k = m + 2 := ⟨k - 2, by omega⟩
    simp only [spec_WordCmp.l0]
    rw [if_neg (by omega)]
    simp only [spec_WordCmp.j1]
    rw [if_neg (by decide)]
    have e1 : a.data.toList.drop i = [] := List.drop_eq_nil_of_le (by rw [data_length]; omega)
    rw [e1]
    by_cases c : (a.size : Int) < (b.size : Int)
    · rw [if_pos c]
      refine ⟨_, rfl, ?_⟩
      have hlt : i < b.data.toList.length := by rw [data_length]; omega
      rw [List.drop_eq_getElem_cons hlt]; rfl
    · rw [if_neg c, if_neg (by omega)]
      refine ⟨_, rfl, ?_⟩
      rw [List.drop_eq_nil_of_le (by rw [data_length]; omega)]; rfl
  | succ d ih =>
    intro k i hi hj hk
    obtain ⟨k, rfl⟩ : ∃ m, k = m + 2 := ⟨k - 2, by omega⟩
    have hla : i < a.data.toList.length := by rw [data_length]; omega
    simp only [spec_WordCmp.l0]
    rw [if_pos (by omega)]
    simp only [spec_WordCmp.j1]
    by_cases c : (i : Int) < (b.size : Int)
    · have hlb : i < b.data.toList.length := by rw [data_length]; omega
      have ba : bt a (i : Int) = (a.data.toList[i].toNat : Int) := by
        have := bt_at a (i : Int) (by rw [Int.toNat_natCast]; omega)
        rw [← this]; simp [ByteArray.getElem_eq_getElem_data]
      have bb : bt b (i : Int) = (b.data.toList[i].toNat : Int) := by
        have := bt_at b (i : Int) (by rw [Int.toNat_natCast]; omega)
        rw [← this]; simp [ByteArray.getElem_eq_getElem_data]
      rw [decide_eq_true c, if_pos rfl, if_pos (by omega), if_pos (by omega), if_pos c, List.drop_eq_getElem_cons hla, List.drop_eq_getElem_cons hlb, ba, bb]
      generalize a.data.toList[i] = x
      generalize b.data.toList[i] = y
      have e : Op.bytesLess (x :: a.data.toList.drop (i + 1)) (y :: b.data.toList.drop (i + 1)) = (decide (x < y) || (x == y && Op.bytesLess (a.data.toList.drop (i + 1)) (b.data.toList.drop (i + 1)))) := rfl
      rw [e]
      by_cases c1 : (x.toNat : Int) < (y.toNat : Int)
      · rw [if_pos c1, decide_eq_true (show x < y by rw [UInt8.lt_iff_toNat_lt]; omega)]
        exact ⟨_, rfl, rfl⟩
      · rw [if_neg c1, decide_eq_false (show ¬ x < y by rw [UInt8.lt_iff_toNat_lt]; omega)]
        by_cases c2 : (x.toNat : Int) > (y.toNat : Int)
        · have hne : (x == y) = false := by
            rw [beq_eq_false_iff_ne]; intro h; subst h; omega
          rw [if_pos c2, hne]
          exact ⟨_, rfl, rfl⟩
        · have heq : x = y := UInt8.toNat_inj.1 (by omega)
          rw [if_neg c2, heq, wr1w i (by omega)]
          obtain ⟨r, h1, h2⟩ := ih k (i + 1) (by omega) (by omega) (by omega)
          refine ⟨r, h1, ?_⟩
          rw [h2]; simp
    · rw [decide_eq_false c, if_neg (by decide), if_neg (by omega), if_pos (by omega)]
      refine ⟨_, rfl, ?_⟩
      have e1 : b.data.toList.drop i = [] := List.drop_eq_nil_of_le (by rw [data_length]; omega)
      rw [e1]
      rcases a.data.toList.drop i with _ | ⟨x, l⟩ <;> rfl
def lessB (a b : ByteArray) : Bool := Op.bytesLess a.data.toList b.data.toList
theorem wordCmp_eq (a b : ByteArray) (ha : a.size ≤ 1048576) (hb : b.size ≤ 1048576) (k : Nat) (hk : 2 * a.size + 1 < k) : ∃ r, spec_WordCmp.f k a b = some r ∧ decide (r < 0) = lessB a b := by
  obtain ⟨r, h1, h2⟩ := wordCmp_l0 a b ha hb a.size k 0 (by omega) (by omega) hk
  exact ⟨r, h1, by rw [h2]; simp [lessB]⟩
def cmpI (a b : Int) : Int := if a < b then -1 else if a > b then 1 else 0
theorem cmpI_eq (a b : Int) : cmp_Compare_int.f a b = some (cmpI a b) := by
  unfold cmp_Compare_int.f cmp_isNaN_int.f cmpI
  simp only [Option.bind_some, bne_self_eq_false]
  rw [if_neg (by decide), if_neg (by decide)]
  by_cases c1 : a < b
  · rw [if_pos c1, if_pos c1]
  · rw [if_neg c1, if_neg c1]
    by_cases c2 : a > b
    · rw [if_pos c2, if_pos c2]
    · rw [if_neg c2, if_neg c2]
def cmpS (a b : ByteArray) : Int := if lessB a b = true then -1 else if lessB b a = true then 1 else 0
theorem cmpS_eq (a b : ByteArray) : cmp_Compare_string.f a b = some (cmpS a b) := by
  unfold cmp_Compare_string.f cmp_isNaN_string.f cmpS
  simp only [Option.bind_some, bne_self_eq_false, ByteArray.toList_eq]
  rw [if_neg (by decide), if_neg (by decide)]
  unfold lessB
  cases Op.bytesLess a.data.toList b.data.toList <;> cases Op.bytesLess b.data.toList a.data.toList <;> rfl
theorem or3 (k : Nat) (hk : 4 ≤ k) (x y z : Int) : cmp_Or_int.f k [x, y, z] = some (if x = 0 then (if y = 0 then z else y) else x) := by
  obtain ⟨k, rfl⟩ : ∃ m, k = m + 4 := ⟨k - 4, by omega⟩
  unfold cmp_Or_int.f
  show cmp_Or_int.l0 (k + 4) 0 [x, y, z] 3 0 = _
  have e1 : cmp_Or_int.l0 (k + 1) 0 [x, y, z] 3 3 = some 0 := by
    rw [cmp_Or_int.l0, if_neg (by decide)]
  have e2 : cmp_Or_int.l0 (k + 2) 0 [x, y, z] 3 2 = some z := by
    rw [cmp_Or_int.l0, if_pos (by decide), if_pos (by decide), if_pos (by simp)]
    rw [show rd [x, y, z] 2 = z from rfl, show wrap64 (2 + 1) = 3 from by unfold wrap64; omega]
    rw [e1]
    by_cases c : z = 0
    · rw [if_pos c, c]
    · rw [if_neg c]
  have e3 : cmp_Or_int.l0 (k + 3) 0 [x, y, z] 3 1 = some (if y = 0 then z else y) := by
    rw [cmp_Or_int.l0, if_pos (by decide), if_pos (by decide), if_pos (by simp)]
    rw [show rd [x, y, z] 1 = y from rfl, show wrap64 (1 + 1) = 2 from by unfold wrap64; omega]
    rw [e2]
    by_cases c : y = 0
    · rw [if_pos c, if_pos c]
    · rw [if_neg c, if_neg c]
  rw [cmp_Or_int.l0, if_pos (by decide), if_pos (by decide), if_pos (by simp)]
  rw [show rd [x, y, z] 0 = x from rfl, show wrap64 (0 + 1) = 1 from by unfold wrap64; omega]
  rw [e3]
  by_cases c : x = 0
  · rw [if_pos c, if_pos c]
  · rw [if_neg c, if_neg c]
/-- Does a precede b? -/
def aheadB (a0 : Bool) (a1 a2 : Int) (a3 : ByteArray) (b0 : Bool) (b1 b2 : Int) (b3 : ByteArray) : Bool :=
  if (a0 && b0) = true then (if a1 = b1 then (if a2 = b2 then lessB a3 b3 else decide (b2 < a2)) else decide (a1 < b1)) else a0 && !b0
theorem isAhead_eq (a0 : Bool) (a1 a2 : Int) (a3 : ByteArray) (b0 : Bool) (b1 b2 : Int) (b3 : ByteArray) (k : Nat) (hk : 5 ≤ k) : impl_isAhead.f k a0 a1 a2 a3 b0 b1 b2 b3 = some (aheadB a0 a1 a2 a3 b0 b1 b2 b3) := by
  obtain ⟨k, rfl⟩ : ∃ m, k = m + 1 := ⟨k - 1, by omega⟩
  unfold impl_isAhead.f aheadB
  cases a0 with
  | false => simp [impl_isAhead.j0]
  | true =>
    cases b0 with
    | false => simp [impl_isAhead.j0]
    | true =>
      rw [if_pos rfl]
      simp only [impl_isAhead.j0]
      rw [if_neg (by decide), cmpI_eq, cmpI_eq, cmpS_eq]
      simp only [Option.bind_some]
      rw [or3 k (by omega), if_pos (show (true && true) = true from rfl)]
      simp only [Option.bind_some]
      congr 1
      unfold cmpI cmpS
      by_cases c1 : a1 = b1
      · rw [if_pos c1, if_neg (show ¬ a1 < b1 by omega), if_neg (show ¬ a1 > b1 by omega), if_pos rfl]
        by_cases c2 : a2 = b2
        · rw [if_pos c2, if_neg (show ¬ b2 < a2 by omega), if_neg (show ¬ b2 > a2 by omega), if_pos rfl]
          cases lessB a3 b3 with
          | true => rfl
          | false =>
            rw [if_neg (by decide)]
            cases lessB b3 a3 <;> rfl
        · rw [if_neg c2]
          by_cases c3 : b2 < a2
          · rw [if_pos c3, if_neg (by decide), decide_eq_true c3]; rfl
          · rw [if_neg c3, if_pos (show b2 > a2 by omega), if_neg (by decide), decide_eq_false c3]; rfl
      · rw [if_neg c1]
        by_cases c3 : a1 < b1
        · rw [if_pos c3, if_neg (by decide), decide_eq_true c3]; rfl
        · rw [if_neg c3, if_pos (show a1 > b1 by omega), if_neg (by decide), decide_eq_false c3]; rfl
theorem specAhead_eq (a0 : Bool) (a1 a2 : Int) (a3 : ByteArray) (b0 : Bool) (b1 b2 : Int) (b3 : ByteArray) (ha : a3.size ≤ 1048576) (hb : b3.size ≤ 1048576) (k : Nat) (hk : 2 * a3.size + b3.size + 5 < k) :
    spec_RecAhead.f k a0 a1 a2 a3 b0 b1 b2 b3 = some (recB a0 a1 a2 a3 && (recB b0 b1 b2 b3 && aheadB a0 a1 a2 a3 b0 b1 b2 b3)) := by
  obtain ⟨k, rfl⟩ : ∃ m, k = m + 1 := ⟨k - 1, by omega⟩
  unfold spec_RecAhead.f
  rw [recOk_eq _ _ _ _ ha _ (by omega), recOk_eq _ _ _ _ hb _ (by omega)]
  simp only [Option.bind_some]
  cases recB a0 a1 a2 a3 with
  | false => simp [spec_RecAhead.j0]
  | true =>
    rw [if_pos rfl]
    cases recB b0 b1 b2 b3 with
    | false => simp [spec_RecAhead.j0]
    | true =>
      rw [if_pos rfl]
      unfold aheadB
      cases a0 with
      | false => simp [spec_RecAhead.j0]
      | true =>
        simp only [spec_RecAhead.j0]
        rw [if_neg (by decide)]
        cases b0 with
        | false => rfl
        | true =>
          rw [if_pos rfl, if_pos (show (true && true) = true from rfl)]
          by_cases c1 : a1 = b1
          · rw [if_pos c1, if_pos c1]
            by_cases c2 : a2 = b2
            · rw [if_pos c2, if_pos c2]
              obtain ⟨r, h1, h2⟩ := wordCmp_eq a3 b3 ha hb k (by omega)
              rw [h1]
              simp [h2]
            · rw [if_neg c2, if_neg c2]; simp
          · rw [if_neg c1, if_neg c1]; simp
/-- The pair, the one that precedes ahead. -/
def swapsB (a0 : Bool) (a1 a2 : Int) (a3 : ByteArray) (b0 : Bool) (b1 b2 : Int) (b3 : ByteArray) : Bool := recB a0 a1 a2 a3 && (recB b0 b1 b2 b3 && aheadB b0 b1 b2 b3 a0 a1 a2 a3)
theorem specPair_eq (a0 : Bool) (a1 a2 : Int) (a3 : ByteArray) (b0 : Bool) (b1 b2 : Int) (b3 : ByteArray) (ha : a3.size ≤ 1048576) (hb : b3.size ≤ 1048576) (k : Nat) (hk : 2 * b3.size + a3.size + 5 < k) :
    spec_RecPair.f k a0 a1 a2 a3 b0 b1 b2 b3 = some (if swapsB a0 a1 a2 a3 b0 b1 b2 b3 = true then (b0, b1, b2, b3, a0, a1, a2, a3) else (a0, a1, a2, a3, b0, b1, b2, b3)) := by
  unfold spec_RecPair.f
  rw [specAhead_eq _ _ _ _ _ _ _ _ hb ha k hk]
  simp only [Option.bind_some]
  have e : (recB b0 b1 b2 b3 && (recB a0 a1 a2 a3 && aheadB b0 b1 b2 b3 a0 a1 a2 a3)) = swapsB a0 a1 a2 a3 b0 b1 b2 b3 := by
    unfold swapsB
    cases recB b0 b1 b2 b3 <;> cases recB a0 a1 a2 a3 <;> rfl
  rw [e]
  cases swapsB a0 a1 a2 a3 b0 b1 b2 b3 <;> rfl
def ahR (x y : S26) : Bool := aheadB x.f0 x.f1 x.f2 x.f3 y.f0 y.f1 y.f2 y.f3
def swapQ (x : S87) (l : List S26) : List S26 := if ahR (rd_T26 l x.f1) (rd_T26 l x.f0) = true then (l.set x.f0.toNat (rd_T26 l x.f1)).set x.f1.toNat (rd_T26 l x.f0) else l
def runQ : List S87 → List S26 → List S26
  | [], l => l
  | x :: ws, l => runQ ws (swapQ x l)
theorem swapQ_len (x : S87) (l : List S26) : (swapQ x l).length = l.length := by unfold swapQ; split <;> simp
theorem runQ_len : ∀ (ws : List S87) (l : List S26), (runQ ws l).length = l.length
  | [], l => rfl
  | x :: ws, l => by unfold runQ; rw [runQ_len ws, swapQ_len]
def inW (n : Nat) (ws : List S87) : Prop := ∀ x, x ∈ ws → 0 ≤ x.f0 ∧ x.f0 < x.f1 ∧ x.f1 < (n : Int)
theorem netB_in (n : Int) (ws : List S87) (h : netB n ws = true) : 1 ≤ n ∧ n ≤ 64 ∧ ws.length ≤ 2100 ∧ inW n.toNat ws := by
  simp only [netB, Bool.and_eq_true, decide_eq_true_eq, Bool.not_eq_true', List.any_eq_false] at h
  obtain ⟨⟨h1, h2⟩, h3, h4⟩ := h
  refine ⟨h1, h2, h3, fun x hx => ?_⟩
  have := h4 x hx
  simp [badW] at this
  omega
theorem rd26_mem (l : List S26) (i : Int) (h0 : 0 ≤ i) (h1 : i < (l.length : Int)) : rd_T26 l i ∈ l := by
  obtain ⟨j, rfl⟩ := Int.eq_ofNat_of_zero_le h0
  rw [rd26 l j (by omega)]
  exact List.getElem_mem _
theorem swapQ_mem (x : S87) (l : List S26) (h : 0 ≤ x.f0 ∧ x.f0 < x.f1 ∧ x.f1 < (l.length : Int)) (y : S26) (hy : y ∈ swapQ x l) : y ∈ l := by
  unfold swapQ at hy
  split at hy
  · rcases List.mem_or_eq_of_mem_set hy with hy | rfl
    · rcases List.mem_or_eq_of_mem_set hy with hy | rfl
      · exact hy
      · exact rd26_mem l _ (by omega) (by omega)
    · exact rd26_mem l _ (by omega) (by omega)
  · exact hy
theorem runR_eq : ∀ (ws : List S87) (l : List S26), inW l.length ws → runR ws l = some (runQ ws l)
  | [], l, _ => rfl
  | x :: ws, l, h => by
    have hx := h x (by simp)
    have e : swapR x l = some (swapQ x l) := by
      unfold swapR swapQ
      rw [if_pos ⟨by omega, by omega, by omega, by omega⟩, isAhead_eq _ _ _ _ _ _ _ _ 6 (by omega)]
      simp only [Option.bind_some]
      unfold ahR
      split <;> rfl
    unfold runR runQ
    rw [e]
    simp only [Option.bind_some]
    exact runR_eq ws _ (by rw [swapQ_len]; exact fun y hy => h y (by simp [hy]))
theorem set_selfR (l : List S26) (i : Nat) (hi : i < l.length) : l.set i (rd_T26 l (i : Int)) = l := by
  simp [rd_T26, hi]
theorem specRB_l0 (n : Int) (N : Nat) (hN : N ≤ 1048576) (ws : List S87) (hw : ws.length ≤ 1048576) : ∀ (d k i : Nat) (l : List S26), inW l.length ws → (∀ y, y ∈ l → recR y = true ∧ y.f3.size ≤ N) → i ≤ ws.length → ws.length - i = d → d + 3 * N + 6 < k → spec_RankBy.l0 k l (i : Int) n ws = some (runQ (ws.drop i) l) := by
  intro d
  induction d with
  | zero =>
    intro k i l hin hf hi hd hk
    obtain ⟨k, rfl⟩ : ∃ m, k = m + 1 := ⟨k - 1, by omega⟩
    simp only [spec_RankBy.l0]
    rw [if_neg (by omega), List.drop_eq_nil_of_le (by omega)]; rfl
  | succ d ih =>
    intro k i l hin hf hi hd hk
    obtain ⟨k, rfl⟩ : ∃ m, k = m + 1 := ⟨k - 1, by omega⟩
    have hlt : i < ws.length := by omega
    have hx := hin ws[i] (by simp)
    simp only [spec_RankBy.l0]
    rw [rd87 ws i hlt, if_pos (by omega), if_pos (by omega), if_pos (by omega), if_pos (by omega), if_pos (by omega), if_pos (by omega)]
    rw [List.drop_eq_getElem_cons hlt]
    generalize ws[i] = x at hx
    have ma := hf _ (rd26_mem l x.f0 (by omega) (by omega))
    have mb := hf _ (rd26_mem l x.f1 (by omega) (by omega))
    rw [specPair_eq _ _ _ _ _ _ _ _ (by omega) (by omega) _ (by omega)]
    have es : swapsB (rd_T26 l x.f0).f0 (rd_T26 l x.f0).f1 (rd_T26 l x.f0).f2 (rd_T26 l x.f0).f3 (rd_T26 l x.f1).f0 (rd_T26 l x.f1).f1 (rd_T26 l x.f1).f2 (rd_T26 l x.f1).f3 = ahR (rd_T26 l x.f1) (rd_T26 l x.f0) := by
      unfold swapsB ahR
      rw [show recB (rd_T26 l x.f0).f0 (rd_T26 l x.f0).f1 (rd_T26 l x.f0).f2 (rd_T26 l x.f0).f3 = true from ma.1, show recB (rd_T26 l x.f1).f0 (rd_T26 l x.f1).f1 (rd_T26 l x.f1).f2 (rd_T26 l x.f1).f3 = true from mb.1]
      rfl
    rw [es]
    simp only [Option.bind_some]
    have ew : ∀ (b : Bool), b = ahR (rd_T26 l x.f1) (rd_T26 l x.f0) → (if b = true then (l.set x.f0.toNat (rd_T26 l x.f1)).set x.f1.toNat (rd_T26 l x.f0) else (l.set x.f0.toNat (rd_T26 l x.f0)).set x.f1.toNat (rd_T26 l x.f1)) = swapQ x l := by
      rintro b rfl
      unfold swapQ
      split
      · rfl
      · obtain ⟨i, hi⟩ := Int.eq_ofNat_of_zero_le hx.1
        obtain ⟨j, hj⟩ := Int.eq_ofNat_of_zero_le (show 0 ≤ x.f1 by omega)
        rw [hi, hj]
        simp only [Int.toNat_natCast]
        rw [set_selfR l i (by omega), set_selfR l j (by omega)]
    have step := ih k (i + 1) (swapQ x l) (by rw [swapQ_len]; exact hin) (fun y hy => hf y (swapQ_mem x l hx y hy)) (by omega) (by omega) (by omega)
    have ew2 := ew _ rfl
    clear ew
    unfold runQ
    rw [← step, ← ew2, wr1 i (by omega)]
    cases ahR (rd_T26 l x.f1) (rd_T26 l x.f0) <;> rfl
def rankedBy (n : Int) (ws : List S87) (l : List S26) : List S26 := if netB n ws = true ∧ recsB l = true ∧ (l.length : Int) = n then runQ ws l else []
theorem rankedBy_len (n : Int) (ws : List S87) (l : List S26) : (rankedBy n ws l).length ≤ l.length := by
  unfold rankedBy
  split
  · rw [runQ_len]; omega
  · simp
theorem iRankBy (n : Int) (ws : List S87) (l : List S26) (N : Nat) (hN : N ≤ 1048576) (hf : fine N l) : impl_RankBy.f n ws l = some (rankedBy n ws l) := by
  unfold impl_RankBy.f rankedBy
  rw [isNet_eq]
  simp only [Option.bind_some]
  by_cases c : netB n ws = true
  · obtain ⟨h1, h2, h3, h4⟩ := netB_in n ws c
    rw [if_pos c, areRecs_eq l N hN hf]
    simp only [Option.bind_some]
    by_cases c1 : recsB l = true
    · rw [if_pos c1]
      by_cases c2 : (l.length : Int) = n
      · rw [if_pos c2, if_pos ⟨c, c1, c2⟩]
        unfold impl_rankBy.f
        rw [if_pos (by omega), runR_eq ws l (by rw [show l.length = n.toNat by omega]; exact h4)]; rfl
      · rw [if_neg c2, if_neg (fun h => c2 h.2.2)]
    · rw [if_neg c1, if_neg (fun h => c1 h.2.1)]
  · rw [if_neg c, if_neg (fun h => c h.1)]
theorem sRankBy (n : Int) (ws : List S87) (l : List S26) (N : Nat) (hN : N ≤ 1048576) (hf : fine N l) (hw : ws.length ≤ 1048576) (hl : l.length ≤ 1048576) (k : Nat) (hk : ws.length + l.length + 3 * N + 12 < k) : spec_RankBy.f k n ws l = some (rankedBy n ws l) := by
  obtain ⟨k, rfl⟩ : ∃ m, k = m + 1 := ⟨k - 1, by omega⟩
  unfold spec_RankBy.f rankedBy
  rw [netOk_eq n ws hw _ (by omega)]
  simp only [Option.bind_some]
  by_cases c : netB n ws = true
  · obtain ⟨h1, h2, h3, h4⟩ := netB_in n ws c
    rw [if_pos c, recsOk_eq l N hN hf hl _ (by omega)]
    simp only [Option.bind_some]
    by_cases c1 : recsB l = true
    · rw [if_pos c1]
      by_cases c2 : (l.length : Int) = n
      · rw [if_pos ⟨c, c1, c2⟩, show ((l.length : Int) != n) = false by simp [c2]]
        simp only [spec_RankBy.j0]
        rw [if_neg (by decide)]
        simp only [Option.bind_some]
        rw [if_pos (by simp; omega)]
        have ha : ∀ y, y ∈ l → recR y = true ∧ y.f3.size ≤ N := by
          intro y hy
          refine ⟨?_, hf y hy⟩
          unfold recsB at c1
          simp only [Bool.and_eq_true, List.all_eq_true] at c1
          exact c1.2 y hy
        have := specRB_l0 n N hN ws hw ws.length k 0 l (by rw [show l.length = n.toNat by omega]; exact h4) ha (by omega) (by omega) (by omega)
        simpa using this
      · rw [show ((l.length : Int) != n) = true by simp [c2], if_neg (fun h => c2 h.2.2)]
        simp [spec_RankBy.j0]
    · rw [if_neg c1, if_neg (fun h => c1 h.2.1)]
      simp [spec_RankBy.j0]
  · rw [if_neg c, if_neg (fun h => c h.1)]
    simp [spec_RankBy.j0]
def mkW (n : Nat) : List S87 := (List.range n).map fun (i : Nat) => ⟨1 + 2 * (i : Int), 2 + 2 * (i : Int)⟩
theorem mkW_length (n : Nat) : (mkW n).length = n := by simp [mkW]
theorem mkW_get (n i : Nat) (h : i < (mkW n).length) : (mkW n)[i] = ⟨1 + 2 * (i : Int), 2 + 2 * (i : Int)⟩ := by simp [mkW]
theorem markW_step (x : List S87) (n i : Nat) (hi : i < n) (hx : x.length = n) (h : x.take i = (mkW n).take i) : (x.set i ⟨1 + 2 * (i : Int), 2 + 2 * (i : Int)⟩).take (i + 1) = (mkW n).take (i + 1) := by
  rw [List.take_add_one, List.take_add_one, List.take_set_of_le (Nat.le_refl _), h]
  have h2 : i < (mkW n).length := by rw [mkW_length]; exact hi
  rw [List.getElem?_eq_getElem h2, mkW_get]
  simp [hi, hx]
theorem markW_l0 (n : Nat) (hn : n ≤ 1048576) : ∀ (d k i : Nat) (x : List S87), x.length = n → i ≤ n → n - i = d → d < k → x.take i = (mkW n).take i →
    laws_markWireS.l0 k x (1 + 2 * (i : Int)) (i : Int) = some (1 + 2 * (n : Int), mkW n) := by
  intro d
  induction d with
  | zero =>
    intro k i x hx hi hd hk h
    obtain ⟨k, rfl⟩ : ∃ m, k = m + 1 := ⟨k - 1, by omega⟩
    simp only [laws_markWireS.l0]
    rw [if_neg (by omega)]
    rw [List.take_of_length_le (by omega), List.take_of_length_le (by rw [mkW_length]; omega)] at h
    rw [h, show (i : Int) = (n : Int) from by omega]
  | succ d ih =>
    intro k i x hx hi hd hk h
    obtain ⟨k, rfl⟩ : ∃ m, k = m + 1 := ⟨k - 1, by omega⟩
    simp only [laws_markWireS.l0]
    rw [if_pos (by omega), if_pos (by omega)]
    simp only [Option.bind_some]
    have hlx : i < x.length := by omega
    rw [Int.toNat_natCast, rd87 x i hlx, rd87 (x.set i ⟨1 + 2 * (i : Int), (x[i]).f1⟩) i (by rw [List.length_set]; exact hlx)]
    simp only [List.getElem_set_self, List.set_set]
    rw [show wrap64 (1 + 2 * (i : Int) + 1) = 2 + 2 * (i : Int) from by unfold wrap64; omega, show wrap64 (2 + 2 * (i : Int) + 1) = 1 + 2 * ((i + 1 : Nat) : Int) from by unfold wrap64; omega, wr1 i (by omega)]
    exact ih k (i + 1) _ (by simp [hx]) (by omega) (by omega) (by omega) (markW_step x n i (by omega) hx h)
theorem markNet_eq (n : Int) (l : List S87) (hl : l.length ≤ 1048576) (k : Nat) (hk : l.length < k) : laws_markNet.f k n l 1 = some (1 + 2 * (l.length : Int), mkW l.length) := by
  unfold laws_markNet.f laws_markWireS.f
  have := markW_l0 l.length hl l.length k 0 l rfl (by omega) (by omega) hk rfl
  rw [show ((0 : Nat) : Int) = 0 from rfl] at this
  rw [show (1 : Int) + 2 * 0 = 1 from rfl] at this
  rw [this]; rfl
theorem FnExactRankBy (x0 : S54) (w0 : ok54 x0) (l1 : (List S23)) (w1 : (l1.length ≤ maxLen ∧ ∀ y, y ∈ l1 → ok23 y)) : ∃ k, laws_FnExactRankBy.f k x0.f0 x0.f1 l1 = some true := by
  obtain ⟨n, l⟩ := x0
  obtain ⟨_, hl, _⟩ := w0
  simp only at hl ⊢
  refine ⟨l.length + l1.length + 3 * dat l1 + 100, ?_⟩
  unfold laws_FnExactRankBy.f
  rw [szNet_eq n l hl 1048576 (by omega) (by omega)]
  simp only [Option.bind_some]
  by_cases c : (1048576 : Int) < (l.length : Int)
  · rw [if_pos c, if_pos (by omega)]
  rw [if_neg c, if_neg (by omega), szRecS_eq l1 w1 _ (by omega) _ (by omega) (by omega)]
  simp only [Option.bind_some]
  by_cases c2 : (1048576 : Int) - (l.length : Int) < ((l1.length + dat l1 : Nat) : Int)
  · rw [if_pos c2, if_pos (by omega)]
  have hw : (l.map cvW).length = l.length := List.length_map _
  have hl1 : (l1.map cv).length = l1.length := by simp
  have hf := fine_map l1
  have ht : ∀ k, l1.length < k → laws_toRecS.f k l1 = some (l1.map cv) := fun k hk => toRecS_eq l1 (by omega) k hk
  have hn : ∀ k, l.length < k → laws_toNet.f k n l = some (n, l.map cvW) := fun k hk => toNet_eq n l (by omega) k hk
  rw [if_neg c2, if_neg (by omega), hn _ (by omega)]
  simp only [Option.bind_some]
  rw [ht _ (by omega)]
  simp only [Option.bind_some]
  generalize l1.map cv = r at hl1 hf ht
  generalize l.map cvW = ws at hw hn
  rw [sRankBy n ws r (dat l1) (by omega) hf (by omega) (by omega) _ (by omega), iRankBy n ws r (dat l1) (by omega) hf]
  simp only [Option.bind_some]
  have hi := iRankBy n ws r (dat l1) (by omega) hf
  have hq := rankedBy_len n ws r
  generalize rankedBy n ws r = q at hi hq
  rw [eqRecS_eq q (by omega) _ (by omega)]
  simp only [Option.bind_some, if_true]
  rw [eqNet_eq n ws (by omega) _ (by omega)]
  simp only [Option.bind_some, if_true]
  rw [eqRecS_eq r (by omega) _ (by omega)]
  simp only [Option.bind_some, if_true]
  rw [markNet_eq n ws (by omega) _ (by omega)]
  simp only [Option.bind_some]
  rw [markR_eq _ r (by omega) (by omega) (by omega) _ (by omega)]
  simp only [Option.bind_some]
  rw [if_neg (by omega)]
  show laws_FnExactRankBy.j0 (l.length + l1.length + 3 * dat l1 + 99 + 1) l1 q q (!true) n l = some true
  simp only [laws_FnExactRankBy.j0]
  rw [if_neg (by decide), markR_eq 1 q (by omega) (by omega) (by omega) _ (by omega)]
  simp only [Option.bind_some]
  rw [heldR_eq _ (by omega) _ (by omega)]
  simp only [Option.bind_some]
  rw [if_neg (by omega), if_pos trivial, hn _ (by omega)]
  simp only [Option.bind_some]
  rw [ht _ (by omega)]
  simp only [Option.bind_some]
  rw [hi]
  simp only [Option.bind_some]
  rw [eqRecS_eq q (by omega) _ (by omega)]
  simp only [Option.bind_some, if_true]
  rw [if_neg (by omega)]

end Go.Proofs.Ytmhikpfaoacgpaa.Pure

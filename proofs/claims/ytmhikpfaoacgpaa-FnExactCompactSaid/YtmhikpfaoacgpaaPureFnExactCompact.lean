/- For every list of records, the program's Compact returns the list that the reference's Compact returns, in memory of its own; conditions: none. -/
import Derived.Test.YtmhikpfaoacgpaaOpenFnExactCompact
namespace Go.Proofs.Ytmhikpfaoacgpaa.Pure
open Go.RowKit Go.Proofs.Ytmhikpfaoacgpaa.OpenFnExactCompact Go.Proofs.Ytmhikpfaoacgpaa.RowOpen Go.Proofs.Ytmhikpfaoacgpaa.PFnExactCompact Go.Proofs.YtmhikpfaoacgpaaW.PrintWords Go.Proofs.YtmhikpfaoacgpaaW.PrintLast Go.Proofs.YtmhikpfaoacgpaaW.PrintMore
set_option linter.unusedVariables false
set_option linter.unusedSimpArgs false

def letB (c : Int) : Bool := decide (97 ≤ c) && decide (c ≤ 122)
/-- Are the d bytes from i on letters? -/
def lets (s : ByteArray) : Nat → Nat → Bool
  | 0, _ => true
  | d + 1, i => letB (bt s (i : Int)) && lets s d (i + 1)
theorem lets_succ (s : ByteArray) (d i : Nat) : lets s (d + 1) i = (letB (bt s (i : Int)) && lets s d (i + 1)) := rfl
def wordB (s : ByteArray) : Bool := decide (1 ≤ s.size) && (decide (s.size ≤ 32) && lets s s.size 0)
theorem wr1w (i : Nat) (h : i ≤ 1048576) : wrap64 ((i : Int) + 1) = ((i + 1 : Nat) : Int) := by unfold wrap64; omega
theorem wordOk_l0 (s : ByteArray) (hs : s.size ≤ 1048576) : ∀ (d k i : Nat), s.size = i + d → d < k → spec_WordOk.l0 k s (i : Int) = some (lets s d i) := by
  intro d
  induction d with
  | zero =>
    intro k i hi hk
    obtain ⟨k, rfl⟩ : ∃ m, k = m + 1 := ⟨k - 1, by omega⟩
    simp only [spec_WordOk.l0]
    rw [if_neg (by omega)]; rfl
  | succ d ih =>
    intro k i hi hk
    obtain ⟨k, rfl⟩ : ∃ m, k = m + 1 := ⟨k - 1, by omega⟩
    simp only [spec_WordOk.l0]
    rw [if_pos (by omega), if_pos (by omega), wr1w i (by omega), ih k (i + 1) (by omega) (by omega)]
    rw [lets_succ]
    unfold letB
    by_cases c1 : bt s (i : Int) < 97
    · rw [if_pos c1, decide_eq_false (by omega)]; rfl
    · rw [if_neg c1, decide_eq_true (show 97 ≤ bt s (i : Int) by omega)]
      by_cases c2 : bt s (i : Int) > 122
      · rw [if_pos c2, decide_eq_false (by omega)]; rfl
      · rw [if_neg c2, decide_eq_true (show bt s (i : Int) ≤ 122 by omega)]; rfl
theorem wordOk_eq (s : ByteArray) (hs : s.size ≤ 1048576) (k : Nat) (hk : s.size + 1 < k) : spec_WordOk.f k s = some (wordB s) := by
  obtain ⟨k, rfl⟩ : ∃ m, k = m + 1 := ⟨k - 1, by omega⟩
  unfold spec_WordOk.f wordB
  by_cases c1 : (s.size : Int) < 1
  · rw [if_pos c1, decide_eq_false (by omega)]
    simp [spec_WordOk.j0]
  · rw [if_neg c1, decide_eq_true (show 1 ≤ s.size by omega)]
    by_cases c2 : (s.size : Int) > 32
    · rw [decide_eq_true c2, decide_eq_false (show ¬ s.size ≤ 32 by omega)]
      simp [spec_WordOk.j0]
    · rw [decide_eq_false c2, decide_eq_true (show s.size ≤ 32 by omega)]
      simp only [spec_WordOk.j0]
      have := wordOk_l0 s hs s.size k 0 (by omega) (by omega)
      rw [show ((0 : Nat) : Int) = 0 from rfl] at this
      rw [if_neg (by decide), this]; rfl
theorem within_eq (a b c : Int) : impl_within.f a b c = some (decide (b ≤ a) && decide (a ≤ c)) := by
  unfold impl_within.f
  by_cases c1 : a ≥ b
  · rw [if_pos c1, decide_eq_true (show b ≤ a from c1)]; rfl
  · rw [if_neg c1, decide_eq_false (show ¬ b ≤ a from c1)]; rfl
theorem isWord_l0 (s : ByteArray) (hs : s.size ≤ 1048576) : ∀ (d k i : Nat), s.size = i + d → d < k → impl_isWord.l0 k s (s.size : Int) (i : Int) = some (lets s d i && (decide (1 ≤ s.size) && decide (s.size ≤ 32))) := by
  intro d
  induction d with
  | zero =>
    intro k i hi hk
    obtain ⟨k, rfl⟩ : ∃ m, k = m + 1 := ⟨k - 1, by omega⟩
    simp only [impl_isWord.l0]
    rw [if_neg (by omega), within_eq]
    simp only [Option.bind_some, lets, Bool.true_and]
    congr 2
    · exact decide_eq_decide.2 (by omega)
    · exact decide_eq_decide.2 (by omega)
  | succ d ih =>
    intro k i hi hk
    obtain ⟨k, rfl⟩ : ∃ m, k = m + 1 := ⟨k - 1, by omega⟩
    simp only [impl_isWord.l0]
    rw [if_pos (by omega), if_pos (by omega), if_pos (by omega), wr1w i (by omega), ih k (i + 1) (by omega) (by omega)]
    rw [lets_succ]
    unfold letB
    by_cases c1 : bt s (i : Int) < 97
    · rw [if_pos c1, decide_eq_false (by omega)]; rfl
    · rw [if_neg c1, decide_eq_true (show 97 ≤ bt s (i : Int) by omega)]
      by_cases c2 : bt s (i : Int) > 122
      · rw [if_pos c2, decide_eq_false (by omega)]; rfl
      · rw [if_neg c2, decide_eq_true (show bt s (i : Int) ≤ 122 by omega)]; rfl
theorem isWord_eq (s : ByteArray) (hs : s.size ≤ 1048576) (k : Nat) (hk : s.size < k) : impl_isWord.f k s = some (wordB s) := by
  unfold impl_isWord.f wordB
  have := isWord_l0 s hs s.size k 0 (by omega) hk
  rw [show ((0 : Nat) : Int) = 0 from rfl] at this
  rw [this]
  congr 1
  cases lets s s.size 0 <;> cases decide (1 ≤ s.size) <;> cases decide (s.size ≤ 32) <;> rfl
def zeroB (a : Bool) (d w : Int) (s : ByteArray) : Bool := !a && (d == 0 && (w == 0 && (s.toList == ([] : List UInt8))))
def recB (a : Bool) (d w : Int) (s : ByteArray) : Bool := zeroB a d w s || (a && ((decide (0 ≤ d) && decide (d ≤ 7)) && ((decide (0 ≤ w) && decide (w ≤ 65535)) && wordB s)))
theorem recOk_eq (a : Bool) (d w : Int) (s : ByteArray) (hs : s.size ≤ 1048576) (k : Nat) (hk : s.size + 1 < k) : spec_RecOk.f k a d w s = some (recB a d w s) := by
  unfold spec_RecOk.f spec_l09Empty.f recB
  simp only [Option.bind_some]
  rw [show (!a && (d == 0 && (w == 0 && (s.toList == ([] : List UInt8))))) = zeroB a d w s from rfl]
  cases zeroB a d w s with
  | true => rfl
  | false =>
    rw [if_neg (by decide)]
    cases a with
    | false => rfl
    | true =>
      rw [if_pos rfl]
      by_cases c1 : d ≥ 0
      · rw [if_pos c1, decide_eq_true (show 0 ≤ d from c1)]
        by_cases c2 : d ≤ 7
        · rw [if_pos c2, decide_eq_true c2]
          by_cases c3 : w ≥ 0
          · rw [if_pos c3, decide_eq_true (show 0 ≤ w from c3)]
            by_cases c4 : w ≤ 65535
            · rw [if_pos c4, decide_eq_true c4, wordOk_eq s hs k hk]; rfl
            · rw [if_neg c4, decide_eq_false c4]; rfl
          · rw [if_neg c3, decide_eq_false (show ¬ 0 ≤ w from c3)]; rfl
        · rw [if_neg c2, decide_eq_false c2]; rfl
      · rw [if_neg c1, decide_eq_false (show ¬ 0 ≤ d from c1)]; rfl
theorem isRec_eq (a : Bool) (d w : Int) (s : ByteArray) (hs : s.size ≤ 1048576) (k : Nat) (hk : s.size < k) : impl_isRec.f k a d w s = some (recB a d w s) := by
  unfold impl_isRec.f recB
  rw [show (!a && (d == 0 && (w == 0 && (s.toList == ([] : List UInt8))))) = zeroB a d w s from rfl]
  cases zeroB a d w s with
  | true => rfl
  | false =>
    rw [if_neg (by decide)]
    cases a with
    | false => rfl
    | true =>
      rw [if_pos rfl, within_eq, within_eq]
      simp only [Option.bind_some]
      cases (decide (0 ≤ d) && decide (d ≤ 7)) with
      | false => rfl
      | true =>
        rw [if_pos rfl]
        cases (decide (0 ≤ w) && decide (w ≤ 65535)) with
        | false => rfl
        | true =>
          rw [if_pos rfl, isWord_eq s hs k hk]; rfl
theorem sz_rec (a : Bool) (d w : Int) (s : ByteArray) (h : s.size ≤ maxLen) (left : Int) (h0 : 0 ≤ left) (h1 : left ≤ 1048576) : laws_szRec.f a d w s left = some (if left < (s.size : Int) then -1 else left - (s.size : Int)) := by
  unfold maxLen at h
  unfold laws_szRec.f
  rw [show wrap64 (left - (s.size : Int)) = left - (s.size : Int) from by unfold wrap64; omega]
  by_cases c : left < (s.size : Int)
  · rw [if_pos c, if_pos (by omega)]
  · rw [if_neg c, if_neg (by omega)]
def cv (x : S23) : S26 := ⟨x.f0, x.f1, x.f2, x.f3⟩
def dat (l : List S23) : Nat := (l.map fun x => x.f3.size).sum
theorem dat_cons (x : S23) (l : List S23) : dat (x :: l) = x.f3.size + dat l := by simp [dat]
theorem dat_mem : ∀ (l : List S23) (i : Nat) (h : i < l.length), (l[i]).f3.size ≤ dat l
  | x :: l, 0, _ => by rw [dat_cons]; simp
  | x :: l, i + 1, h => by
    rw [dat_cons]
    have := dat_mem l i (by simpa using h)
    simp only [List.getElem_cons_succ]
    omega
theorem rd23 (l : List S23) (i : Nat) (h : i < l.length) : rd_T23 l (i : Int) = l[i] := by simp [rd_T23, h]
theorem rd26 (l : List S26) (i : Nat) (h : i < l.length) : rd_T26 l (i : Int) = l[i] := by simp [rd_T26, h]
theorem szRecS_l0 (l : List S23) (hl : ∀ y, y ∈ l → y.f3.size ≤ maxLen) (hlen : l.length ≤ 1048576) : ∀ (d k i : Nat) (left : Int), i ≤ l.length → l.length - i = d → d < k → 0 ≤ left → left ≤ 1048576 →
    laws_szRecS.l0 k l left (i : Int) = some (if left < (dat (l.drop i) : Int) then -1 else left - (dat (l.drop i) : Int)) := by
  intro d
  induction d with
  | zero =>
    intro k i left hi hd hk h0 h1
    obtain ⟨k, rfl⟩ : ∃ m, k = m + 1 := ⟨k - 1, by omega⟩
    simp only [laws_szRecS.l0]
    rw [if_neg (by omega), List.drop_eq_nil_of_le (by omega)]
    have e : dat [] = 0 := rfl
    rw [e, if_neg (by omega)]
    simp
  | succ d ih =>
    intro k i left hi hd hk h0 h1
    obtain ⟨k, rfl⟩ : ∃ m, k = m + 1 := ⟨k - 1, by omega⟩
    have hlt : i < l.length := by omega
    simp only [laws_szRecS.l0]
    rw [if_pos (by omega), if_pos (by omega), rd23 l i hlt, sz_rec _ _ _ _ (hl _ (List.getElem_mem hlt)) left h0 h1, List.drop_eq_getElem_cons hlt, dat_cons]
    simp only [Option.bind_some]
    by_cases c : left < ((l[i]).f3.size : Int)
    · rw [if_pos c, if_pos (by omega), if_pos (by omega)]
    · rw [if_neg c, if_neg (by omega), wr1w i (by omega), ih k (i + 1) _ (by omega) (by omega) (by omega) (by omega) (by omega)]
      congr 1
      by_cases c2 : left - ((l[i]).f3.size : Int) < (dat (l.drop (i + 1)) : Int)
      · rw [if_pos c2, if_pos (by omega)]
      · rw [if_neg c2, if_neg (by omega)]; omega
theorem szRecS_eq (l : List S23) (hl : l.length ≤ maxLen ∧ ∀ y, y ∈ l → ok23 y) (k : Nat) (hk : l.length < k) (left : Int) (h0 : 0 ≤ left) (h9 : left ≤ 1048576) :
    laws_szRecS.f k l left = some (if left < ((l.length + dat l : Nat) : Int) then -1 else left - ((l.length + dat l : Nat) : Int)) := by
  have h1 := hl.1
  unfold maxLen at h1
  unfold laws_szRecS.f
  rw [show wrap64 (left - (l.length : Int)) = left - (l.length : Int) from by unfold wrap64; omega]
  by_cases c : left < (l.length : Int)
  · rw [if_pos (by omega), if_pos (by omega)]
  · rw [if_neg (by omega)]
    have := szRecS_l0 l (fun y hy => (hl.2 y hy).2.2.2) (by omega) l.length k 0 (left - (l.length : Int)) (by omega) (by omega) hk (by omega) (by omega)
    rw [List.drop_zero] at this
    rw [show ((0 : Nat) : Int) = 0 from rfl] at this
    rw [this]
    congr 1
    by_cases c2 : left < ((l.length + dat l : Nat) : Int)
    · rw [if_pos c2, if_pos (by omega)]
    · rw [if_neg c2, if_neg (by omega)]; omega
theorem take_setR (x : List S26) (l : List S23) (i : Nat) (hi : i < l.length) (hx : x.length = l.length) (h : x.take i = (l.map cv).take i) : (x.set i (cv l[i])).take (i + 1) = (l.map cv).take (i + 1) := by
  rw [List.take_add_one, List.take_add_one, List.take_set_of_le (Nat.le_refl _), h]
  simp [hi, hx]
theorem toRecS_l0 (l : List S23) (hl : l.length ≤ 1048576) : ∀ (d k i : Nat) (x : List S26), x.length = l.length → i ≤ l.length → l.length - i = d → d < k → x.take i = (l.map cv).take i →
    laws_toRecS.l0 k l x (i : Int) = some (l.map cv) := by
  intro d
  induction d with
  | zero =>
    intro k i x hx hi hd hk h
    obtain ⟨k, rfl⟩ : ∃ m, k = m + 1 := ⟨k - 1, by omega⟩
    simp only [laws_toRecS.l0]
    rw [if_neg (by omega)]
    rw [List.take_of_length_le (by omega), List.take_of_length_le (by simp; omega)] at h
    rw [h]
  | succ d ih =>
    intro k i x hx hi hd hk h
    obtain ⟨k, rfl⟩ : ∃ m, k = m + 1 := ⟨k - 1, by omega⟩
    have hlt : i < l.length := by omega
    simp only [laws_toRecS.l0]
    unfold laws_toRec.f
    simp only [Option.bind_some]
    rw [if_pos (by omega), if_pos (by omega), if_pos (by omega), rd23 l i hlt, wr1w i (by omega), Int.toNat_natCast]
    exact ih k (i + 1) _ (by simp [hx]) (by omega) (by omega) (by omega) (take_setR x l i hlt hx h)
theorem toRecS_eq (l : List S23) (hl : l.length ≤ 1048576) (k : Nat) (hk : l.length < k) : laws_toRecS.f k l = some (l.map cv) := by
  unfold laws_toRecS.f
  rw [if_pos (by omega), if_pos (by omega)]
  exact toRecS_l0 l hl l.length k 0 _ (by simp) (by omega) (by omega) hk rfl
theorem eqRec_eq (a0 : Bool) (a1 a2 : Int) (a3 : ByteArray) : laws_eqRec.f a0 a1 a2 a3 a0 a1 a2 a3 = some true := by
  unfold laws_eqRec.f
  simp
theorem eqRecS_l0 (l : List S26) (hl : l.length ≤ 1048576) : ∀ (d k i : Nat), i ≤ l.length → l.length - i = d → d < k → laws_eqRecS.l0 k l l (i : Int) = some true := by
  intro d
  induction d with
  | zero =>
    intro k i hi hd hk
    obtain ⟨k, rfl⟩ : ∃ m, k = m + 1 := ⟨k - 1, by omega⟩
    simp only [laws_eqRecS.l0]
    rw [if_neg (by omega)]
  | succ d ih =>
    intro k i hi hd hk
    obtain ⟨k, rfl⟩ : ∃ m, k = m + 1 := ⟨k - 1, by omega⟩
    have hlt : i < l.length := by omega
    simp only [laws_eqRecS.l0]
    rw [if_pos (by omega), if_pos (by omega), if_pos (by omega), eqRec_eq, wr1w i (by omega), ih k (i + 1) (by omega) (by omega) (by omega)]
    rfl
theorem eqRecS_eq (l : List S26) (hl : l.length ≤ 1048576) (k : Nat) (hk : l.length < k) : laws_eqRecS.f k l l = some true := by
  unfold laws_eqRecS.f
  rw [if_pos rfl]
  exact eqRecS_l0 l hl l.length k 0 (by omega) (by omega) hk
/-- The words of the records are short enough to be told. -/
def fine (N : Nat) (l : List S26) : Prop := ∀ x, x ∈ l → x.f3.size ≤ N
theorem fine_map (l : List S23) : fine (dat l) (l.map cv) := by
  intro x hx
  obtain ⟨y, hy, rfl⟩ := List.mem_map.1 hx
  obtain ⟨i, hi, rfl⟩ := List.getElem_of_mem hy
  exact dat_mem l i hi
def recR (x : S26) : Bool := recB x.f0 x.f1 x.f2 x.f3
def recsB (l : List S26) : Bool := decide (l.length ≤ 64) && l.all recR
theorem recsOk_l0 (l : List S26) (N : Nat) (hN : N ≤ 1048576) (hf : fine N l) (hl : l.length ≤ 1048576) : ∀ (d k i : Nat), i ≤ l.length → l.length - i = d → d + N + 2 < k → spec_RecsOk.l0 k l (i : Int) = some ((l.drop i).all recR) := by
  intro d
  induction d with
  | zero =>
    intro k i hi hd hk
    obtain ⟨k, rfl⟩ : ∃ m, k = m + 1 := ⟨k - 1, by omega⟩
    simp only [spec_RecsOk.l0]
    rw [if_neg (by omega), List.drop_eq_nil_of_le (by omega)]; rfl
  | succ d ih =>
    intro k i hi hd hk
    obtain ⟨k, rfl⟩ : ∃ m, k = m + 1 := ⟨k - 1, by omega⟩
    have hlt : i < l.length := by omega
    have hs := hf _ (List.getElem_mem hlt)
    simp only [spec_RecsOk.l0]
    rw [if_pos (by omega), if_pos (by omega), rd26 l i hlt, recOk_eq _ _ _ _ (by omega) k (by omega), List.drop_eq_getElem_cons hlt, List.all_cons]
    simp only [Option.bind_some]
    show (if recR l[i] = true then _ else _) = _
    cases recR l[i] with
    | false => rfl
    | true =>
      rw [if_pos rfl, wr1w i (by omega), ih k (i + 1) (by omega) (by omega) (by omega)]; rfl
theorem recsOk_eq (l : List S26) (N : Nat) (hN : N ≤ 1048576) (hf : fine N l) (hl : l.length ≤ 1048576) (k : Nat) (hk : l.length + N + 2 < k) : spec_RecsOk.f k l = some (recsB l) := by
  unfold spec_RecsOk.f recsB
  by_cases c : (l.length : Int) > 64
  · rw [if_pos c, decide_eq_false (by omega)]; rfl
  · rw [if_neg c, decide_eq_true (by omega)]
    have := recsOk_l0 l N hN hf hl l.length k 0 (by omega) (by omega) hk
    rw [show ((0 : Nat) : Int) = 0 from rfl, List.drop_zero] at this
    rw [this]; rfl
theorem badR_eq (x : S26) (h : x.f3.size ≤ 1048576) : badR x = some (!recR x) := by
  unfold badR recR
  rw [isRec_eq _ _ _ _ h _ (by omega)]; rfl
theorem idxR_eq (N : Nat) (hN : N ≤ 1048576) : ∀ (l : List S26) (i : Nat), fine N l → ∃ r, idxR l i = some r ∧ (!decide (0 ≤ r)) = l.all recR
  | [], i, _ => ⟨-1, rfl, rfl⟩
  | x :: l, i, hf => by
    have h1 := badR_eq x (by have := hf x (by simp); omega)
    obtain ⟨r, h2, h3⟩ := idxR_eq N hN l (i + 1) (fun y hy => hf y (by simp [hy]))
    unfold idxR
    rw [h1]
    simp only [Option.bind_some, List.all_cons]
    cases hr : recR x with
    | false =>
      refine ⟨(i : Int), rfl, ?_⟩
      rw [decide_eq_true (by omega)]; rfl
    | true => exact ⟨r, h2, by rw [h3]; rfl⟩
theorem areRecs_eq (l : List S26) (N : Nat) (hN : N ≤ 1048576) (hf : fine N l) : impl_areRecs.f l = some (recsB l) := by
  unfold impl_areRecs.f recsB
  by_cases c : l.length ≤ 64
  · obtain ⟨r, h2, h3⟩ := idxR_eq N hN l 0 hf
    rw [if_pos c, h2, decide_eq_true c]
    simp only [Option.bind_some]
    rw [h3]; rfl
  · rw [if_neg c, decide_eq_false c]; rfl
theorem markT_l0 : ∀ (d k : Nat) (n : Int) (s : ByteArray), 0 ≤ n → n ≤ 1000000000 → n < ((10 ^ d : Nat) : Int) → s.size + d ≤ 1000 → d < k → ∃ t, laws_markText.l0 k n s = some t := by
  intro d
  induction d with
  | zero =>
    intro k n s h0 h9 h1 hs hk
    obtain ⟨k, rfl⟩ : ∃ m, k = m + 1 := ⟨k - 1, by omega⟩
    simp only [laws_markText.l0]
    rw [if_neg (by simp at h1; omega), if_pos (by omega)]
    exact ⟨_, rfl⟩
  | succ d ih =>
    intro k n s h0 h9 h1 hs hk
    obtain ⟨k, rfl⟩ : ∃ m, k = m + 1 := ⟨k - 1, by omega⟩
    simp only [laws_markText.l0]
    by_cases c : n > 0
    · rw [if_pos c]
      simp only [Option.bind_some]
      have e : wrap64 (Int.tdiv n 10) = n / 10 := by
        rw [Int.tdiv_eq_ediv_of_nonneg h0]; unfold wrap64; omega
      rw [if_pos (by rw [strOfNums_size]; simp; omega), e]
      refine ih k _ _ (by omega) (by omega) ?_ ?_ (by omega)
      · rw [Nat.pow_succ] at h1; omega
      · rw [ByteArray.size_append, strOfNums_size]; simp; omega
    · rw [if_neg c, if_pos (by omega)]
      exact ⟨_, rfl⟩
def mtx (n : Int) : ByteArray := (laws_markText.f 30 n).getD (⟨#[]⟩ : ByteArray)
theorem markT_eq (n : Int) (h0 : 0 ≤ n) (h9 : n ≤ 1000000000) (k : Nat) (hk : 30 ≤ k) : laws_markText.f k n = some (mtx n) := by
  have h : ∃ t, laws_markText.f 30 n = some t := by
    unfold laws_markText.f
    by_cases c : n ≤ 0
    · rw [if_pos c]; exact ⟨_, rfl⟩
    · rw [if_neg c]
      exact markT_l0 10 30 n _ h0 h9 (by omega) (by decide) (by omega)
  obtain ⟨t, ht⟩ := h
  have e : mtx n = t := by unfold mtx; rw [ht]; rfl
  rw [e]
  exact at_rounds (g := fun k => laws_markText.f k n) (fun k => laws_markText.mono n k) hk ht
def mkE (a : Int) : S26 := ⟨Int.tmod a 3 == 0, a + 1, a + 2, mtx (a + 3)⟩
def mkR (a : Int) (n : Nat) : List S26 := (List.range n).map fun (i : Nat) => mkE (a + 4 * (i : Int))
theorem mkR_length (a : Int) (n : Nat) : (mkR a n).length = n := by simp [mkR]
theorem mkR_step (a : Int) (x : List S26) (n i : Nat) (hi : i < n) (hx : x.length = n) (h : x.take i = (mkR a n).take i) : (x.set i (mkE (a + 4 * (i : Int)))).take (i + 1) = (mkR a n).take (i + 1) := by
  rw [List.take_add_one, List.take_add_one, List.take_set_of_le (Nat.le_refl _), h]
  simp [hi, hx, mkR]
theorem rd_set26 (x : List S26) (i : Nat) (v : S26) (h : i < x.length) : rd_T26 (x.set i v) (i : Int) = v := by simp [rd_T26, h]
theorem markR_l0 (a : Int) (n : Nat) (hn : n ≤ 1048576) (ha0 : 0 ≤ a) (ha : a ≤ 16777216) : ∀ (d k i : Nat) (x : List S26), x.length = n → i ≤ n → n - i = d → d + 30 < k → x.take i = (mkR a n).take i →
    laws_markRecS.l0 k x (a + 4 * (i : Int)) (i : Int) = some (a + 4 * (n : Int), mkR a n) := by
  intro d
  induction d with
  | zero =>
    intro k i x hx hi hd hk h
    obtain ⟨k, rfl⟩ : ∃ m, k = m + 1 := ⟨k - 1, by omega⟩
    simp only [laws_markRecS.l0]
    rw [if_neg (by omega)]
    rw [List.take_of_length_le (by omega), List.take_of_length_le (by rw [mkR_length]; omega)] at h
    rw [h, show i = n by omega]
  | succ d ih =>
    intro k i x hx hi hd hk h
    obtain ⟨k, rfl⟩ : ∃ m, k = m + 1 := ⟨k - 1, by omega⟩
    simp only [laws_markRecS.l0]
    have hlx : i < x.length := by omega
    rw [if_pos (by omega), if_pos (by omega)]
    simp only [Option.bind_some, Int.toNat_natCast]
    have hs : ∀ v, rd_T26 (x.set i v) (i : Int) = v := fun v => rd_set26 x i v hlx
    simp only [hs, List.set_set]
    generalize hp : a + 4 * (i : Int) = p
    have w1 : wrap64 (p + 1) = p + 1 := by unfold wrap64; omega
    have w2 : wrap64 (p + 1 + 1) = p + 2 := by unfold wrap64; omega
    have w3 : wrap64 (p + 2 + 1) = p + 3 := by unfold wrap64; omega
    have w4 : wrap64 (p + 3 + 1) = a + 4 * ((i + 1 : Nat) : Int) := by unfold wrap64; omega
    rw [w1, w2, w3, w4, markT_eq (p + 3) (by omega) (by omega) k (by omega)]
    simp only [Option.bind_some]
    rw [wr1w i (by omega)]
    have hE : (⟨Int.tmod p 3 == 0, p + 1, p + 2, mtx (p + 3)⟩ : S26) = mkE (a + 4 * (i : Int)) := by rw [hp]; rfl
    rw [hE]
    exact ih k (i + 1) _ (by simp [hx]) (by omega) (by omega) (by omega) (mkR_step a x n i (by omega) hx h)
theorem markR_eq (a : Int) (l : List S26) (hl : l.length ≤ 1048576) (ha0 : 0 ≤ a) (ha : a ≤ 16777216) (k : Nat) (hk : l.length + 30 < k) : laws_markRecS.f k l a = some (a + 4 * (l.length : Int), mkR a l.length) := by
  unfold laws_markRecS.f
  have := markR_l0 a l.length hl ha0 ha l.length k 0 l rfl (by omega) (by omega) hk rfl
  simpa using this
theorem heldR_l0 (n : Nat) (hn : n ≤ 1048576) : ∀ (d k i : Nat), i ≤ n → n - i = d → d + 30 < k → laws_heldRecS.l0 k (mkR 1 n) (1 + 4 * (i : Int)) (i : Int) = some (1 + 4 * (n : Int)) := by
  intro d
  induction d with
  | zero =>
    intro k i hi hd hk
    obtain ⟨k, rfl⟩ : ∃ m, k = m + 1 := ⟨k - 1, by omega⟩
    simp only [laws_heldRecS.l0]
    rw [if_neg (by rw [mkR_length]; omega), show i = n by omega]
  | succ d ih =>
    intro k i hi hd hk
    obtain ⟨k, rfl⟩ : ∃ m, k = m + 1 := ⟨k - 1, by omega⟩
    simp only [laws_heldRecS.l0]
    have e : rd_T26 (mkR 1 n) (i : Int) = mkE (1 + 4 * (i : Int)) := by
      have : i < n := by omega
      simp [rd_T26, mkR, this]
    rw [e, if_pos (by rw [mkR_length]; omega), if_pos (by omega)]
    generalize hp : 1 + 4 * (i : Int) = p
    have w1 : wrap64 (p + 1) = p + 1 := by unfold wrap64; omega
    have w2 : wrap64 (p + 1 + 1) = p + 2 := by unfold wrap64; omega
    have w3 : wrap64 (p + 2 + 1) = p + 3 := by unfold wrap64; omega
    have w4 : wrap64 (p + 3 + 1) = 1 + 4 * ((i + 1 : Nat) : Int) := by unfold wrap64; omega
    rw [w1, w2, w3, w4, markT_eq (p + 3) (by omega) (by omega) k (by omega)]
    unfold mkE
    simp only [Option.bind_some, bne_self_eq_false]
    rw [if_neg (by decide), if_pos trivial, if_pos trivial, if_pos trivial, wr1w i (by omega)]
    exact ih k (i + 1) (by omega) (by omega) (by omega)
theorem heldR_eq (n : Nat) (hn : n ≤ 1048576) (k : Nat) (hk : n + 30 < k) : laws_heldRecS.f k (mkR 1 n) 1 = some (1 + 4 * (n : Int)) := by
  unfold laws_heldRecS.f
  have := heldR_l0 n hn n k 0 (by omega) (by omega) hk
  simpa using this
def live (l : List S26) : List S26 := l.filter fun x => x.f0
def packed (l : List S26) : List S26 := live l ++ List.replicate (l.length - (live l).length) z26
theorem live_le (l : List S26) : (live l).length ≤ l.length := List.length_filter_le _ _
theorem packed_length (l : List S26) : (packed l).length = l.length := by
  have := live_le l
  simp [packed]; omega
theorem specC_l1 (n : Nat) (l : List S26) (hl : l.length = n) (hn : n ≤ 1048576) : ∀ (d k : Nat) (x : List S26), x.length ≤ n → n - x.length = d → d < k → spec_Compact.l1 k l x = some (x ++ List.replicate (n - x.length) z26) := by
  intro d
  induction d with
  | zero =>
    intro k x hx hd hk
    obtain ⟨k, rfl⟩ : ∃ m, k = m + 1 := ⟨k - 1, by omega⟩
    simp only [spec_Compact.l1]
    rw [if_neg (by omega), hd]; simp
  | succ d ih =>
    intro k x hx hd hk
    obtain ⟨k, rfl⟩ : ∃ m, k = m + 1 := ⟨k - 1, by omega⟩
    simp only [spec_Compact.l1]
    rw [if_pos (by omega), if_pos (by omega), ih k _ (by simp; omega) (by simp; omega) (by omega)]
    rw [show n - x.length = (n - (x ++ [(⟨false, 0, 0, (⟨#[]⟩ : ByteArray)⟩ : S26)]).length) + 1 by simp; omega, List.replicate_succ, List.append_assoc]
    rfl
theorem specC_l0 (l : List S26) (hl : l.length ≤ 1048576) : ∀ (d k i : Nat) (x : List S26), i ≤ l.length → l.length - i = d → d + l.length + 1 < k → x.length + d ≤ l.length → spec_Compact.l0 k l x (i : Int) = some ((x ++ live (l.drop i)) ++ List.replicate (l.length - (x ++ live (l.drop i)).length) z26) := by
  intro d
  induction d with
  | zero =>
    intro k i x hi hd hk hx
    obtain ⟨k, rfl⟩ : ∃ m, k = m + 1 := ⟨k - 1, by omega⟩
    simp only [spec_Compact.l0]
    rw [if_neg (by omega), List.drop_eq_nil_of_le (by omega)]
    have := specC_l1 l.length l rfl hl (l.length - x.length) k x (by omega) rfl (by omega)
    rw [this]; simp [live]
  | succ d ih =>
    intro k i x hi hd hk hx
    obtain ⟨k, rfl⟩ : ∃ m, k = m + 1 := ⟨k - 1, by omega⟩
    have hlt : i < l.length := by omega
    simp only [spec_Compact.l0]
    rw [if_pos (by omega), if_pos (by omega), rd26 l i hlt, List.drop_eq_getElem_cons hlt]
    cases hf : (l[i]).f0 with
    | true =>
      rw [if_pos rfl, if_pos (by omega), wr1w i (by omega), ih k (i + 1) _ (by omega) (by omega) (by omega) (by simp; omega)]
      have e : (⟨true, (l[i]).f1, (l[i]).f2, (l[i]).f3⟩ : S26) = l[i] := by rw [← hf]
      have e2 : live (l[i] :: l.drop (i + 1)) = l[i] :: live (l.drop (i + 1)) := by unfold live; rw [List.filter_cons, if_pos hf]
      rw [e, e2]; simp
    | false =>
      rw [if_neg (by decide), wr1w i (by omega), ih k (i + 1) _ (by omega) (by omega) (by omega) (by omega)]
      have e2 : live (l[i] :: l.drop (i + 1)) = live (l.drop (i + 1)) := by unfold live; rw [List.filter_cons, if_neg (by rw [hf]; decide)]
      rw [e2]
theorem implC_l0 (l : List S26) (hl : l.length ≤ 1048576) : ∀ (d k i : Nat) (x : List S26) (m : Nat), i ≤ l.length → l.length - i = d → d < k → m + d ≤ l.length → x.length = m →
    impl_Compact.l0 k (x ++ List.replicate (l.length - m) z26) (m : Int) l (l.length : Int) (i : Int) = some ((x ++ live (l.drop i)) ++ List.replicate (l.length - (x ++ live (l.drop i)).length) z26) := by
  intro d
  induction d with
  | zero =>
    intro k i x m hi hd hk hm hx
    obtain ⟨k, rfl⟩ : ∃ m, k = m + 1 := ⟨k - 1, by omega⟩
    simp only [impl_Compact.l0]
    rw [if_neg (by omega), List.drop_eq_nil_of_le (by omega)]
    simp [live, hx]
  | succ d ih =>
    intro k i x m hi hd hk hm hx
    obtain ⟨k, rfl⟩ : ∃ m, k = m + 1 := ⟨k - 1, by omega⟩
    have hlt : i < l.length := by omega
    simp only [impl_Compact.l0]
    rw [if_pos (by omega), if_pos (by omega), if_pos (by omega), rd26 l i hlt, List.drop_eq_getElem_cons hlt]
    cases hf : (l[i]).f0 with
    | true =>
      have e : (⟨true, (l[i]).f1, (l[i]).f2, (l[i]).f3⟩ : S26) = l[i] := by rw [← hf]
      have e2 : live (l[i] :: l.drop (i + 1)) = l[i] :: live (l.drop (i + 1)) := by unfold live; rw [List.filter_cons, if_pos hf]
      have e3 : (x ++ List.replicate (l.length - m) z26).set m l[i] = (x ++ [l[i]]) ++ List.replicate (l.length - (m + 1)) z26 := by
        rw [List.set_append_right _ _ (by omega), hx, Nat.sub_self, show l.length - m = (l.length - (m + 1)) + 1 by omega, List.replicate_succ, List.set_cons_zero, List.append_assoc]; rfl
      rw [if_pos rfl, if_pos (by omega), if_pos (by simp; omega), Int.toNat_natCast, e, e3, wr1w m (by omega), wr1w i (by omega), ih k (i + 1) _ (m + 1) (by omega) (by omega) (by omega) (by omega) (by simp [hx]), e2]
      simp
    | false =>
      have e2 : live (l[i] :: l.drop (i + 1)) = live (l.drop (i + 1)) := by unfold live; rw [List.filter_cons, if_neg (by rw [hf]; decide)]
      rw [if_neg (by decide), wr1w i (by omega), ih k (i + 1) _ m (by omega) (by omega) (by omega) (by omega) hx, e2]
theorem specC_eq (l : List S26) (N : Nat) (hN : N ≤ 1048576) (hf : fine N l) (hl : l.length ≤ 1048576) (k : Nat) (hk : 2 * l.length + N + 4 < k) : spec_Compact.f k l = some (if recsB l = true then packed l else []) := by
  unfold spec_Compact.f
  rw [recsOk_eq l N hN hf hl k (by omega)]
  simp only [Option.bind_some]
  cases recsB l with
  | false => rfl
  | true =>
    have := specC_l0 l hl l.length k 0 [] (by omega) (by omega) (by omega) (by simp)
    rw [show ((0 : Nat) : Int) = 0 from rfl] at this
    rw [if_pos rfl, if_pos rfl, this]; rfl
theorem implC_eq (l : List S26) (N : Nat) (hN : N ≤ 1048576) (hf : fine N l) (hl : l.length ≤ 1048576) (k : Nat) (hk : l.length < k) : impl_Compact.f k l = some (if recsB l = true then packed l else []) := by
  unfold impl_Compact.f
  rw [areRecs_eq l N hN hf]
  simp only [Option.bind_some]
  cases recsB l with
  | false => rfl
  | true =>
    have := implC_l0 l hl l.length k 0 [] 0 (by omega) (by omega) (by omega) (by omega) rfl
    rw [show ((0 : Nat) : Int) = 0 from rfl] at this
    rw [if_pos rfl, if_pos (by omega), if_pos (by omega), if_pos rfl]
    simp only [List.nil_append, Nat.sub_zero, Int.toNat_natCast, List.drop_zero] at this ⊢
    exact this
theorem FnExactCompact (l0 : (List S23)) (w0 : (l0.length ≤ maxLen ∧ ∀ y, y ∈ l0 → ok23 y)) : ∃ k, laws_FnExactCompact.f k l0 = some true := by
  refine ⟨2 * l0.length + dat l0 + 100, ?_⟩
  unfold laws_FnExactCompact.f
  rw [szRecS_eq l0 w0 _ (by omega) 1048576 (by omega) (by omega)]
  simp only [Option.bind_some]
  by_cases c : (1048576 : Int) < ((l0.length + dat l0 : Nat) : Int)
  · rw [if_pos c, if_pos (by omega)]
  · have hl : (l0.map cv).length = l0.length := by simp
    have hf := fine_map l0
    have ht : ∀ k, l0.length < k → laws_toRecS.f k l0 = some (l0.map cv) := fun k hk => toRecS_eq l0 (by omega) k hk
    rw [if_neg c, if_neg (by omega), ht _ (by omega)]
    simp only [Option.bind_some]
    generalize l0.map cv = l at hl hf ht
    rw [specC_eq l (dat l0) (by omega) hf (by omega) _ (by omega), implC_eq l (dat l0) (by omega) hf (by omega) _ (by omega)]
    simp only [Option.bind_some]
    generalize hg : (if recsB l = true then packed l else []) = r
    have hr : r.length ≤ l0.length := by
      subst hg
      cases recsB l with
      | true => rw [if_pos rfl, packed_length]; omega
      | false => exact Nat.zero_le _
    have hi := implC_eq l (dat l0) (by omega) hf (by omega)
    rw [hg] at hi
    clear hg
    rw [eqRecS_eq r (by omega) _ (by omega)]
    simp only [Option.bind_some, if_true]
    rw [eqRecS_eq l (by omega) _ (by omega)]
    simp only [Option.bind_some, if_true]
    rw [markR_eq 1 l (by omega) (by omega) (by omega) _ (by omega)]
    simp only [Option.bind_some]
    rw [if_neg (by omega)]
    show laws_FnExactCompact.j0 (2 * l0.length + dat l0 + 99 + 1) l0 r r (!true) = some true
    simp only [laws_FnExactCompact.j0]
    rw [if_neg (by decide), markR_eq 1 r (by omega) (by omega) (by omega) _ (by omega)]
    simp only [Option.bind_some]
    rw [heldR_eq _ (by omega) _ (by omega)]
    simp only [Option.bind_some]
    rw [if_neg (by omega), if_pos trivial, ht _ (by omega)]
    simp only [Option.bind_some]
    rw [hi _ (by omega)]
    simp only [Option.bind_some]
    rw [eqRecS_eq r (by omega) _ (by omega)]
    simp only [Option.bind_some, if_true]
    rw [if_neg (by omega)]

end Go.Proofs.Ytmhikpfaoacgpaa.Pure

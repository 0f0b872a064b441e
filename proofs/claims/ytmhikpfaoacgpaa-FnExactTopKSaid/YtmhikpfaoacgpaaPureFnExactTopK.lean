/- FnExactTopK: TopK agrees with the reference: the first ones of the sorted records, padded. -/
import Derived.Test.YtmhikpfaoacgpaaOpenFnExactTopK
import Derived.Test.YtmhikpfaoacgpaaNets
namespace Go.Proofs.Ytmhikpfaoacgpaa.Pure
open Go.RowKit Go.Proofs.Ytmhikpfaoacgpaa.OpenFnExactTopK Go.Proofs.Ytmhikpfaoacgpaa.RowOpen Go.Proofs.Ytmhikpfaoacgpaa.PFnExactTopK Go.Proofs.YtmhikpfaoacgpaaW.PrintWords Go.Proofs.YtmhikpfaoacgpaaW.PrintLast Go.Proofs.YtmhikpfaoacgpaaW.PrintMore
set_option linter.unusedVariables false
set_option linter.unusedSimpArgs false

def letB (c : Int) : Bool := decide (97 ≤ c) && decide (c ≤ 122)
/-- Are the d bytes from i on letters? -/
def lets (s : ByteArray) : Nat → Nat → Bool
  | 0, _ => true
  | d + 1, i => letB (bt s (i : Int)) && lets s d (i + 1)
theorem lets_succ (s : ByteArray) (d i : Nat) : lets s (d + 1) i = (letB (bt s (i : Int)) && lets s d (i + 1)) := rfl
def wordB (s : ByteArray) : Bool := decide (1 ≤ s.size) && (decide (s.size ≤ 32) && lets s s.size 0)
theorem wr1w (i : Nat) (h : i ≤ 1048576) : wrap64 ((i : Int) + 1) = ((i + 1 : Nat) : Int) := by unfold wrap64; omega
theorem wordOk_l0 (s : ByteArray) (hs : s.size ≤ 1048576) : ∀ (d k i : Nat), s.size = i + d → d < k → spec_WordOk.l0 k s (i : Int) = some (lets s d i) := by
  intro d
  induction d with
  | zero =>
    intro k i hi hk
    obtain ⟨k, rfl⟩ : ∃ m, k = m + 1 := ⟨k - 1, by omega⟩
    simp only [spec_WordOk.l0]
    rw [if_neg (by omega)]; rfl
  | succ d ih =>
    intro k i hi hk
    obtain ⟨k, rfl⟩ : ∃ m, k = m + 1 := ⟨k - 1, by omega⟩
    simp only [spec_WordOk.l0]
    rw [if_pos (by omega), if_pos (by omega), wr1w i (by omega), ih k (i + 1) (by omega) (by omega)]
    rw [lets_succ]
    unfold letB
    by_cases c1 : bt s (i : Int) < 97
    · rw [if_pos c1, decide_eq_false (by omega)]; rfl
    · rw [if_neg c1, decide_eq_true (show 97 ≤ bt s (i : Int) by omega)]
      by_cases c2 : bt s (i : Int) > 122
      · rw [if_pos c2, decide_eq_false (by omega)]; rfl
      · rw [if_neg c2, decide_eq_true (show bt s (i : Int) ≤ 122 by omega)]; rfl
theorem wordOk_eq (s : ByteArray) (hs : s.size ≤ 1048576) (k : Nat) (hk : s.size + 1 < k) : spec_WordOk.f k s = some (wordB s) := by
  obtain ⟨k, rfl⟩ : ∃ m, k = m + 1 := ⟨k - 1, by omega⟩
  unfold spec_WordOk.f wordB
  by_cases c1 : (s.size : Int) < 1
  · rw [if_pos c1, decide_eq_false (by omega)]
    simp [spec_WordOk.j0]
  · rw [if_neg c1, decide_eq_true (show 1 ≤ s.size by omega)]
    by_cases c2 : (s.size : Int) > 32
    · rw [decide_eq_true c2, decide_eq_false (show ¬ s.size ≤ 32 by omega)]
      simp [spec_WordOk.j0]
    · rw [decide_eq_false c2, decide_eq_true (show s.size ≤ 32 by omega)]
      simp only [spec_WordOk.j0]
      have := wordOk_l0 s hs s.size k 0 (by omega) (by omega)
      rw [show ((0 : Nat) : Int) = 0 from rfl] at this
      rw [if_neg (by decide), this]; rfl
theorem within_eq (a b c : Int) : impl_within.f a b c = some (decide (b ≤ a) && decide (a ≤ c)) := by
  unfold impl_within.f
  by_cases c1 : a ≥ b
  · rw [if_pos c1, decide_eq_true (show b ≤ a from c1)]; rfl
  · rw [if_neg c1, decide_eq_false (show ¬ b ≤ a from c1)]; rfl
theorem isWord_l0 (s : ByteArray) (hs : s.size ≤ 1048576) : ∀ (d k i : Nat), s.size = i + d → d < k → impl_isWord.l0 k s (s.size : Int) (i : Int) = some (lets s d i && (decide (1 ≤ s.size) && decide (s.size ≤ 32))) := by
  intro d
  induction d with
  | zero =>
    intro k i hi hk
    obtain ⟨k, rfl⟩ : ∃ m, k = m + 1 := ⟨k - 1, by omega⟩
    simp only [impl_isWord.l0]
    rw [if_neg (by omega), within_eq]
    simp only [Option.bind_some, lets, Bool.true_and]
    congr 2
    · exact decide_eq_decide.2 (by omega)
    · exact decide_eq_decide.2 (by omega)
  | succ d ih =>
    intro k i hi hk
    obtain ⟨k, rfl⟩ : ∃ m, k = m + 1 := ⟨k - 1, by omega⟩
    simp only [impl_isWord.l0]
    rw [if_pos (by omega), if_pos (by omega), if_pos (by omega), wr1w i (by omega), ih k (i + 1) (by omega) (by omega)]
    rw [lets_succ]
    unfold letB
    by_cases c1 : bt s (i : Int) < 97
    · rw [if_pos c1, decide_eq_false (by omega)]; rfl
    · rw [if_neg c1, decide_eq_true (show 97 ≤ bt s (i : Int) by omega)]
      by_cases c2 : bt s (i : Int) > 122
      · rw [if_pos c2, decide_eq_false (by omega)]; rfl
      · rw [if_neg c2, decide_eq_true (show bt s (i : Int) ≤ 122 by omega)]; rfl
theorem isWord_eq (s : ByteArray) (hs : s.size ≤ 1048576) (k : Nat) (hk : s.size < k) : impl_isWord.f k s = some (wordB s) := by
  unfold impl_isWord.f wordB
  have := isWord_l0 s hs s.size k 0 (by omega) hk
  rw [show ((0 : Nat) : Int) = 0 from rfl] at this
  rw [this]
  congr 1
  cases lets s s.size 0 <;> cases decide (1 ≤ s.size) <;> cases decide (s.size ≤ 32) <;> rfl
def zeroB (a : Bool) (d w : Int) (s : ByteArray) : Bool := !a && (d == 0 && (w == 0 && (s.toList == ([] : List UInt8))))
def recB (a : Bool) (d w : Int) (s : ByteArray) : Bool := zeroB a d w s || (a && ((decide (0 ≤ d) && decide (d ≤ 7)) && ((decide (0 ≤ w) && decide (w ≤ 65535)) && wordB s)))
theorem recOk_eq (a : Bool) (d w : Int) (s : ByteArray) (hs : s.size ≤ 1048576) (k : Nat) (hk : s.size + 1 < k) : spec_RecOk.f k a d w s = some (recB a d w s) := by
  unfold spec_RecOk.f spec_l09Empty.f recB
  simp only [Option.bind_some]
  rw [show (!a && (d == 0 && (w == 0 && (s.toList == ([] : List UInt8))))) = zeroB a d w s from rfl]
  cases zeroB a d w s with
  | true => rfl
  | false =>
    rw [if_neg (by decide)]
    cases a with
    | false => rfl
    | true =>
      rw [if_pos rfl]
      by_cases c1 : d ≥ 0
      · rw [if_pos c1, decide_eq_true (show 0 ≤ d from c1)]
        by_cases c2 : d ≤ 7
        · rw [if_pos c2, decide_eq_true c2]
          by_cases c3 : w ≥ 0
          · rw [if_pos c3, decide_eq_true (show 0 ≤ w from c3)]
            by_cases c4 : w ≤ 65535
            · rw [if_pos c4, decide_eq_true c4, wordOk_eq s hs k hk]; rfl
            · rw [if_neg c4, decide_eq_false c4]; rfl
          · rw [if_neg c3, decide_eq_false (show ¬ 0 ≤ w from c3)]; rfl
        · rw [if_neg c2, decide_eq_false c2]; rfl
      · rw [if_neg c1, decide_eq_false (show ¬ 0 ≤ d from c1)]; rfl
theorem isRec_eq (a : Bool) (d w : Int) (s : ByteArray) (hs : s.size ≤ 1048576) (k : Nat) (hk : s.size < k) : impl_isRec.f k a d w s = some (recB a d w s) := by
  unfold impl_isRec.f recB
  rw [show (!a && (d == 0 && (w == 0 && (s.toList == ([] : List UInt8))))) = zeroB a d w s from rfl]
  cases zeroB a d w s with
  | true => rfl
  | false =>
    rw [if_neg (by decide)]
    cases a with
    | false => rfl
    | true =>
      rw [if_pos rfl, within_eq, within_eq]
      simp only [Option.bind_some]
      cases (decide (0 ≤ d) && decide (d ≤ 7)) with
      | false => rfl
      | true =>
        rw [if_pos rfl]
        cases (decide (0 ≤ w) && decide (w ≤ 65535)) with
        | false => rfl
        | true =>
          rw [if_pos rfl, isWord_eq s hs k hk]; rfl
theorem sz_rec (a : Bool) (d w : Int) (s : ByteArray) (h : s.size ≤ maxLen) (left : Int) (h0 : 0 ≤ left) (h1 : left ≤ 1048576) : laws_szRec.f a d w s left = some (if left < (s.size : Int) then -1 else left - (s.size : Int)) := by
  unfold maxLen at h
  unfold laws_szRec.f
  rw [show wrap64 (left - (s.size : Int)) = left - (s.size : Int) from by unfold wrap64; omega]
  by_cases c : left < (s.size : Int)
  · rw [if_pos c, if_pos (by omega)]
  · rw [if_neg c, if_neg (by omega)]
theorem rd26 (l : List S26) (i : Nat) (h : i < l.length) : rd_T26 l (i : Int) = l[i] := by simp [rd_T26, h]
def fine (N : Nat) (l : List S26) : Prop := ∀ x, x ∈ l → x.f3.size ≤ N
def recR (x : S26) : Bool := recB x.f0 x.f1 x.f2 x.f3
def recsB (l : List S26) : Bool := decide (l.length ≤ 64) && l.all recR
theorem recsOk_l0 (l : List S26) (N : Nat) (hN : N ≤ 1048576) (hf : fine N l) (hl : l.length ≤ 1048576) : ∀ (d k i : Nat), i ≤ l.length → l.length - i = d → d + N + 2 < k → spec_RecsOk.l0 k l (i : Int) = some ((l.drop i).all recR) := by
  intro d
  induction d with
  | zero =>
    intro k i hi hd hk
    obtain ⟨k, rfl⟩ : ∃ m, k = m + 1 := ⟨k - 1, by omega⟩
    simp only [spec_RecsOk.l0]
    rw [if_neg (by omega), List.drop_eq_nil_of_le (by omega)]; rfl
  | succ d ih =>
    intro k i hi hd hk
    obtain ⟨k, rfl⟩ : ∃ m, k = m + 1 := ⟨k - 1, by omega⟩
    have hlt : i < l.length := by omega
    have hs := hf _ (List.getElem_mem hlt)
    simp only [spec_RecsOk.l0]
    rw [if_pos (by omega), if_pos (by omega), rd26 l i hlt, recOk_eq _ _ _ _ (by omega) k (by omega), List.drop_eq_getElem_cons hlt, List.all_cons]
    simp only [Option.bind_some]
    show (if recR l[i] = true then _ else _) = _
    cases recR l[i] with
    | false => rfl
    | true =>
      rw [if_pos rfl, wr1w i (by omega), ih k (i + 1) (by omega) (by omega) (by omega)]; rfl
theorem recsOk_eq (l : List S26) (N : Nat) (hN : N ≤ 1048576) (hf : fine N l) (hl : l.length ≤ 1048576) (k : Nat) (hk : l.length + N + 2 < k) : spec_RecsOk.f k l = some (recsB l) := by
  unfold spec_RecsOk.f recsB
  by_cases c : (l.length : Int) > 64
  · rw [if_pos c, decide_eq_false (by omega)]; rfl
  · rw [if_neg c, decide_eq_true (by omega)]
    have := recsOk_l0 l N hN hf hl l.length k 0 (by omega) (by omega) hk
    rw [show ((0 : Nat) : Int) = 0 from rfl, List.drop_zero] at this
    rw [this]; rfl
theorem badR_eq (x : S26) (h : x.f3.size ≤ 1048576) : badR x = some (!recR x) := by
  unfold badR recR
  rw [isRec_eq _ _ _ _ h _ (by omega)]; rfl
theorem idxR_eq (N : Nat) (hN : N ≤ 1048576) : ∀ (l : List S26) (i : Nat), fine N l → ∃ r, idxR l i = some r ∧ (!decide (0 ≤ r)) = l.all recR
  | [], i, _ => ⟨-1, rfl, rfl⟩
  | x :: l, i, hf => by
    have h1 := badR_eq x (by have := hf x (by simp); omega)
    obtain ⟨r, h2, h3⟩ := idxR_eq N hN l (i + 1) (fun y hy => hf y (by simp [hy]))
    unfold idxR
    rw [h1]
    simp only [Option.bind_some, List.all_cons]
    cases hr : recR x with
    | false =>
      refine ⟨(i : Int), rfl, ?_⟩
      rw [decide_eq_true (by omega)]; rfl
    | true => exact ⟨r, h2, by rw [h3]; rfl⟩
theorem areRecs_eq (l : List S26) (N : Nat) (hN : N ≤ 1048576) (hf : fine N l) : impl_areRecs.f l = some (recsB l) := by
  unfold impl_areRecs.f recsB
  by_cases c : l.length ≤ 64
  · obtain ⟨r, h2, h3⟩ := idxR_eq N hN l 0 hf
    rw [if_pos c, h2, decide_eq_true c]
    simp only [Option.bind_some]
    rw [h3]; rfl
  · rw [if_neg c, decide_eq_false c]; rfl
def cv (x : S23) : S26 := ⟨x.f0, x.f1, x.f2, x.f3⟩
def dat (l : List S23) : Nat := (l.map fun x => x.f3.size).sum
theorem dat_cons (x : S23) (l : List S23) : dat (x :: l) = x.f3.size + dat l := by simp [dat]
theorem dat_mem : ∀ (l : List S23) (i : Nat) (h : i < l.length), (l[i]).f3.size ≤ dat l
  | x :: l, 0, _ => by rw [dat_cons]; simp
  | x :: l, i + 1, h => by
    rw [dat_cons]
    have := dat_mem l i (by simpa using h)
    simp only [List.getElem_cons_succ]
    omega
theorem rd23 (l : List S23) (i : Nat) (h : i < l.length) : rd_T23 l (i : Int) = l[i] := by simp [rd_T23, h]
theorem szRecS_l0 (l : List S23) (hl : ∀ y, y ∈ l → y.f3.size ≤ maxLen) (hlen : l.length ≤ 1048576) : ∀ (d k i : Nat) (left : Int), i ≤ l.length → l.length - i = d → d < k → 0 ≤ left → left ≤ 1048576 →
    laws_szRecS.l0 k l left (i : Int) = some (if left < (dat (l.drop i) : Int) then -1 else left - (dat (l.drop i) : Int)) := by
  intro d
  induction d with
  | zero =>
    intro k i left hi hd hk h0 h1
    obtain ⟨k, rfl⟩ : ∃ m, k = m + 1 := ⟨k - 1, by omega⟩
    simp only [laws_szRecS.l0]
    rw [if_neg (by omega), List.drop_eq_nil_of_le (by omega)]
    have e : dat [] = 0 := rfl
    rw [e, if_neg (by omega)]
    simp
  | succ d ih =>
    intro k i left hi hd hk h0 h1
    obtain ⟨k, rfl⟩ : ∃ m, k = m + 1 := ⟨k - 1, by omega⟩
    have hlt : i < l.length := by omega
    simp only [laws_szRecS.l0]
    rw [if_pos (by omega), if_pos (by omega), rd23 l i hlt, sz_rec _ _ _ _ (hl _ (List.getElem_mem hlt)) left h0 h1, List.drop_eq_getElem_cons hlt, dat_cons]
    simp only [Option.bind_some]
    by_cases c : left < ((l[i]).f3.size : Int)
    · rw [if_pos c, if_pos (by omega), if_pos (by omega)]
    · rw [if_neg c, if_neg (by omega), wr1w i (by omega), ih k (i + 1) _ (by omega) (by omega) (by omega) (by omega) (by omega)]
      congr 1
      by_cases c2 : left - ((l[i]).f3.size : Int) < (dat (l.drop (i + 1)) : Int)
      · rw [if_pos c2, if_pos (by omega)]
      · rw [if_neg c2, if_neg (by omega)]; omega
theorem szRecS_eq (l : List S23) (hl : l.length ≤ maxLen ∧ ∀ y, y ∈ l → ok23 y) (k : Nat) (hk : l.length < k) (left : Int) (h0 : 0 ≤ left) (h9 : left ≤ 1048576) :
    laws_szRecS.f k l left = some (if left < ((l.length + dat l : Nat) : Int) then -1 else left - ((l.length + dat l : Nat) : Int)) := by
  have h1 := hl.1
  unfold maxLen at h1
  unfold laws_szRecS.f
  rw [show wrap64 (left - (l.length : Int)) = left - (l.length : Int) from by unfold wrap64; omega]
  by_cases c : left < (l.length : Int)
  · rw [if_pos (by omega), if_pos (by omega)]
  · rw [if_neg (by omega)]
    have := szRecS_l0 l (fun y hy => (hl.2 y hy).2.2.2) (by omega) l.length k 0 (left - (l.length : Int)) (by omega) (by omega) hk (by omega) (by omega)
    rw [List.drop_zero] at this
    rw [show ((0 : Nat) : Int) = 0 from rfl] at this
    rw [this]
    congr 1
    by_cases c2 : left < ((l.length + dat l : Nat) : Int)
    · rw [if_pos c2, if_pos (by omega)]
    · rw [if_neg c2, if_neg (by omega)]; omega
theorem take_setR (x : List S26) (l : List S23) (i : Nat) (hi : i < l.length) (hx : x.length = l.length) (h : x.take i = (l.map cv).take i) : (x.set i (cv l[i])).take (i + 1) = (l.map cv).take (i + 1) := by
  rw [List.take_add_one, List.take_add_one, List.take_set_of_le (Nat.le_refl _), h]
  simp [hi, hx]
theorem toRecS_l0 (l : List S23) (hl : l.length ≤ 1048576) : ∀ (d k i : Nat) (x : List S26), x.length = l.length → i ≤ l.length → l.length - i = d → d < k → x.take i = (l.map cv).take i →
    laws_toRecS.l0 k l x (i : Int) = some (l.map cv) := by
  intro d
  induction d with
  | zero =>
    intro k i x hx hi hd hk h
    obtain ⟨k, rfl⟩ : ∃ m, k = m + 1 := ⟨k - 1, by omega⟩
    simp only [laws_toRecS.l0]
    rw [if_neg (by omega)]
    rw [List.take_of_length_le (by omega), List.take_of_length_le (by simp; omega)] at h
    rw [h]
  | succ d ih =>
    intro k i x hx hi hd hk h
    obtain ⟨k, rfl⟩ : ∃ m, k = m + 1 := ⟨k - 1, by omega⟩
    have hlt : i < l.length := by omega
    simp only [laws_toRecS.l0]
    unfold laws_toRec.f
    simp only [Option.bind_some]
    rw [if_pos (by omega), if_pos (by omega), if_pos (by omega), rd23 l i hlt, wr1w i (by omega), Int.toNat_natCast]
    exact ih k (i + 1) _ (by simp [hx]) (by omega) (by omega) (by omega) (take_setR x l i hlt hx h)
theorem toRecS_eq (l : List S23) (hl : l.length ≤ 1048576) (k : Nat) (hk : l.length < k) : laws_toRecS.f k l = some (l.map cv) := by
  unfold laws_toRecS.f
  rw [if_pos (by omega), if_pos (by omega)]
  exact toRecS_l0 l hl l.length k 0 _ (by simp) (by omega) (by omega) hk rfl
theorem eqRec_eq (a0 : Bool) (a1 a2 : Int) (a3 : ByteArray) : laws_eqRec.f a0 a1 a2 a3 a0 a1 a2 a3 = some true := by
  unfold laws_eqRec.f
  simp
theorem eqRecS_l0 (l : List S26) (hl : l.length ≤ 1048576) : ∀ (d k i : Nat), i ≤ l.length → l.length - i = d → d < k → laws_eqRecS.l0 k l l (i : Int) = some true := by
  intro d
  induction d with
  | zero =>
    intro k i hi hd hk
    obtain ⟨k, rfl⟩ : ∃ m, k = m + 1 := ⟨k - 1, by omega⟩
    simp only [laws_eqRecS.l0]
    rw [if_neg (by omega)]
  | succ d ih =>
    intro k i hi hd hk
    obtain ⟨k, rfl⟩ : ∃ m, k = m + 1 := ⟨k - 1, by omega⟩
    have hlt : i < l.length := by omega
    simp only [laws_eqRecS.l0]
    rw [if_pos (by omega), if_pos (by omega), if_pos (by omega), eqRec_eq, wr1w i (by omega), ih k (i + 1) (by omega) (by omega) (by omega)]
    rfl
theorem eqRecS_eq (l : List S26) (hl : l.length ≤ 1048576) (k : Nat) (hk : l.length < k) : laws_eqRecS.f k l l = some true := by
  unfold laws_eqRecS.f
  rw [if_pos rfl]
  exact eqRecS_l0 l hl l.length k 0 (by omega) (by omega) hk
/-- The words of the records are short enough to be told. -/
theorem fine_map (l : List S23) : fine (dat l) (l.map cv) := by
  intro x hx
  obtain ⟨y, hy, rfl⟩ := List.mem_map.1 hx
  obtain ⟨i, hi, rfl⟩ := List.getElem_of_mem hy
  exact dat_mem l i hi
theorem markT_l0 : ∀ (d k : Nat) (n : Int) (s : ByteArray), 0 ≤ n → n ≤ 1000000000 → n < ((10 ^ d : Nat) : Int) → s.size + d ≤ 1000 → d < k → ∃ t, laws_markText.l0 k n s = some t := by
  intro d
  induction d with
  | zero =>
    intro k n s h0 h9 h1 hs hk
    obtain ⟨k, rfl⟩ : ∃ m, k = m + 1 := ⟨k - 1, by omega⟩
    simp only [laws_markText.l0]
    rw [if_neg (by simp at h1; omega), if_pos (by omega)]
    exact ⟨_, rfl⟩
  | succ d ih =>
    intro k n s h0 h9 h1 hs hk
    obtain ⟨k, rfl⟩ : ∃ m, k = m + 1 := ⟨k - 1, by omega⟩
    simp only [laws_markText.l0]
    by_cases c : n > 0
    · rw [if_pos c]
      simp only [Option.bind_some]
      have e : wrap64 (Int.tdiv n 10) = n / 10 := by
        rw [Int.tdiv_eq_ediv_of_nonneg h0]; unfold wrap64; omega
      rw [if_pos (by rw [strOfNums_size]; simp; omega), e]
      refine ih k _ _ (by omega) (by omega) ?_ ?_ (by omega)
      · rw [Nat.pow_succ] at h1; omega
      · rw [ByteArray.size_append, strOfNums_size]; simp; omega
    · rw [if_neg c, if_pos (by omega)]
      exact ⟨_, rfl⟩
def mtx (n : Int) : ByteArray := (laws_markText.f 30 n).getD (⟨#[]⟩ : ByteArray)
theorem markT_eq (n : Int) (h0 : 0 ≤ n) (h9 : n ≤ 1000000000) (k : Nat) (hk : 30 ≤ k) : laws_markText.f k n = some (mtx n) := by
  have h : ∃ t, laws_markText.f 30 n = some t := by
    unfold laws_markText.f
    by_cases c : n ≤ 0
    · rw [if_pos c]; exact ⟨_, rfl⟩
    · rw [if_neg c]
      exact markT_l0 10 30 n _ h0 h9 (by omega) (by decide) (by omega)
  obtain ⟨t, ht⟩ := h
  have e : mtx n = t := by unfold mtx; rw [ht]; rfl
  rw [e]
  exact at_rounds (g := fun k => laws_markText.f k n) (fun k => laws_markText.mono n k) hk ht
def mkE (a : Int) : S26 := ⟨Int.tmod a 3 == 0, a + 1, a + 2, mtx (a + 3)⟩
def mkR (a : Int) (n : Nat) : List S26 := (List.range n).map fun (i : Nat) => mkE (a + 4 * (i : Int))
theorem mkR_length (a : Int) (n : Nat) : (mkR a n).length = n := by simp [mkR]
theorem mkR_step (a : Int) (x : List S26) (n i : Nat) (hi : i < n) (hx : x.length = n) (h : x.take i = (mkR a n).take i) : (x.set i (mkE (a + 4 * (i : Int)))).take (i + 1) = (mkR a n).take (i + 1) := by
  rw [List.take_add_one, List.take_add_one, List.take_set_of_le (Nat.le_refl _), h]
  simp [hi, hx, mkR]
theorem rd_set26 (x : List S26) (i : Nat) (v : S26) (h : i < x.length) : rd_T26 (x.set i v) (i : Int) = v := by simp [rd_T26, h]
theorem markR_l0 (a : Int) (n : Nat) (hn : n ≤ 1048576) (ha0 : 0 ≤ a) (ha : a ≤ 16777216) : ∀ (d k i : Nat) (x : List S26), x.length = n → i ≤ n → n - i = d → d + 30 < k → x.take i = (mkR a n).take i →
    laws_markRecS.l0 k x (a + 4 * (i : Int)) (i : Int) = some (a + 4 * (n : Int), mkR a n) := by
  intro d
  induction d with
  | zero =>
    intro k i x hx hi hd hk h
    obtain ⟨k, rfl⟩ : ∃ m, k = m + 1 := ⟨k - 1, by omega⟩
    simp only [laws_markRecS.l0]
    rw [if_neg (by omega)]
    rw [List.take_of_length_le (by omega), List.take_of_length_le (by rw [mkR_length]; omega)] at h
    rw [h, show i = n by omega]
  | succ d ih =>
    intro k i x hx hi hd hk h
    obtain ⟨k, rfl⟩ : ∃ m, k = m + 1 := ⟨k - 1, by omega⟩
    simp only [laws_markRecS.l0]
    have hlx : i < x.length := by omega
    rw [if_pos (by omega), if_pos (by omega)]
    simp only [Option.bind_some, Int.toNat_natCast]
    have hs : ∀ v, rd_T26 (x.set i v) (i : Int) = v := fun v => rd_set26 x i v hlx
    simp only [hs, List.set_set]
    generalize hp : a + 4 * (i : Int) = p
    have w1 : wrap64 (p + 1) = p + 1 := by unfold wrap64; omega
    have w2 : wrap64 (p + 1 + 1) = p + 2 := by unfold wrap64; omega
    have w3 : wrap64 (p + 2 + 1) = p + 3 := by unfold wrap64; omega
    have w4 : wrap64 (p + 3 + 1) = a + 4 * ((i + 1 : Nat) : Int) := by unfold wrap64; omega
    rw [w1, w2, w3, w4, markT_eq (p + 3) (by omega) (by omega) k (by omega)]
    simp only [Option.bind_some]
    rw [wr1w i (by omega)]
    have hE : (⟨Int.tmod p 3 == 0, p + 1, p + 2, mtx (p + 3)⟩ : S26) = mkE (a + 4 * (i : Int)) := by rw [hp]; rfl
    rw [hE]
    exact ih k (i + 1) _ (by simp [hx]) (by omega) (by omega) (by omega) (mkR_step a x n i (by omega) hx h)
theorem markR_eq (a : Int) (l : List S26) (hl : l.length ≤ 1048576) (ha0 : 0 ≤ a) (ha : a ≤ 16777216) (k : Nat) (hk : l.length + 30 < k) : laws_markRecS.f k l a = some (a + 4 * (l.length : Int), mkR a l.length) := by
  unfold laws_markRecS.f
  have := markR_l0 a l.length hl ha0 ha l.length k 0 l rfl (by omega) (by omega) hk rfl
  simpa using this
theorem heldR_l0 (n : Nat) (hn : n ≤ 1048576) : ∀ (d k i : Nat), i ≤ n → n - i = d → d + 30 < k → laws_heldRecS.l0 k (mkR 1 n) (1 + 4 * (i : Int)) (i : Int) = some (1 + 4 * (n : Int)) := by
  intro d
  induction d with
  | zero =>
    intro k i hi hd hk
    obtain ⟨k, rfl⟩ : ∃ m, k = m + 1 := ⟨k - 1, by omega⟩
    simp only [laws_heldRecS.l0]
    rw [if_neg (by rw [mkR_length]; omega), show i = n by omega]
  | succ d ih =>
    intro k i hi hd hk
    obtain ⟨k, rfl⟩ : ∃ m, k = m + 1 := ⟨k - 1, by omega⟩
    simp only [laws_heldRecS.l0]
    have e : rd_T26 (mkR 1 n) (i : Int) = mkE (1 + 4 * (i : Int)) := by
      have : i < n := by omega
      simp [rd_T26, mkR, this]
    rw [e, if_pos (by rw [mkR_length]; omega), if_pos (by omega)]
    generalize hp : 1 + 4 * (i : Int) = p
    have w1 : wrap64 (p + 1) = p + 1 := by unfold wrap64; omega
    have w2 : wrap64 (p + 1 + 1) = p + 2 := by unfold wrap64; omega
    have w3 : wrap64 (p + 2 + 1) = p + 3 := by unfold wrap64; omega
    have w4 : wrap64 (p + 3 + 1) = 1 + 4 * ((i + 1 : Nat) : Int) := by unfold wrap64; omega
    rw [w1, w2, w3, w4, markT_eq (p + 3) (by omega) (by omega) k (by omega)]
    unfold mkE
    simp only [Option.bind_some, bne_self_eq_false]
    rw [if_neg (by decide), if_pos trivial, if_pos trivial, if_pos trivial, wr1w i (by omega)]
    exact ih k (i + 1) (by omega) (by omega) (by omega)
theorem heldR_eq (n : Nat) (hn : n ≤ 1048576) (k : Nat) (hk : n + 30 < k) : laws_heldRecS.f k (mkR 1 n) 1 = some (1 + 4 * (n : Int)) := by
  unfold laws_heldRecS.f
  have := heldR_l0 n hn n k 0 (by omega) (by omega) hk
  simpa using this

theorem wordCmp_l0 (a b : ByteArray) (ha : a.size ≤ 1048576) (hb : b.size ≤ 1048576) : ∀ (d k i : Nat), a.size = i + d → i ≤ b.size → 2 * d + 1 < k →
    ∃ r, spec_WordCmp.l0 k a b (i : Int) = some r ∧ decide (r < 0) = Op.bytesLess (a.data.toList.drop i) (b.data.toList.drop i) := by
  intro d
  induction d with
  | zero =>
    intro k i hi hj hk
    obtain ⟨k, rfl⟩ : ∃ m, k = m + 2 := ⟨k - 2, by omega⟩
    simp only [spec_WordCmp.l0]
    rw [if_neg (by omega)]
    simp only [spec_WordCmp.j1]
    rw [if_neg (by decide)]
    have e1 : a.data.toList.drop i = [] := List.drop_eq_nil_of_le (by rw [data_length]; omega)
    rw [e1]
    by_cases c : (a.size : Int) < (b.size : Int)
    · rw [if_pos c]
      refine ⟨_, rfl, ?_⟩
      have hlt : i < b.data.toList.length := by rw [data_length]; omega
      rw [List.drop_eq_getElem_cons hlt]; rfl
    · rw [if_neg c, if_neg (by omega)]
      refine ⟨_, rfl, ?_⟩
      rw [List.drop_eq_nil_of_le (by rw [data_length]; omega)]; rfl
  | succ d ih =>
    intro k i hi hj hk
    obtain ⟨k, rfl⟩ : ∃ m, k = m + 2 := ⟨k - 2, by omega⟩
    have hla : i < a.data.toList.length := by rw [data_length]; omega
    simp only [spec_WordCmp.l0]
    rw [if_pos (by omega)]
    simp only [spec_WordCmp.j1]
    by_cases c : (i : Int) < (b.size : Int)
    · have hlb : i < b.data.toList.length := by rw [data_length]; omega
      have ba : bt a (i : Int) = (a.data.toList[i].toNat : Int) := by
        have := bt_at a (i : Int) (by rw [Int.toNat_natCast]; omega)
        rw [← this]; simp [ByteArray.getElem_eq_getElem_data]
      have bb : bt b (i : Int) = (b.data.toList[i].toNat : Int) := by
        have := bt_at b (i : Int) (by rw [Int.toNat_natCast]; omega)
        rw [← this]; simp [ByteArray.getElem_eq_getElem_data]
      rw [decide_eq_true c, if_pos rfl, if_pos (by omega), if_pos (by omega), if_pos c, List.drop_eq_getElem_cons hla, List.drop_eq_getElem_cons hlb, ba, bb]
      generalize a.data.toList[i] = x
      generalize b.data.toList[i] = y
      have e : Op.bytesLess (x :: a.data.toList.drop (i + 1)) (y :: b.data.toList.drop (i + 1)) = (decide (x < y) || (x == y && Op.bytesLess (a.data.toList.drop (i + 1)) (b.data.toList.drop (i + 1)))) := rfl
      rw [e]
      by_cases c1 : (x.toNat : Int) < (y.toNat : Int)
      · rw [if_pos c1, decide_eq_true (show x < y by rw [UInt8.lt_iff_toNat_lt]; omega)]
        exact ⟨_, rfl, rfl⟩
      · rw [if_neg c1, decide_eq_false (show ¬ x < y by rw [UInt8.lt_iff_toNat_lt]; omega)]
        by_cases c2 : (x.toNat : Int) > (y.toNat : Int)
        · have hne : (x == y) = false := by
            rw [beq_eq_false_iff_ne]; intro h; subst h; omega
          rw [if_pos c2, hne]
          exact ⟨_, rfl, rfl⟩
        · have heq : x = y := UInt8.toNat_inj.1 (by omega)
          rw [if_neg c2, heq, wr1w i (by omega)]
          obtain ⟨r, h1, h2⟩ := ih k (i + 1) (by omega) (by omega) (by omega)
          refine ⟨r, h1, ?_⟩
          rw [h2]; simp
    · rw [decide_eq_false c, if_neg (by decide), if_neg (by omega), if_pos (by omega)]
      refine ⟨_, rfl, ?_⟩
      have e1 : b.data.toList.drop i = [] := List.drop_eq_nil_of_le (by rw [data_length]; omega)
      rw [e1]
      rcases a.data.toList.drop i with _ | ⟨x, l⟩ <;> rfl
def lessB (a b : ByteArray) : Bool := Op.bytesLess a.data.toList b.data.toList
theorem wordCmp_eq (a b : ByteArray) (ha : a.size ≤ 1048576) (hb : b.size ≤ 1048576) (k : Nat) (hk : 2 * a.size + 1 < k) : ∃ r, spec_WordCmp.f k a b = some r ∧ decide (r < 0) = lessB a b := by
  obtain ⟨r, h1, h2⟩ := wordCmp_l0 a b ha hb a.size k 0 (by omega) (by omega) hk
  exact ⟨r, h1, by rw [h2]; simp [lessB]⟩
def cmpI (a b : Int) : Int := if a < b then -1 else if a > b then 1 else 0
theorem cmpI_eq (a b : Int) : cmp_Compare_int.f a b = some (cmpI a b) := by
  unfold cmp_Compare_int.f cmp_isNaN_int.f cmpI
  simp only [Option.bind_some, bne_self_eq_false]
  rw [if_neg (by decide), if_neg (by decide)]
  by_cases c1 : a < b
  · rw [if_pos c1, if_pos c1]
  · rw [if_neg c1, if_neg c1]
    by_cases c2 : a > b
    · rw [if_pos c2, if_pos c2]
    · rw [if_neg c2, if_neg c2]
def cmpS (a b : ByteArray) : Int := if lessB a b = true then -1 else if lessB b a = true then 1 else 0
theorem cmpS_eq (a b : ByteArray) : cmp_Compare_string.f a b = some (cmpS a b) := by
  unfold cmp_Compare_string.f cmp_isNaN_string.f cmpS
  simp only [Option.bind_some, bne_self_eq_false, ByteArray.toList_eq]
  rw [if_neg (by decide), if_neg (by decide)]
  unfold lessB
  cases Op.bytesLess a.data.toList b.data.toList <;> cases Op.bytesLess b.data.toList a.data.toList <;> rfl
theorem or3 (k : Nat) (hk : 4 ≤ k) (x y z : Int) : cmp_Or_int.f k [x, y, z] = some (if x = 0 then (if y = 0 then z else y) else x) := by
  obtain ⟨k, rfl⟩ : ∃ m, k = m + 4 := ⟨k - 4, by omega⟩
  unfold cmp_Or_int.f
  show cmp_Or_int.l0 (k + 4) 0 [x, y, z] 3 0 = _
  have e1 : cmp_Or_int.l0 (k + 1) 0 [x, y, z] 3 3 = some 0 := by
    rw [cmp_Or_int.l0, if_neg (by decide)]
  have e2 : cmp_Or_int.l0 (k + 2) 0 [x, y, z] 3 2 = some z := by
    rw [cmp_Or_int.l0, if_pos (by decide), if_pos (by decide), if_pos (by simp)]
    rw [show rd [x, y, z] 2 = z from rfl, show wrap64 (2 + 1) = 3 from by unfold wrap64; omega]
    rw [e1]
    by_cases c : z = 0
    · rw [if_pos c, c]
    · rw [if_neg c]
  have e3 : cmp_Or_int.l0 (k + 3) 0 [x, y, z] 3 1 = some (if y = 0 then z else y) := by
    rw [cmp_Or_int.l0, if_pos (by decide), if_pos (by decide), if_pos (by simp)]
    rw [show rd [x, y, z] 1 = y from rfl, show wrap64 (1 + 1) = 2 from by unfold wrap64; omega]
    rw [e2]
    by_cases c : y = 0
    · rw [if_pos c, if_pos c]
    · rw [if_neg c, if_neg c]
  rw [cmp_Or_int.l0, if_pos (by decide), if_pos (by decide), if_pos (by simp)]
  rw [show rd [x, y, z] 0 = x from rfl, show wrap64 (0 + 1) = 1 from by unfold wrap64; omega]
  rw [e3]
  by_cases c : x = 0
  · rw [if_pos c, if_pos c]
  · rw [if_neg c, if_neg c]
/-- Does a precede b? -/
def aheadB (a0 : Bool) (a1 a2 : Int) (a3 : ByteArray) (b0 : Bool) (b1 b2 : Int) (b3 : ByteArray) : Bool :=
  if (a0 && b0) = true then (if a1 = b1 then (if a2 = b2 then lessB a3 b3 else decide (b2 < a2)) else decide (a1 < b1)) else a0 && !b0
theorem isAhead_eq (a0 : Bool) (a1 a2 : Int) (a3 : ByteArray) (b0 : Bool) (b1 b2 : Int) (b3 : ByteArray) (k : Nat) (hk : 5 ≤ k) : impl_isAhead.f k a0 a1 a2 a3 b0 b1 b2 b3 = some (aheadB a0 a1 a2 a3 b0 b1 b2 b3) := by
  obtain ⟨k, rfl⟩ : ∃ m, k = m + 1 := ⟨k - 1, by omega⟩
  unfold impl_isAhead.f aheadB
  cases a0 with
  | false => simp [impl_isAhead.j0]
  | true =>
    cases b0 with
    | false => simp [impl_isAhead.j0]
    | true =>
      rw [if_pos rfl]
      simp only [impl_isAhead.j0]
      rw [if_neg (by decide), cmpI_eq, cmpI_eq, cmpS_eq]
      simp only [Option.bind_some]
      rw [or3 k (by omega), if_pos (show (true && true) = true from rfl)]
      simp only [Option.bind_some]
      congr 1
      unfold cmpI cmpS
      by_cases c1 : a1 = b1
      · rw [if_pos c1, if_neg (show ¬ a1 < b1 by omega), if_neg (show ¬ a1 > b1 by omega), if_pos rfl]
        by_cases c2 : a2 = b2
        · rw [if_pos c2, if_neg (show ¬ b2 < a2 by omega), if_neg (show ¬ b2 > a2 by omega), if_pos rfl]
          cases lessB a3 b3 with
          | true => rfl
          | false =>
            rw [if_neg (by decide)]
            cases lessB b3 a3 <;> rfl
        · rw [if_neg c2]
          by_cases c3 : b2 < a2
          · rw [if_pos c3, if_neg (by decide), decide_eq_true c3]; rfl
          · rw [if_neg c3, if_pos (show b2 > a2 by omega), if_neg (by decide), decide_eq_false c3]; rfl
      · rw [if_neg c1]
        by_cases c3 : a1 < b1
        · rw [if_pos c3, if_neg (by decide), decide_eq_true c3]; rfl
        · rw [if_neg c3, if_pos (show a1 > b1 by omega), if_neg (by decide), decide_eq_false c3]; rfl
theorem specAhead_eq (a0 : Bool) (a1 a2 : Int) (a3 : ByteArray) (b0 : Bool) (b1 b2 : Int) (b3 : ByteArray) (ha : a3.size ≤ 1048576) (hb : b3.size ≤ 1048576) (k : Nat) (hk : 2 * a3.size + b3.size + 5 < k) :
    spec_RecAhead.f k a0 a1 a2 a3 b0 b1 b2 b3 = some (recB a0 a1 a2 a3 && (recB b0 b1 b2 b3 && aheadB a0 a1 a2 a3 b0 b1 b2 b3)) := by
  obtain ⟨k, rfl⟩ : ∃ m, k = m + 1 := ⟨k - 1, by omega⟩
  unfold spec_RecAhead.f
  rw [recOk_eq _ _ _ _ ha _ (by omega), recOk_eq _ _ _ _ hb _ (by omega)]
  simp only [Option.bind_some]
  cases recB a0 a1 a2 a3 with
  | false => simp [spec_RecAhead.j0]
  | true =>
    rw [if_pos rfl]
    cases recB b0 b1 b2 b3 with
    | false => simp [spec_RecAhead.j0]
    | true =>
      rw [if_pos rfl]
      unfold aheadB
      cases a0 with
      | false => simp [spec_RecAhead.j0]
      | true =>
        simp only [spec_RecAhead.j0]
        rw [if_neg (by decide)]
        cases b0 with
        | false => rfl
        | true =>
          rw [if_pos rfl, if_pos (show (true && true) = true from rfl)]
          by_cases c1 : a1 = b1
          · rw [if_pos c1, if_pos c1]
            by_cases c2 : a2 = b2
            · rw [if_pos c2, if_pos c2]
              obtain ⟨r, h1, h2⟩ := wordCmp_eq a3 b3 ha hb k (by omega)
              rw [h1]
              simp [h2]
            · rw [if_neg c2, if_neg c2]; simp
          · rw [if_neg c1, if_neg c1]; simp
def ahR (x y : S26) : Bool := aheadB x.f0 x.f1 x.f2 x.f3 y.f0 y.f1 y.f2 y.f3
theorem bl_eq : ∀ (x y : List UInt8), Op.bytesLess x y = decide (x < y)
  | [], [] => by simp [Op.bytesLess]
  | _ :: _, [] => by simp [Op.bytesLess]
  | [], _ :: _ => by simp [Op.bytesLess]
  | a :: x, b :: y => by
    rw [Op.bytesLess, bl_eq x y]
    simp only [List.cons_lt_cons_iff]
    by_cases h1 : a < b <;> by_cases h2 : a = b <;> by_cases h3 : x < y <;> simp [h1, h2, h3]
theorem lessB_irrefl (a : ByteArray) : lessB a a = false := by
  unfold lessB; rw [bl_eq]; exact decide_eq_false (List.lt_irrefl _)
theorem lessB_asymm (a b : ByteArray) (h : lessB a b = true) : lessB b a = false := by
  unfold lessB at *; rw [bl_eq] at *; exact decide_eq_false (List.lt_asymm (of_decide_eq_true h))
theorem lessB_ntrans (a b c : ByteArray) (h1 : lessB a b = false) (h2 : lessB b c = false) : lessB a c = false := by
  unfold lessB at *
  rw [bl_eq] at *
  have h1 := of_decide_eq_false h1
  have h2 := of_decide_eq_false h2
  refine decide_eq_false ?_
  rw [List.not_lt] at *
  exact List.le_trans h2 h1
theorem lessB_tri (a b : ByteArray) (h1 : lessB a b = false) (h2 : lessB b a = false) : a = b := by
  unfold lessB at *
  rw [bl_eq] at *
  have h1 := of_decide_eq_false h1
  have h2 := of_decide_eq_false h2
  rw [List.not_lt] at *
  exact ByteArray.ext (Array.toList_inj.1 (List.le_antisymm h2 h1))
def liveB (a1 a2 : Int) (s : ByteArray) (b1 b2 : Int) (t : ByteArray) : Bool := if a1 = b1 then (if a2 = b2 then lessB s t else decide (b2 < a2)) else decide (a1 < b1)
theorem liveB_false (a1 a2 : Int) (s : ByteArray) (b1 b2 : Int) (t : ByteArray) : liveB a1 a2 s b1 b2 t = false ↔ b1 < a1 ∨ (a1 = b1 ∧ (a2 < b2 ∨ (a2 = b2 ∧ lessB s t = false))) := by
  unfold liveB
  by_cases e1 : a1 = b1
  · rw [if_pos e1]
    by_cases e2 : a2 = b2
    · rw [if_pos e2]
      constructor
      · intro h; exact .inr ⟨e1, .inr ⟨e2, h⟩⟩
      · rintro (h | ⟨_, h | ⟨_, h⟩⟩)
        · omega
        · omega
        · exact h
    · rw [if_neg e2]
      constructor
      · intro h
        have := of_decide_eq_false h
        exact .inr ⟨e1, .inl (by omega)⟩
      · intro h
        exact decide_eq_false (by rcases h with h | ⟨_, h | ⟨h, _⟩⟩ <;> omega)
  · rw [if_neg e1]
    constructor
    · intro h
      have := of_decide_eq_false h
      exact .inl (by omega)
    · intro h
      exact decide_eq_false (by rcases h with h | ⟨h, _⟩ <;> omega)
theorem ahR_eq (x y : S26) : ahR x y = if (x.f0 && y.f0) = true then liveB x.f1 x.f2 x.f3 y.f1 y.f2 y.f3 else x.f0 && !y.f0 := rfl
theorem liveB_irrefl (a1 a2 : Int) (s : ByteArray) : liveB a1 a2 s a1 a2 s = false := by
  rw [liveB_false]; exact .inr ⟨rfl, .inr ⟨rfl, lessB_irrefl s⟩⟩
theorem liveB_asymm (a1 a2 : Int) (s : ByteArray) (b1 b2 : Int) (t : ByteArray) (h : liveB a1 a2 s b1 b2 t = true) : liveB b1 b2 t a1 a2 s = false := by
  rw [liveB_false]
  unfold liveB at h
  by_cases e1 : a1 = b1
  · rw [if_pos e1] at h
    by_cases e2 : a2 = b2
    · rw [if_pos e2] at h
      exact .inr ⟨e1.symm, .inr ⟨e2.symm, lessB_asymm _ _ h⟩⟩
    · rw [if_neg e2] at h
      exact .inr ⟨e1.symm, .inl (of_decide_eq_true h)⟩
  · rw [if_neg e1] at h
    exact .inl (of_decide_eq_true h)
theorem liveB_ntrans (a1 a2 : Int) (s : ByteArray) (b1 b2 : Int) (t : ByteArray) (c1 c2 : Int) (u : ByteArray) (h1 : liveB a1 a2 s b1 b2 t = false) (h2 : liveB b1 b2 t c1 c2 u = false) : liveB a1 a2 s c1 c2 u = false := by
  rw [liveB_false] at *
  rcases h1 with h1 | ⟨h1, h1' | ⟨h1', h1''⟩⟩ <;> rcases h2 with h2 | ⟨h2, h2' | ⟨h2', h2''⟩⟩
  · exact .inl (by omega)
  · exact .inl (by omega)
  · exact .inl (by omega)
  · exact .inl (by omega)
  · exact .inr ⟨by omega, .inl (by omega)⟩
  · exact .inr ⟨by omega, .inl (by omega)⟩
  · exact .inl (by omega)
  · exact .inr ⟨by omega, .inl (by omega)⟩
  · exact .inr ⟨by omega, .inr ⟨by omega, lessB_ntrans _ _ _ h1'' h2''⟩⟩
theorem ahR_ord : NetMath.Ord ahR where
  irrefl x := by
    rw [ahR_eq]
    cases x.f0 with
    | false => rfl
    | true => exact liveB_irrefl _ _ _
  ntrans x y z h1 h2 := by
    rw [ahR_eq] at *
    cases hx : x.f0 <;> cases hy : y.f0 <;> cases hz : z.f0 <;> simp [hx, hy, hz] at h1 h2 ⊢
    exact liveB_ntrans _ _ _ _ _ _ _ _ _ h1 h2
  asymm x y h := by
    rw [ahR_eq] at *
    cases hx : x.f0 <;> cases hy : y.f0 <;> simp [hx, hy] at h ⊢
    exact liveB_asymm _ _ _ _ _ _ h
theorem recR_dead (x : S26) (h : recR x = true) (h0 : x.f0 = false) : x = z26 := by
  obtain ⟨a, b, c, s⟩ := x
  simp only at h0
  subst h0
  have h : recB false b c s = true := h
  unfold recB zeroB at h
  simp only [Bool.not_false, Bool.true_and, Bool.false_and, Bool.or_false, Bool.and_eq_true, beq_iff_eq] at h
  obtain ⟨h1, h2, h3⟩ := h
  subst h1; subst h2
  rw [ByteArray.toList_eq] at h3
  have e : s = ⟨#[]⟩ := ByteArray.ext (Array.toList_inj.1 (by rw [h3]))
  subst e
  rfl
theorem ahR_tri (x y : S26) (hx : recR x = true) (hy : recR y = true) (h1 : ahR x y = false) (h2 : ahR y x = false) : x = y := by
  cases ex : x.f0 with
  | false =>
    cases ey : y.f0 with
    | false => rw [recR_dead x hx ex, recR_dead y hy ey]
    | true => rw [ahR_eq, ex, ey] at h2; simp at h2
  | true =>
    cases ey : y.f0 with
    | false => rw [ahR_eq, ex, ey] at h1; simp at h1
    | true =>
      rw [ahR_eq, ex, ey] at h1
      rw [ahR_eq, ex, ey] at h2
      simp only [Bool.and_self, if_true] at h1 h2
      rw [liveB_false] at h1 h2
      obtain ⟨a, b, c, s⟩ := x
      obtain ⟨a', b', c', s'⟩ := y
      simp only at *
      have e1 : b = b' := by rcases h1 with h1 | ⟨h1, _⟩ <;> rcases h2 with h2 | ⟨h2, _⟩ <;> omega
      have e2 : c = c' := by rcases h1 with h1 | ⟨h1, h1' | ⟨h1', _⟩⟩ <;> rcases h2 with h2 | ⟨h2, h2' | ⟨h2', _⟩⟩ <;> omega
      subst e1; subst e2; subst ex; subst ey
      have e3 : s = s' := by
        refine lessB_tri s s' ?_ ?_
        · rcases h1 with h1 | ⟨_, h1 | ⟨_, h1⟩⟩
          · omega
          · omega
          · exact h1
        · rcases h2 with h1 | ⟨_, h1 | ⟨_, h1⟩⟩
          · omega
          · omega
          · exact h1
      subst e3
      rfl
theorem recR_z : recR z26 = true := by
  show recB false 0 0 ⟨#[]⟩ = true
  unfold recB zeroB
  rw [ByteArray.toList_eq]
  rfl
theorem z26_last (x : S26) : ahR z26 x = false := by
  rw [ahR_eq]
  rfl
def okL (N : Nat) (l : List S26) : Prop := ∀ y, y ∈ l → recR y = true ∧ y.f3.size ≤ N
theorem okL_of (N : Nat) (l : List S26) (hf : fine N l) (c : recsB l = true) : okL N l := by
  intro y hy
  refine ⟨?_, hf y hy⟩
  unfold recsB at c
  simp only [Bool.and_eq_true, List.all_eq_true] at c
  exact c.2 y hy
theorem specAhR (x y : S26) (N : Nat) (hN : N ≤ 1048576) (hx : recR x = true ∧ x.f3.size ≤ N) (hy : recR y = true ∧ y.f3.size ≤ N) (k : Nat) (hk : 3 * N + 5 < k) :
    spec_RecAhead.f k x.f0 x.f1 x.f2 x.f3 y.f0 y.f1 y.f2 y.f3 = some (ahR x y) := by
  rw [specAhead_eq _ _ _ _ _ _ _ _ (by omega) (by omega) k (by omega)]
  rw [show recB x.f0 x.f1 x.f2 x.f3 = true from hx.1, show recB y.f0 y.f1 y.f2 y.f3 = true from hy.1]
  rfl
def ranked (l : List S26) : List S26 := if recsB l = true then RankMath.sort ahR l else []
theorem recsB_len (l : List S26) (h : recsB l = true) : l.length ≤ 64 := by
  unfold recsB at h
  simp only [Bool.and_eq_true, decide_eq_true_eq] at h
  exact h.1
theorem ranked_len (l : List S26) : (ranked l).length ≤ l.length := by
  unfold ranked
  split
  · rw [RankMath.sort_length]; omega
  · exact Nat.zero_le _
/-! the net -/
def wireOf (p : Nat × Nat) : S87 := ⟨(p.1 : Int), (p.2 : Int)⟩
def beqL : List S87 → List S87 → Bool
  | [], [] => true
  | x :: a, y :: b => decide (x.f0 = y.f0) && (decide (x.f1 = y.f1) && beqL a b)
  | _, _ => false
theorem beqL_eq : ∀ a b, beqL a b = true → a = b
  | [], [], _ => rfl
  | [], y :: b, h => by simp [beqL] at h
  | x :: a, [], h => by simp [beqL] at h
  | x :: a, y :: b, h => by
    simp only [beqL, Bool.and_eq_true, decide_eq_true_eq] at h
    obtain ⟨h1, h2, h3⟩ := h
    obtain ⟨x0, x1⟩ := x
    obtain ⟨y0, y1⟩ := y
    simp only at h1 h2
    rw [h1, h2, beqL_eq a b h3]
def is (n : Nat) (l : List S87) (x : Option (Int × List S87)) : Bool := match x with
  | some p => decide (p.1 = (n : Int)) && beqL p.2 l
  | none => false
theorem is_eq (n : Nat) (l : List S87) (x : Option (Int × List S87)) (h : is n l x = true) : x = some ((n : Int), l) := by
  match x, h with
  | some (m, r), h =>
    simp only [is, Bool.and_eq_true, decide_eq_true_eq] at h
    rw [h.1, beqL_eq r l h.2]
def canon (k : Nat) : List S87 := (NetMath.biNet k).flatten.map wireOf
set_option maxRecDepth 100000 in
theorem bit_impl : ∀ k, k < 6 → is (2 ^ k) (canon k) (impl_bitonic.f 3000 ((2 ^ k : Nat) : Int)) = true := by decide +kernel
set_option maxRecDepth 100000 in
theorem bit_impl6 : is 64 (canon 6) (impl_bitonic.f 3000 64) = true := by decide +kernel
theorem bit_in : ∀ k, k < 7 → (NetMath.biNet k).flatten.all (fun w => decide (w.1 < w.2) && decide (w.2 < 2 ^ k)) = true := by decide +kernel
theorem bitonic_at (j : Nat) (hj : j < 7) (k : Nat) (hk : 3000 ≤ k) : impl_bitonic.f k ((2 ^ j : Nat) : Int) = some (((2 ^ j : Nat) : Int), canon j) := by
  refine at_rounds (impl_bitonic.mono _) hk ?_
  by_cases c : j = 6
  · subst c
    exact is_eq _ _ _ bit_impl6
  · exact is_eq _ _ _ (bit_impl j (by omega))
def sizeB (n : Nat) (x : Option Int) (j : Nat) : Bool := decide (x = some ((2 ^ j : Nat) : Int)) && decide (n ≤ 2 ^ j)
theorem size_at : ∀ n : Fin 65, (List.range 7).any (sizeB n.val (impl_rankSize.f 10 (n.val : Int))) = true := by decide +kernel
theorem rankSize_at (n : Nat) (hn : n ≤ 64) (k : Nat) (hk : 10 ≤ k) : ∃ j, j < 7 ∧ n ≤ 2 ^ j ∧ impl_rankSize.f k (n : Int) = some ((2 ^ j : Nat) : Int) := by
  have := size_at ⟨n, by omega⟩
  rw [List.any_eq_true] at this
  obtain ⟨j, hj, h⟩ := this
  unfold sizeB at h
  simp only [Bool.and_eq_true, decide_eq_true_eq] at h
  exact ⟨j, List.mem_range.1 hj, h.2, at_rounds (impl_rankSize.mono _) hk h.1⟩
theorem swapR_swp (p : Nat × Nat) (l : List S26) (h1 : p.1 < l.length) (h2 : p.2 < l.length) : swapR (wireOf p) l = some (RankMath.swp ahR z26 p l) := by
  unfold swapR RankMath.swp wireOf
  dsimp only
  rw [if_pos ⟨by omega, by omega, by omega, by omega⟩, isAhead_eq _ _ _ _ _ _ _ _ 6 (by omega)]
  simp only [Option.bind_some]
  rw [show ∀ m : Nat, rd_T26 l (m : Int) = l.getD m z26 from fun m => rfl, show ∀ m : Nat, rd_T26 l (m : Int) = l.getD m z26 from fun m => rfl]
  simp only [Int.toNat_natCast]
  unfold ahR
  split <;> rfl
theorem runR_runs : ∀ (ps : List (Nat × Nat)) (l : List S26), (∀ p, p ∈ ps → p.1 < l.length ∧ p.2 < l.length) → runR (ps.map wireOf) l = some (RankMath.runs ahR z26 ps l)
  | [], l, _ => rfl
  | p :: ps, l, h => by
    have hp := h p (by simp)
    show (swapR (wireOf p) l).bind (runR (ps.map wireOf)) = some (RankMath.runs ahR z26 ps (RankMath.swp ahR z26 p l))
    rw [swapR_swp p l hp.1 hp.2]
    exact runR_runs ps _ (fun q hq => by rw [RankMath.swp_length]; exact h q (by simp [hq]))
theorem rankBit (l : List S26) (N : Nat) (hx : okL N l) (j : Nat) (hj : j < 7) (hl : l.length ≤ 2 ^ j) : impl_rankBy.f ((2 ^ j : Nat) : Int) (canon j) (l ++ List.replicate (2 ^ j - l.length) z26) = some (RankMath.sort ahR l ++ List.replicate (2 ^ j - l.length) z26) := by
  have hall := bit_in j hj
  rw [List.all_eq_true] at hall
  have hlen : (l ++ List.replicate (2 ^ j - l.length) z26).length = 2 ^ j := by simp; omega
  have h64 : 2 ^ j ≤ 64 := Nat.pow_le_pow_right (n := 2) (by omega) (show j ≤ 6 by omega)
  have hw : ∀ p, p ∈ (NetMath.biNet j).flatten → p.1 < p.2 ∧ p.2 < 2 ^ j := by
    intro p hp
    have := hall p hp
    simpa using this
  unfold impl_rankBy.f canon
  rw [if_pos (by rw [hlen]; omega), runR_runs _ _ (fun p hp => by rw [hlen]; have := hw p hp; omega)]
  congr 1
  refine RankMath.net_sort ahR_ord z26 z26 _ l (2 ^ j - l.length) (fun w h => ?_) (fun g => ?_) (fun x _ => z26_last x) (fun x y h1 h2 => ?_)
  · have := hw w h
    omega
  · rw [show l.length + (2 ^ j - l.length) = 2 ^ j by omega]
    exact NetMath.sorts_of_check (2 ^ j) (NetMath.biNet j) (NetMath.bi_ok j hj) g
  · have hz : ∀ x, x ∈ l ++ List.replicate (2 ^ j - l.length) z26 → recR x = true := by
      intro x hx2
      rcases List.mem_append.1 hx2 with h | h
      · exact (hx x h).1
      · rw [(List.mem_replicate.1 h).2]; exact recR_z
    exact ahR_tri x y (hz x h1) (hz y h2)
theorem irank (l : List S26) (N : Nat) (hx : okL N l) (h64 : l.length ≤ 64) (k : Nat) (hk : 3000 ≤ k) : impl_rank.f k l = some (RankMath.sort ahR l) := by
  unfold impl_rank.f
  obtain ⟨j, hj, hl, e⟩ := rankSize_at l.length h64 k (by omega)
  have hp : 2 ^ j ≤ 64 := Nat.pow_le_pow_right (n := 2) (by omega) (show j ≤ 6 by omega)
  rw [if_pos h64, e]
  simp only [Option.bind_some]
  rw [if_pos (by omega), if_pos (by omega), bitonic_at j hj k hk]
  simp only [Option.bind_some, Int.toNat_natCast]
  rw [show (rd_T26 [] 0) = z26 from rfl, rankBit l N hx j hj hl]
  simp only [Option.bind_some]
  have hs := RankMath.sort_length ahR l
  rw [if_pos (by rw [List.length_append, hs]; omega), List.take_append_of_le_length (by omega), List.take_of_length_le (by omega)]
theorem specRank_l1 (l acc : List S26) (N : Nat) (hN : N ≤ 1048576) (i : Nat) (hi : i < l.length) (hl : l.length ≤ 64) (ha : acc.length ≤ 64) (hx : okL N l) (hy : okL N acc) : ∀ (d k : Nat), d ≤ acc.length → d + 3 * N + 7 < k →
    (∀ j (hj : j < acc.length), d ≤ j → ahR l[i] acc[j] = true) → ∃ k', k ≤ k' + d + 1 ∧ spec_Rank.l1 k l acc (i : Int) (d : Int) = spec_Rank.l0 k' l (RankMath.ins ahR l[i] acc) ((i + 1 : Nat) : Int) := by
  intro d
  have mx := hx l[i] (List.getElem_mem _)
  induction d with
  | zero =>
    intro k hd hk h
    obtain ⟨k, rfl⟩ : ∃ m, k = m + 1 := ⟨k - 1, by omega⟩
    refine ⟨k, by omega, ?_⟩
    simp only [spec_Rank.l1]
    rw [if_neg (by omega), if_pos (by omega), if_pos (by omega), rd26 l i hi]
    simp only [Option.bind_some]
    rw [if_pos (by omega), if_pos (by omega), if_pos (by simp; omega), if_pos (by simp), if_pos (by simp; omega), wr1w i (by omega)]
    have hc := RankMath.cut_unique ahR l[i] acc 0 (by omega) (fun j hj _ => h j hj (by omega)) (fun h0 => absurd h0 (by omega))
    unfold RankMath.ins
    rw [hc]
    rfl
  | succ d ih =>
    intro k hd hk h
    obtain ⟨k, rfl⟩ : ∃ m, k = m + 1 := ⟨k - 1, by omega⟩
    have hlt : d < acc.length := by omega
    have ew : wrap64 (((d + 1 : Nat) : Int) - 1) = (d : Int) := by unfold wrap64; omega
    have my := hy acc[d] (List.getElem_mem _)
    have hs := specAhR l[i] acc[d] N hN mx my k (by omega)
    cases c : ahR l[i] acc[d] with
    | true =>
      obtain ⟨k', hk', e⟩ := ih k (by omega) (by omega) (fun j hj hdj => by
        by_cases hjd : j = d
        · subst hjd; exact c
        · exact h j hj (by omega))
      refine ⟨k', by omega, ?_⟩
      rw [← e]
      simp only [spec_Rank.l1]
      rw [if_pos (by omega), if_pos (by omega), if_pos (by omega), ew, if_pos (by omega), if_pos (by omega), rd26 l i hi, rd26 acc d hlt, hs, c]
      rfl
    | false =>
      refine ⟨k, by omega, ?_⟩
      simp only [spec_Rank.l1]
      rw [if_pos (by omega), if_pos (by omega), if_pos (by omega), ew, if_pos (by omega), if_pos (by omega), rd26 l i hi, rd26 acc d hlt, hs, c]
      simp only [Option.bind_some, Bool.false_eq_true, if_false, Int.toNat_natCast]
      rw [if_pos (by omega), if_pos (by omega), if_pos (by simp; omega), if_pos (by simp; omega), if_pos (by simp; omega), wr1w i (by omega)]
      have hc := RankMath.cut_unique ahR l[i] acc (d + 1) (by omega) (fun j hj hdj => h j hj hdj) (fun _ => c)
      unfold RankMath.ins
      rw [hc]
      rfl
theorem okL_ins (N : Nat) (x : S26) (acc : List S26) (hx : recR x = true ∧ x.f3.size ≤ N) (h : okL N acc) : okL N (RankMath.ins ahR x acc) := by
  intro y hy
  have := (RankMath.ins_perm ahR x acc).mem_iff.1 hy
  rcases List.mem_append.1 this with h1 | h1
  · exact h y h1
  · rw [List.mem_singleton.1 h1]; exact hx
theorem ins_length (x : S26) (acc : List S26) : (RankMath.ins ahR x acc).length = acc.length + 1 := by
  have := (RankMath.ins_perm ahR x acc).length_eq
  simpa using this
theorem specRank_l0 (l : List S26) (N : Nat) (hN : N ≤ 1048576) (hl : l.length ≤ 64) (hx : okL N l) : ∀ (d i k : Nat) (acc : List S26), i ≤ l.length → l.length - i = d → acc.length = i → okL N acc → d * 80 + 3 * N + 80 < k →
    spec_Rank.l0 k l acc (i : Int) = some (RankMath.insAll ahR acc (l.drop i)) := by
  intro d
  induction d with
  | zero =>
    intro i k acc hi hd ha hy hk
    obtain ⟨k, rfl⟩ : ∃ m, k = m + 1 := ⟨k - 1, by omega⟩
    simp only [spec_Rank.l0]
    rw [if_neg (by omega), List.drop_eq_nil_of_le (by omega)]
    rfl
  | succ d ih =>
    intro i k acc hi hd ha hy hk
    obtain ⟨k, rfl⟩ : ∃ m, k = m + 1 := ⟨k - 1, by omega⟩
    have hlt : i < l.length := by omega
    simp only [spec_Rank.l0]
    rw [if_pos (by omega)]
    obtain ⟨k', hk', e⟩ := specRank_l1 l acc N hN i hlt hl (by omega) hx hy acc.length k (by omega) (by omega) (fun j hj h => absurd hj (by omega))
    rw [e, List.drop_eq_getElem_cons hlt]
    exact ih (i + 1) k' _ (by omega) (by omega) (by rw [ins_length]; omega) (okL_ins N _ _ (hx _ (List.getElem_mem _)) hy) (by omega)
theorem sRank (l : List S26) (N : Nat) (hN : N ≤ 1048576) (hf : fine N l) (hl : l.length ≤ 1048576) (k : Nat) (hk : l.length + 3 * N + 6000 < k) : spec_Rank.f k l = some (ranked l) := by
  unfold spec_Rank.f ranked
  rw [recsOk_eq l N hN hf hl _ (by omega)]
  simp only [Option.bind_some]
  by_cases c : recsB l = true
  · rw [if_pos c, if_pos c]
    have h64 := recsB_len l c
    have := specRank_l0 l N hN h64 (okL_of N l hf c) l.length 0 k [] (by omega) (by omega) rfl (fun y hy => absurd hy (by simp)) (by omega)
    simpa [RankMath.sort] using this
  · rw [if_neg c, if_neg c]
def padTo (n : Nat) (r : List S26) : List S26 := (r ++ List.replicate (n - r.length) z26).take n
theorem padTo_impl (n : Nat) (r : List S26) : r.take (min r.length (List.replicate n (rd_T26 [] 0)).length) ++ (List.replicate n (rd_T26 [] 0)).drop (min r.length (List.replicate n (rd_T26 [] 0)).length) = padTo n r := by
  rw [show (rd_T26 [] 0) = z26 from rfl, List.length_replicate, List.drop_replicate]
  unfold padTo
  by_cases c : r.length ≤ n
  · rw [Nat.min_eq_left c, List.take_of_length_le (Nat.le_refl _), List.take_of_length_le (by simp; omega)]
  · rw [Nat.min_eq_right (by omega), Nat.sub_self, show n - r.length = 0 by omega, List.replicate_zero, List.append_nil, List.append_nil]
theorem padTo_len (n : Nat) (r : List S26) : (padTo n r).length = n := by
  unfold padTo
  simp
  omega
def topped (l : List S26) (a : Int) : List S26 := if recsB l = true ∧ 0 ≤ a ∧ a ≤ 8 then padTo a.toNat (RankMath.sort ahR l) else []
theorem topped_len (l : List S26) (a : Int) : (topped l a).length ≤ 8 := by
  unfold topped
  split
  · rename_i h
    rw [padTo_len]
    omega
  · exact Nat.zero_le _
theorem iTopK (l : List S26) (a : Int) (N : Nat) (hN : N ≤ 1048576) (hf : fine N l) (k : Nat) (hk : 3000 ≤ k) : impl_TopK.f k l a = some (topped l a) := by
  unfold impl_TopK.f topped
  rw [areRecs_eq l N hN hf]
  simp only [Option.bind_some]
  by_cases c : recsB l = true
  · rw [if_pos c]
    unfold impl_within.f
    by_cases c1 : a ≥ 0
    · rw [if_pos c1]
      simp only [Option.bind_some]
      by_cases c2 : a ≤ 8
      · rw [if_pos (decide_eq_true c2), if_pos c1, if_pos c2, irank l N (okL_of N l hf c) (recsB_len l c) k hk, if_pos ⟨c, c1, c2⟩]
        simp only [Option.bind_some]
        rw [padTo_impl]
      · rw [if_neg (by simpa using c2), if_neg (fun h => c2 h.2.2)]
    · rw [if_neg c1]
      simp only [Option.bind_some]
      rw [if_neg (by decide), if_neg (fun h => c1 h.2.1)]
  · rw [if_neg c, if_neg (fun h => c h.1)]
theorem specTop_l0 (n : Nat) (hn : n ≤ 8) : ∀ (d k : Nat) (r : List S26), n - r.length = d → r.length ≤ 64 → d < k → spec_TopK.l0 k (n : Int) r = some (padTo n r) := by
  intro d
  induction d with
  | zero =>
    intro k r hd hr hk
    obtain ⟨k, rfl⟩ : ∃ m, k = m + 1 := ⟨k - 1, by omega⟩
    simp only [spec_TopK.l0]
    rw [if_neg (by omega), if_pos (by omega), if_pos (by omega)]
    unfold padTo
    rw [hd, List.replicate_zero, List.append_nil, Int.toNat_natCast]
  | succ d ih =>
    intro k r hd hr hk
    obtain ⟨k, rfl⟩ : ∃ m, k = m + 1 := ⟨k - 1, by omega⟩
    simp only [spec_TopK.l0]
    rw [if_pos (by omega), if_pos (by omega), ih k _ (by simp; omega) (by simp; omega) (by omega)]
    unfold padTo
    rw [List.append_assoc, List.length_append, List.length_singleton, show n - r.length = (n - (r.length + 1)) + 1 by omega, List.replicate_succ]
    rfl
theorem sTopK (l : List S26) (a : Int) (N : Nat) (hN : N ≤ 1048576) (hf : fine N l) (hl : l.length ≤ 1048576) (k : Nat) (hk : l.length + 3 * N + 6010 < k) : spec_TopK.f k l a = some (topped l a) := by
  obtain ⟨k, rfl⟩ : ∃ m, k = m + 1 := ⟨k - 1, by omega⟩
  unfold spec_TopK.f topped
  rw [recsOk_eq l N hN hf hl _ (by omega)]
  simp only [Option.bind_some]
  by_cases c : recsB l = true
  · rw [if_pos c]
    by_cases c1 : a < 0
    · rw [if_pos c1, if_neg (fun h => by omega)]
      simp [spec_TopK.j0]
    · rw [if_neg c1]
      by_cases c2 : a > 8
      · rw [decide_eq_true c2, if_neg (fun h => by omega)]
        simp [spec_TopK.j0]
      · rw [decide_eq_false c2, if_pos ⟨c, by omega, by omega⟩]
        simp only [spec_TopK.j0]
        rw [if_neg (by decide), sRank l N hN hf hl k (by omega)]
        simp only [Option.bind_some]
        have h64 := recsB_len l c
        have hs := RankMath.sort_length ahR l
        unfold ranked
        rw [if_pos c]
        obtain ⟨n, rfl⟩ := Int.eq_ofNat_of_zero_le (show 0 ≤ a by omega)
        rw [Int.toNat_natCast]
        exact specTop_l0 n (by omega) _ k _ rfl (by omega) (by omega)
  · rw [if_neg c, if_neg (fun h => c h.1)]
    simp [spec_TopK.j0]
theorem FnExactTopK (l0 : (List S23)) (w0 : (l0.length ≤ maxLen ∧ ∀ y, y ∈ l0 → ok23 y)) (a1 : Int) (w1 : (Lit.int .i64 a1).wf = true) : ∃ k, laws_FnExactTopK.f k l0 a1 = some true := by
  refine ⟨2 * l0.length + 3 * dat l0 + 7100, ?_⟩
  unfold laws_FnExactTopK.f
  rw [szRecS_eq l0 w0 _ (by omega) 1048576 (by omega) (by omega)]
  simp only [Option.bind_some]
  by_cases c : (1048576 : Int) < ((l0.length + dat l0 : Nat) : Int)
  · rw [if_pos c, if_pos (by omega)]
  · have hl : (l0.map cv).length = l0.length := by simp
    have hf := fine_map l0
    have ht : ∀ k, l0.length < k → laws_toRecS.f k l0 = some (l0.map cv) := fun k hk => toRecS_eq l0 (by omega) k hk
    rw [if_neg c, if_neg (by omega), ht _ (by omega)]
    simp only [Option.bind_some]
    generalize l0.map cv = l at hl hf ht
    rw [sTopK l a1 (dat l0) (by omega) hf (by omega) _ (by omega), iTopK l a1 (dat l0) (by omega) hf _ (by omega)]
    simp only [Option.bind_some]
    have hi := iTopK l a1 (dat l0) (by omega) hf
    have hr := topped_len l a1
    generalize topped l a1 = r at hi hr
    rw [eqRecS_eq r (by omega) _ (by omega)]
    simp only [Option.bind_some, if_true]
    rw [eqRecS_eq l (by omega) _ (by omega)]
    simp only [Option.bind_some, if_true]
    rw [markR_eq 1 l (by omega) (by omega) (by omega) _ (by omega)]
    simp only [Option.bind_some]
    rw [if_neg (by omega)]
    show laws_FnExactTopK.j0 (2 * l0.length + 3 * dat l0 + 7099 + 1) l0 a1 r r (!true) = some true
    simp only [laws_FnExactTopK.j0]
    rw [if_neg (by decide), markR_eq 1 r (by omega) (by omega) (by omega) _ (by omega)]
    simp only [Option.bind_some]
    rw [heldR_eq _ (by omega) _ (by omega)]
    simp only [Option.bind_some]
    rw [if_neg (by omega), if_pos trivial, ht _ (by omega)]
    simp only [Option.bind_some]
    rw [hi _ (by omega)]
    simp only [Option.bind_some]
    rw [eqRecS_eq r (by omega) _ (by omega)]
    simp only [Option.bind_some, if_true]
    rw [if_neg (by omega)]

end Go.Proofs.Ytmhikpfaoacgpaa.Pure
